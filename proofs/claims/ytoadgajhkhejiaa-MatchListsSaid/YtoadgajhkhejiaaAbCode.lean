/- The abstract run of a whole function, and that it tells what a call comes to. No condition. -/
import Derived.Test.YtoadgajhkhejiaaAbDraw2
namespace Go.Ab
open Go
inductive Ghost where
  | clear (ts : List Tmp)
  | shut (t : Tmp)
  | own (t : Tmp) (sz : Nat)
  | keep (j : Nat)
inductive AExit where
  | normal
  | exit (id : Nat)
  | ret
inductive ACode where
  | skip
  | ops (l : List AOper)
  | draw (l : List DOper)
  | seq (a b : ACode)
  | cond (c : Operand) (a b : ACode)
  | block (id : Nat) (a : ACode)
  | loop (clr : List Tmp) (a : ACode)
  | exit (id : Nat)
  | ret
  | ghost (g : Ghost) (a : ACode)
  | after (a : ACode) (g : Ghost)
inductive Bel (n : Nat) : AV → Prop
  | any : Bel n .any
  | pl (v : Value) : Bel n (.pl v)
  | nils : Bel n .nils
  | sl (sz : Nat) (xs : List AV) (h : ∀ j (hj : j < xs.length), Bel n (xs[j])) : Bel n (.sl sz xs)
  | rp (cs : List AV) (h : ∀ i (hi : i < cs.length), Bel n (cs[i])) : Bel n (.rp cs)
  | ptr (l off : Nat) (h : l < n) : Bel n (.ptr l off)
  | osl (l m : Nat) (h : l < n) : Bel n (.osl l m)
  | ep (l m i off : Nat) (h : l < n) : Bel n (AV.ep l m i off)
  | psl (l off m : Nat) (h : l < n) : Bel n (.psl l off m)
  | zsl : Bel n .zsl
  | win (sz l m lo : Nat) (h : l < n) : Bel n (.win sz l m lo)
  | agg (cs : List AV) (h : ∀ i (hi : i < cs.length), Bel n (cs[i])) : Bel n (.agg cs)
  | tup (cs : List AV) (h : ∀ i (hi : i < cs.length), Bel n (cs[i])) : Bel n (.tup cs)
  | fn (f : FuncId) (fs cs : List AV) (h : ∀ j (hj : j < fs.length), Bel n (fs[j])) (h' : ∀ j (hj : j < cs.length), Bel n (cs[j])) : Bel n (.fn f fs cs)
def BelO (n : Nat) : Ob → Prop
  | .dead | .glo _ _ => True
  | .box cs => ∀ c ∈ cs, Bel n c
  | .row _ xs => ∀ x ∈ xs, Bel n x
theorem Bel.list {n : Nat} {xs : List AV} (h : ∀ i (hi : i < xs.length), Bel n (xs[i])) : ∀ x ∈ xs, Bel n x := by
  intro x hx
  obtain ⟨i, hi, rfl⟩ := List.getElem_of_mem hx
  exact h i hi
theorem Bel.of_mem {n : Nat} {xs : List AV} (h : ∀ x ∈ xs, Bel n x) : ∀ i (hi : i < xs.length), Bel n (xs[i]) := fun _ hi => h _ (List.getElem_mem hi)
def sealV (σ : St) : AV → Option (AV × St)
  | .osl l n => match σ[l]? with
    | some (.row sz xs) => if n = xs.length then some (.sl sz xs, σ.set l .dead) else none
    | _ => none
  | .ptr l 0 => match σ[l]? with
    | some (.box cs) => some (.rp cs, σ.set l .dead)
    | _ => none
  | v => some (v, σ)
def sealL : St → List AV → Option (List AV × St)
  | σ, [] => some ([], σ)
  | σ, v :: vs => match sealV σ v with
    | some (v', σ') => match sealL σ' vs with
      | some (vs', σ'') => some (v' :: vs', σ'')
      | none => none
    | none => none
def clearA (env : Env) : List Tmp → Env
  | [] => env
  | t :: ts => clearA (env.set t .any) ts
def gh (n0 : Nat) (g : Ghost) (env : Env) (σ : St) (K : Env → St → Prop) : Prop :=
  match g with
  | .clear ts => K (clearA env ts) σ
  | .shut t => match tmpA env t with
    | .agg cs => match sealL σ cs with
      | some (cs', σ') => K (env.set t (.agg cs')) σ'
      | none => False
    | v => match sealV σ v with
      | some (v', σ') => K (env.set t v') σ'
      | none => False
  | .own t sz => match tmpA env t with
    | .nils => K (env.set t (.osl σ.length 0)) (σ ++ [.row sz []])
    | _ => False
  | .keep j => (∀ v ∈ env, Bel (n0 + j) v) ∧ (∀ o ∈ σ.take (n0 + j), BelO (n0 + j) o) ∧ n0 + j ≤ σ.length ∧ K env (σ.take (n0 + j))
def LoopP (F : (Env → St → Prop) → Env → St → Prop) (env : Env) (σ : St) : Prop :=
  ∀ I : Env → St → Prop, (∀ env σ, F I env σ → I env σ) → I env σ
def ax (P : Program) (n0 : Nat) : ACode → (AExit → Env → St → Prop) → Env → St → Prop
  | .skip, K, env, σ => K .normal env σ
  | .ops l, K, env, σ => axops P (K .normal) l env σ
  | .draw l, K, env, σ => axd P (K .normal) l env [σ] σ fun _ => True
  | .seq a b, K, env, σ => ax P n0 a (fun e env σ => match e with
      | .normal => ax P n0 b K env σ
      | e => K e env σ) env σ
  | .cond c a b, K, env, σ => match boolA (aev env c) with
    | some true => ax P n0 a K env σ
    | some false => ax P n0 b K env σ
    | none => False
  | .block id a, K, env, σ => ax P n0 a (fun e env σ => match e with
      | .exit j => if j = id then K .normal env σ else K (.exit j) env σ
      | e => K e env σ) env σ
  | .loop clr a, K, env, σ => LoopP (fun I env σ => ax P n0 a (fun e env σ => match e with
      | .normal => I (clearA env clr) σ
      | e => K e env σ) env σ) (clearA env clr) σ
  | .exit id, K, env, σ => K (.exit id) env σ
  | .ret, K, env, σ => K .ret env σ
  | .ghost g a, K, env, σ => gh n0 g env σ fun env σ => ax P n0 a K env σ
  | .after a g, K, env, σ => ax P n0 a (fun e env σ => match e with
      | .normal => gh n0 g env σ (K .normal)
      | e => K e env σ) env σ
def compDs (P : Program) (own : List Tmp) (arr : Array Oper) : List Oper → List DOper → Option (List DOper)
  | [], [] => some []
  | o :: os, d :: ds => (compD P own arr o d).bind fun x => (compDs P own arr os ds).map ({ d with o := x } :: ·)
  | _, _ => none
theorem compDs_at {P : Program} {own : List Tmp} {arr : Array Oper} : ∀ {l : List Oper} {ds ds' : List DOper}, compDs P own arr l ds = some ds' →
    l.length = ds'.length ∧ ∀ (j : Nat) (o : Oper) (d : DOper), l[j]? = some o → ds'[j]? = some d → CompAt P own arr o d := by
  intro l
  induction l with
  | nil =>
    intro ds ds' h
    cases ds <;> simp [compDs] at h
    subst h
    exact ⟨rfl, fun j o d hj => by simp at hj⟩
  | cons o l ih =>
    intro ds ds' h
    cases ds with
    | nil => simp [compDs] at h
    | cons d ds =>
      simp only [compDs] at h
      obtain ⟨x, hx, h⟩ := opt_bind_some h
      obtain ⟨r, hr, rfl⟩ := opt_map_some h
      obtain ⟨h1, h2⟩ := ih hr
      refine ⟨by simp [h1], fun j o' d' hj hd => ?_⟩
      cases j with
      | zero =>
        simp only [List.getElem?_cons_zero, Option.some.injEq] at hj hd
        subst hj; subst hd
        exact compD_at hx
      | succ j => exact h2 j o' d' (by simpa using hj) (by simpa using hd)
def cc (P : Program) (own : List Tmp) : Code → ACode → Option ACode
  | c, .ghost g a => (cc P own c a).map (.ghost g ·)
  | c, .after a g => (cc P own c a).map (.after · g)
  | .skip, .skip => some .skip
  | .region _ ⟨ops⟩ false, .ops _ => (compL P own ⟨ops⟩ ops).map .ops
  | .region _ ⟨ops⟩ true, .draw ds => (compDs P own ⟨ops⟩ ops ds).bind fun ds' => if okD ops ds' && okF ops ds' then some (.draw ds') else none
  | .seq a b, .seq x y => (cc P own a x).bind fun x' => (cc P own b y).map fun y' => .seq x' y'
  | .cond c a b, .cond _ x y => (cc P own a x).bind fun x' => (cc P own b y).map fun y' => .cond c x' y'
  | .block id a, .block _ x => (cc P own a x).map (.block id ·)
  | .loop a, .loop clr x => (cc P own a x).map (.loop clr ·)
  | .exit id, .exit _ => some (.exit id)
  | .ret, .ret => some .ret
  | _, _ => none
def toExit : AExit → Exit
  | .normal => .normal
  | .exit id => .exit id
  | .ret => .ret
structure Base where
  M : Nat → Prop
  σ : St
  ν : Nat → Value
  w : World
  d : List Deferred
def At (B : Base) (env : Env) (σ : St) (a : Act) (w : World) : Prop :=
  ∃ M ν, Good M σ ν w ∧ Later B.M B.σ B.ν B.w M σ ν w ∧ EnvR M (RefOK σ ν) w env a ∧ a.defers = B.d
section
variable {P : Program} {B : Base} {env : Env} {σ : St} {a : Act} {w : World}
theorem tmpA_set (env : Env) (s : Tmp) (r : AV) (t : Tmp) : tmpA (env.set s r) t = if s = t then (if t < env.length then r else .any) else tmpA env t := by
  have := tmpA_put env (some s) r t
  simpa [putA] using this
theorem At.set {r : AV} {t : Tmp} (h : At B env σ a w) (hr : ∀ M ν, Good M σ ν w → EnvR M (RefOK σ ν) w env a → Rep M (RefOK σ ν) w r (a.tmps.getD t undef)) : At B (env.set t r) σ a w := by
  obtain ⟨M, ν, g, l, e, d⟩ := h
  refine ⟨M, ν, g, l, ⟨by simpa using e.len, fun s => ?_⟩, d⟩
  rw [tmpA_set]
  split
  · rename_i hts; subst hts
    split
    · exact hr M ν g e
    · exact .any _
  · exact e.rep s
theorem At.clear (h : At B env σ a w) : ∀ ts, At B (clearA env ts) σ a w := by
  intro ts
  induction ts generalizing env with
  | nil => exact h
  | cons t ts ih => exact ih (h.set fun _ _ _ _ => .any _)
theorem Good.die {M : Nat → Prop} {ν : Nat → Value} (g : Good M σ ν w) {l : Nat} {o : Ob} (hs : σ[l]? = some o) (hd : o ≠ .dead) :
    Good (fun k => M k ∧ blk (ν l) ≠ some k) (σ.set l .dead) ν w ∧ Later M σ ν w (fun k => M k ∧ blk (ν l) ≠ some k) (σ.set l .dead) ν w :=
  g.update hs hd .dead (fun _ _ => rfl) (Nat.le_refl _) (fun _ _ _ => rfl) (fun _ _ h => h.1) (fun _ h h' => ⟨h, h'⟩) (fun b h => g.lt b h.1) (fun h => absurd rfl h) (fun _ _ h => h.set_dead hs) (.dead _)
theorem sealV_ok {M : Nat → Prop} {ν : Nat → Value} {x x' : AV} {σ' : St} {v : Value} (g : Good M σ ν w) (h : sealV σ x = some (x', σ')) (hr : Rep M (RefOK σ ν) w x v) :
    ∃ M', Good M' σ' ν w ∧ Later M σ ν w M' σ' ν w ∧ Rep M' (RefOK σ' ν) w x' v := by
  have same : x' = x → σ' = σ → ∃ M', Good M' σ' ν w ∧ Later M σ ν w M' σ' ν w ∧ Rep M' (RefOK σ' ν) w x' v := by
    rintro rfl rfl; exact ⟨M, g, .refl, hr⟩
  unfold sealV at h
  split at h
  · rename_i l n
    split at h
    · rename_i sz xs hs
      split at h
      · rename_i hn
        simp at h; obtain ⟨rfl, rfl⟩ := h
        obtain ⟨g', l'⟩ := g.die hs (by simp)
        refine ⟨_, g', l', ?_⟩
        obtain ⟨a, len, cap, rfl, hR⟩ := hr.osl_inv
        have e := hR.s_row hs hn
        rcases (g.ob l _ hs).row_inv with ⟨e3, rfl⟩ | ⟨b, o, cap2, c, el, fr, e3, hM, hh, hlen, hsz, hf, hrow⟩
        · rw [e3] at e; simp at e; obtain ⟨rfl, rfl, rfl⟩ := e; exact .sl0 _ _ _
        · have e4 := e
          rw [e3] at e; simp at e; obtain ⟨rfl, rfl, rfl⟩ := e
          refine .sl sz xs b o cap (fun i j => c[o + (i * sz + j)]?.getD undef) hlen (fun i j hi hj => ?_) (fun i j hi hj => ?_)
          · obtain ⟨q1, _⟩ := hrow i j hi hj
            have hlt := idx_lt (i := i) (k := cap) (by omega) q1
            refine ⟨q1, fun x => x.2 (by rw [e3]; rfl), ?_⟩
            rw [cell_of_row _ _ _ _ _ _ hh]; simp [show o + (i * sz + j) < c.size by omega]
          · obtain ⟨q1, q2⟩ := hrow i j hi hj
            have hlt := idx_lt (i := i) (k := cap) (by omega) q1
            exact l'.rep g (q2 _ (by simp [show o + (i * sz + j) < c.size by omega]))
      · cases h
    · cases h
  · rename_i l
    split at h
    · rename_i cs hs
      simp at h; obtain ⟨rfl, rfl⟩ := h
      obtain ⟨g', l'⟩ := g.die hs (by simp)
      refine ⟨_, g', l', ?_⟩
      obtain ⟨b, o, rfl, hR⟩ := hr.ptr_inv
      have e := hR.p_box hs
      obtain ⟨b', o', c, el, fr, e', hM, hh, hsz, hf, hx⟩ := (g.ob l _ hs).box_inv
      rw [e'] at e; simp at e; obtain ⟨rfl, rfl⟩ := e
      refine .rp cs b o (fun j => c[o + j]?.getD undef) (fun j hj => ⟨fun x => x.2 (by rw [e']; rfl), ?_⟩) (fun j hj => ?_)
      · rw [cell_of_row _ _ _ _ _ _ hh]; simp [show o + j < c.size by omega]
      · exact l'.rep g (hx j hj _ (by simp [show o + j < c.size by omega]))
    · cases h
  · simp at h; exact same h.1.symm h.2.symm
theorem sealL_ok {ν : Nat → Value} : ∀ (xs : List AV) {M : Nat → Prop} {σ : St} {xs' : List AV} {σ' : St} {vs : List Value}, Good M σ ν w → sealL σ xs = some (xs', σ') → Reps M (RefOK σ ν) w xs vs →
    ∃ M', Good M' σ' ν w ∧ Later M σ ν w M' σ' ν w ∧ Reps M' (RefOK σ' ν) w xs' vs := by
  intro xs
  induction xs with
  | nil =>
    intro M σ xs' σ' vs g h hr
    simp [sealL] at h; obtain ⟨rfl, rfl⟩ := h
    exact ⟨M, g, .refl, hr⟩
  | cons x xs ih =>
    intro M σ xs' σ' vs g h hr
    cases vs with
    | nil => simp [Reps] at hr
    | cons v vs =>
      simp only [sealL] at h
      split at h
      · rename_i x1 σ1 hx
        split at h
        · rename_i xs2 σ2 hxs
          simp at h; obtain ⟨rfl, rfl⟩ := h
          obtain ⟨M1, g1, l1, r1⟩ := sealV_ok g hx hr.head
          obtain ⟨M2, g2, l2, r2⟩ := ih g1 hxs (l1.reps g hr.tail)
          exact ⟨M2, g2, l1.trans l2, .cons (l2.rep g1 r1) r2⟩
        · cases h
      · cases h
theorem RefOK.take {ν : Nat → Value} {m : Nat} {r : Ref} {v : Value} (h : RefOK (σ.take m) ν r v) : RefOK σ ν r v := by
  have key : ∀ (l : Nat) (o : Ob), (σ.take m)[l]? = some o → σ[l]? = some o := by
    intro l o h
    rw [List.getElem?_take] at h
    split at h
    · exact h
    · cases h
  cases r with
  | p l => simp only [RefOK] at h ⊢; cases ho : (σ.take m)[l]? with
    | none => simp [ho] at h
    | some o => rw [ho] at h; rw [key l o ho]; exact h
  | s l n => simp only [RefOK] at h ⊢; cases ho : (σ.take m)[l]? with
    | none => simp [ho] at h
    | some o => rw [ho] at h; rw [key l o ho]; exact h
  | e l n i => simp only [RefOK] at h ⊢; cases ho : (σ.take m)[l]? with
    | none => simp [ho] at h
    | some o => rw [ho] at h; rw [key l o ho]; exact h
theorem RefOK.of_take {ν : Nat → Value} {m : Nat} {r : Ref} {v : Value} (h : RefOK σ ν r v) (hr : ∀ l, (r = .p l ∨ (∃ n, r = .s l n) ∨ ∃ n i, r = .e l n i) → l < m) : RefOK (σ.take m) ν r v := by
  have key : ∀ l, l < m → (σ.take m)[l]? = σ[l]? := fun l hl => by rw [List.getElem?_take, if_pos hl]
  cases r with
  | p l => simp only [RefOK] at h ⊢; rw [key l (hr l (.inl rfl))]; exact h
  | s l n => simp only [RefOK] at h ⊢; rw [key l (hr l (.inr (.inl ⟨n, rfl⟩)))]; exact h
  | e l n i => simp only [RefOK] at h ⊢; rw [key l (hr l (.inr (.inr ⟨n, i, rfl⟩)))]; exact h
theorem Rep.take {M : Nat → Prop} {ν : Nat → Value} {m : Nat} {x : AV} {v : Value} (h : Rep M (RefOK σ ν) w x v) (hb : Bel m x) : Rep M (RefOK (σ.take m) ν) w x v := by
  induction h with
  | any v => exact .any v
  | pl v => exact .pl v
  | nils => exact .nils
  | sl0 sz a cap => exact .sl0 sz a cap
  | sl sz xs b o cap f hcap hc _ ih =>
    cases hb with
    | sl _ _ hb =>
      refine .sl sz xs b o cap f hcap hc fun i j hi hj => ih i j hi hj ?_
      have hx := hb i hi
      have : ∀ y ∈ (xs[i]).cells, Bel m y := by
        intro y hy
        generalize xs[i] = x at *
        cases x <;> simp only [AV.cells, List.mem_singleton] at hy <;> try (subst hy; exact hx)
        cases hx with
        | agg _ h => exact Bel.list h y hy
      exact this _ (List.getElem_mem hj)
  | rp cs b o f hc _ ih =>
    cases hb with
    | rp _ hb => exact .rp cs b o f hc fun j hj => ih j hj (hb j hj)
  | ptr l off b o h =>
    cases hb with
    | ptr _ _ hl => exact .ptr l off b o (h.of_take fun k hk => by rcases hk with e | ⟨n, e⟩ | ⟨n, i, e⟩ <;> cases e; exact hl)
  | osl l n a len cap h =>
    cases hb with
    | osl _ _ hl => exact .osl l n a len cap (h.of_take fun k hk => by rcases hk with e | ⟨n, e⟩ | ⟨n, i, e⟩ <;> cases e; exact hl)
  | ep l n i off b o h =>
    cases hb with
    | ep _ _ _ _ hl => exact .ep l n i off b o (h.of_take fun k hk => by rcases hk with e | ⟨n, e⟩ | ⟨n, i, e⟩ <;> cases e; exact hl)
  | psl l off n b o h =>
    cases hb with
    | psl _ _ _ hl => exact .psl l off n b o (h.of_take fun k hk => by rcases hk with e | ⟨n, e⟩ | ⟨n, i, e⟩ <;> cases e; exact hl)
  | zsl a => exact .zsl a
  | win sz l n lo b o cap hl0 h =>
    cases hb with
    | win _ _ _ _ hl => exact .win sz l n lo b o cap hl0 (h.of_take fun k hk => by rcases hk with e | ⟨n, e⟩ | ⟨n, i, e⟩ <;> cases e; exact hl)
  | agg cs vs hl _ ih =>
    cases hb with
    | agg _ hb => exact .agg cs vs hl fun j hj hj' => ih j hj hj' (hb j hj)
  | tup cs vs hl _ ih =>
    cases hb with
    | tup _ hb => exact .tup cs vs hl fun j hj hj' => ih j hj hj' (hb j hj)
  | fn g fs cs us vs hl hl' _ _ ih ih' =>
    cases hb with
    | fn _ _ _ hb hb' => exact .fn g fs cs us vs hl hl' (fun j hj hj' => ih j hj hj' (hb j hj)) (fun j hj hj' => ih' j hj hj' (hb' j hj))
theorem cells_bel {m : Nat} {x : AV} (h : Bel m x) : ∀ y ∈ x.cells, Bel m y := by
  intro y hy
  cases x <;> simp only [AV.cells, List.mem_singleton] at hy <;> try (subst hy; exact h)
  cases h with
  | agg _ h => exact Bel.list h y hy
theorem ObOK.take {M : Nat → Prop} {ν : Nat → Value} {m : Nat} {o : Ob} {v : Value} (h : ObOK M (RefOK σ ν) w o v) (hb : BelO m o) : ObOK M (RefOK (σ.take m) ν) w o v := by
  cases h with
  | dead => exact .dead _
  | box cs b o c e fr hM hh hs hf hr => exact .box cs b o c e fr hM hh hs hf fun j hj v hv => (hr j hj v hv).take (hb _ (List.getElem_mem hj))
  | glo g vs v hv2 hv3 hc => exact .glo g vs v hv2 hv3 hc
  | row0 => exact .row0 _
  | row sz xs b o cap c e fr hM hh hl hs hf hr =>
    exact .row sz xs b o cap c e fr hM hh hl hs hf fun i j hi hj => ⟨(hr i j hi hj).1, fun v hv => ((hr i j hi hj).2 v hv).take (cells_bel (hb _ (List.getElem_mem hi)) _ (List.getElem_mem hj))⟩
theorem live_take {m l : Nat} (h : live (σ.take m) l) : live σ l := by
  obtain ⟨o, ho, hd⟩ := h
  rw [List.getElem?_take] at ho
  split at ho
  · exact ⟨o, ho, hd⟩
  · cases ho
theorem Good.take {M : Nat → Prop} {ν : Nat → Value} {m : Nat} (g : Good M σ ν w) (hb : ∀ o ∈ σ.take m, BelO m o) : Good M (σ.take m) ν w where
  ob l o ho := by
    have ho' := ho
    rw [List.getElem?_take] at ho'
    split at ho'
    · exact (g.ob l o ho').take (hb o (List.mem_of_getElem? ho))
    · cases ho'
  lt := g.lt
  apart l l' b h1 h2 := g.apart l l' b (live_take h1) (live_take h2)
theorem Later.take {M M' : Nat → Prop} {σ0 σ : St} {ν0 ν : Nat → Value} {w0 w : World} {m : Nat} (h : Later M σ0 ν0 w0 M' σ ν w) (hm : σ0.length ≤ m) : Later M σ0 ν0 w0 M' (σ.take m) ν w where
  size := h.size
  keep := h.keep
  mute := h.mute
  outer := h.outer
  out := h.out
  own b hb x := by
    obtain ⟨l, h1, h2⟩ := x
    exact h.own b hb ⟨l, live_take h1, h2⟩
  evo r v x := by
    refine (h.evo r v x).of_take fun l hl => ?_
    have : l < σ0.length := by
      rcases hl with rfl | ⟨n, rfl⟩ | ⟨n, i, rfl⟩ <;>
        (simp only [RefOK] at x
         cases ho : σ0[l]? with
         | none => simp [ho] at x
         | some o => exact (List.getElem?_eq_some_iff.1 ho).1)
    omega
theorem Good.void {M : Nat → Prop} {ν : Nat → Value} (g : Good M σ ν w) (sz : Nat) :
    ∃ ν', Good M (σ ++ [.row sz []]) ν' w ∧ Later M σ ν w M (σ ++ [.row sz []]) ν' w ∧ Rep M (RefOK (σ ++ [.row sz []]) ν') w (.osl σ.length 0) (.slice none 0 0) := by
  let ν' : Nat → Value := fun k => if k = σ.length then .slice none 0 0 else ν k
  have hnew : ν' σ.length = .slice none 0 0 := by simp [ν']
  have hνo : ∀ k, k < σ.length → ν' k = ν k := fun k hk => by simp [ν', Nat.ne_of_lt hk]
  have hget : ∀ k o', σ[k]? = some o' → (σ ++ [.row sz []])[k]? = some o' ∧ k < σ.length := fun k o' h => by
    have hk := (List.getElem?_eq_some_iff.1 h).1
    exact ⟨by rw [List.getElem?_append_left hk]; exact h, hk⟩
  have evo : ∀ r v, RefOK σ ν r v → RefOK (σ ++ [.row sz []]) ν' r v := fun r v h => RefOK.ext (fun k o' hk => ⟨(hget k o' hk).1, hνo k (hget k o' hk).2⟩) h
  have hlt : ∀ k, live (σ ++ [.row sz []]) k → k < σ.length ∨ k = σ.length := fun k ⟨o', ho, _⟩ => by
    have := (List.getElem?_eq_some_iff.1 ho).1
    simp at this; omega
  have hlive : ∀ k, k < σ.length → live (σ ++ [.row sz []]) k → live σ k := fun k hk ⟨o', ho, hod⟩ => ⟨o', by rwa [List.getElem?_append_left hk] at ho, hod⟩
  have hb0 : blk (ν' σ.length) = none := by rw [hnew]; rfl
  refine ⟨ν', ⟨?_, g.lt, ?_⟩, ⟨Nat.le_refl _, fun _ _ _ => rfl, fun _ _ h => h, fun _ _ h _ => h, ?_, evo, rfl, rfl⟩, .osl _ _ _ _ _ ?_⟩
  · intro k o' ho
    by_cases hk : k < σ.length
    · rw [List.getElem?_append_left hk] at ho
      rw [hνo k hk]
      exact (g.ob k o' ho).mono (fun b _ hm => ⟨hm, rfl⟩) evo fun b _ _ hm => ⟨hm, rfl⟩
    · have hk2 : k = σ.length := by
        have := (List.getElem?_eq_some_iff.1 ho).1
        simp at this; omega
      subst hk2
      simp at ho; subst ho
      rw [hnew]; exact .row0 _
  · intro k k' b h1 h2 e1 e2
    rcases hlt k h1 with hk | hk <;> rcases hlt k' h2 with hk' | hk'
    · rw [hνo k hk] at e1; rw [hνo k' hk'] at e2
      exact g.apart k k' b (hlive k hk h1) (hlive k' hk' h2) e1 e2
    · subst hk'; rw [hb0] at e2; cases e2
    · subst hk; rw [hb0] at e1; cases e1
    · omega
  · rintro b hb ⟨k, hk, e⟩
    rcases hlt k hk with h | h
    · rw [hνo k h] at e; exact ⟨k, hlive k h hk, e⟩
    · subst h; rw [hb0] at e; cases e
  · simp [RefOK, hnew]
theorem gh_sound {g : Ghost} {K : Env → St → Prop} (h : gh B.σ.length g env σ K) (hA : At B env σ a w) : ∃ env' σ', K env' σ' ∧ At B env' σ' a w := by
  cases g with
  | clear ts => exact ⟨_, _, h, hA.clear ts⟩
  | shut t =>
    simp only [gh] at h
    obtain ⟨M, ν, g, l, e, d⟩ := hA
    have hr := e.rep t
    have fin : ∀ {v' : AV} {σ' : St} {M' : Nat → Prop}, Good M' σ' ν w → Later M σ ν w M' σ' ν w → Rep M' (RefOK σ' ν) w v' (a.tmps.getD t undef) → At B (env.set t v') σ' a w := by
      intro v' σ' M' g' l' r'
      have e' := l'.env g e
      refine ⟨M', ν, g', l.trans l', ⟨by simpa using e'.len, fun s => ?_⟩, d⟩
      rw [tmpA_set]
      split
      · rename_i hts; subst hts
        split
        · exact r'
        · exact .any _
      · exact e'.rep s
    split at h
    · rename_i cs hcs
      split at h
      · rename_i cs' σ' hs
        rw [hcs] at hr
        obtain ⟨vs, hv, hrs⟩ := hr.agg_inv
        obtain ⟨M', g', l', r'⟩ := sealL_ok cs g hs hrs
        exact ⟨_, _, h, fin g' l' (by rw [hv]; exact .of_agg r')⟩
      · exact h.elim
    · split at h
      · rename_i v' σ' hs
        obtain ⟨M', g', l', r'⟩ := sealV_ok g hs hr
        exact ⟨_, _, h, fin g' l' r'⟩
      · exact h.elim
  | own t sz =>
    simp only [gh] at h
    obtain ⟨M, ν, g, l, e, d⟩ := hA
    have hr := e.rep t
    split at h
    · rename_i hn
      rw [hn] at hr
      have hv := hr.nils_inv
      obtain ⟨ν', g', l', r'⟩ := g.void sz
      have e' := l'.env g e
      refine ⟨_, _, h, M, ν', g', l.trans l', ⟨by simpa using e'.len, fun s => ?_⟩, d⟩
      rw [tmpA_set]
      split
      · rename_i hts; subst hts
        split
        · rw [hv]; exact r'
        · exact .any _
      · exact e'.rep s
    · exact h.elim
  | keep j =>
    simp only [gh] at h
    obtain ⟨h1, h2, h3, h4⟩ := h
    obtain ⟨M, ν, g, l, e, d⟩ := hA
    refine ⟨_, _, h4, M, ν, g.take h2, l.take (by omega), ⟨e.len, fun t => (e.rep t).take ?_⟩, d⟩
    unfold tmpA
    rw [List.getD_eq_getElem?_getD]
    cases ht : env[t]? with
    | none => exact .any
    | some v => exact h1 v (List.mem_of_getElem? ht)
def InLoop (P : Program) (c : Code) (Q : Exit → Act → World → Prop) (a : Act) (w : World) : Prop :=
  ∀ (b : Frame) (k : List Item) (cs : List Frame), ∃ e a' w', Q e a' w' ∧ Arrives P (lone (b.at a (.code c :: .inLoop c :: k)) cs w) b k cs e a' w'
theorem wp_of_inLoop {c : Code} {Q : Exit → Act → World → Prop} (h : InLoop P c Q a w) : (Code.loop c).wp P Q a w := by
  intro b k cs
  obtain ⟨e, a', w', hq, harr⟩ := h b k cs
  exact ⟨e, a', w', hq, .of_steps (.one step_loop) harr⟩
theorem inLoop_of_wp {c : Code} {Q : Exit → Act → World → Prop} (h : c.wp P (Exit.then (InLoop P c Q) Q) a w) : InLoop P c Q a w := by
  intro b k cs
  obtain ⟨e, a₁, w₁, hq, harr⟩ := h b (.inLoop c :: k) cs
  cases e with
  | normal =>
    obtain ⟨e₂, a₂, w₂, hq₂, harr₂⟩ := hq b k cs
    exact ⟨e₂, a₂, w₂, hq₂, .of_steps (Steps.trans harr (.one step_inLoop)) harr₂⟩
  | exit id => exact ⟨_, a₁, w₁, hq, .pass (x := .inLoop c) rfl (fun _ _ => .inl (by simp)) harr⟩
  | goto l => exact ⟨_, a₁, w₁, hq, .pass (x := .inLoop c) rfl (fun _ _ => .inl (by simp)) harr⟩
  | ret => exact ⟨_, a₁, w₁, hq, .pass (x := .inLoop c) rfl (fun _ _ => .inl (by simp)) harr⟩
  | panic ch => exact ⟨_, a₁, w₁, hq, .pass (x := .inLoop c) rfl (fun _ _ => .inl (by simp)) harr⟩
  | outgrown => exact ⟨_, a₁, w₁, hq, .pass (x := .inLoop c) rfl (fun _ _ => .inl (by simp)) harr⟩
theorem At.of_later {M' : Nat → Prop} {ν' : Nat → Value} {M : Nat → Prop} {ν : Nat → Value} {σ' : St} {env' : Env} {a' : Act} {w' : World} (l : Later B.M B.σ B.ν B.w M σ ν w) (d : a.defers = B.d)
    (g' : Good M' σ' ν' w') (l' : Later M σ ν w M' σ' ν' w') (e' : EnvR M' (RefOK σ' ν') w' env' a') (d' : a'.defers = a.defers) : At B env' σ' a' w' :=
  ⟨M', ν', g', l.trans l', e', d'.trans d⟩
theorem ax_sound {own : List Tmp} (hm : P.follows .mixedOrders = true) : ∀ (x : ACode) (c : Code) (KA : AExit → Env → St → Prop) (Q : Exit → Act → World → Prop) (env : Env) (σ : St) (a : Act) (w : World),
    cc P own c x = some x → ax P B.σ.length x KA env σ → At B env σ a w → (∀ e env' σ' a' w', KA e env' σ' → At B env' σ' a' w' → Q (toExit e) a' w') → c.wp P Q a w := by
  intro x
  induction x with
  | skip =>
    intro c KA Q env σ a w hc hx hA hK
    cases c <;> simp [cc] at hc
    · exact wp_skip (hK .normal env σ a w hx hA)
  | ops l =>
    intro c KA Q env σ a w hc hx hA hK
    cases c with
    | region id ops dr => _
    | _ => simp [cc] at hc
    obtain ⟨ops⟩ := ops
    cases dr <;> simp only [cc] at hc <;> try cases hc
    obtain ⟨l', hl', hc⟩ := opt_map_some hc
    simp at hc; subst hc
    obtain ⟨M, ν, g, lt, e, d⟩ := hA
    exact wp_region_list (axops_sound _ _ l' env σ M ν w a (Nat.le_refl _) hl' hx g e fun env' σ' M' ν' w' a' hk g' lt' e' d' => hK .normal env' σ' a' w' hk (.of_later lt d g' lt' e' d'))
  | draw ds =>
    intro c KA Q env σ a w hc hx hA hK
    cases c with
    | region id ops dr => _
    | _ => simp [cc] at hc
    obtain ⟨ops⟩ := ops
    cases dr <;> simp only [cc] at hc <;> try cases hc
    obtain ⟨ds', hz, hc⟩ := opt_bind_some hc
    split at hc
    · rename_i hok
      simp only [Bool.and_eq_true] at hok
      simp at hc; subst hc
      obtain ⟨M, ν, g, lt, e, d⟩ := hA
      exact draw_sound hm (compDs_at hz) hok.1 hok.2 hx g e fun env' σ' M' ν' w' a' hk g' lt' e' d' => hK .normal env' σ' a' w' hk (.of_later lt d g' lt' e' d')
    · cases hc
  | seq x y ihx ihy =>
    intro c KA Q env σ a w hc hx hA hK
    cases c <;> simp only [cc] at hc <;> try cases hc
    obtain ⟨x', hx', hc⟩ := opt_bind_some hc
    obtain ⟨y', hy', hc⟩ := opt_map_some hc
    simp at hc; obtain ⟨rfl, rfl⟩ := hc
    refine wp_seq (ihx _ _ _ env σ a w hx' hx hA fun e env' σ' a' w' hk hA' => ?_)
    cases e with
    | normal => exact ihy _ KA Q env' σ' a' w' hy' hk hA' hK
    | exit id => exact hK (.exit id) env' σ' a' w' hk hA'
    | ret => exact hK .ret env' σ' a' w' hk hA'
  | cond _ x y ihx ihy =>
    intro c KA Q env σ a w hc hx hA hK
    cases c with
    | cond cnd p q => _
    | _ => simp [cc] at hc
    simp only [cc] at hc
    obtain ⟨x', hx', hc⟩ := opt_bind_some hc
    obtain ⟨y', hy', hc⟩ := opt_map_some hc
    simp at hc; obtain ⟨rfl, rfl, rfl⟩ := hc
    have hp : ∀ t, boolA (aev env cnd) = some t → a.eval cnd = .bool t := by
      intro t ht
      obtain ⟨M, ν, g, lt, e, d⟩ := hA
      exact boolA_inv ht (e.parts cnd)
    simp only [ax] at hx
    split at hx
    · rename_i hb; exact wp_cond_true (hp _ hb) (ihx _ KA Q env σ a w hx' hx hA hK)
    · rename_i hb; exact wp_cond_false (hp _ hb) (ihy _ KA Q env σ a w hy' hx hA hK)
    · exact hx.elim
  | block id x ihx =>
    intro c KA Q env σ a w hc hx hA hK
    cases c <;> simp only [cc] at hc <;> try cases hc
    obtain ⟨x', hx', hc⟩ := opt_map_some hc
    simp at hc; obtain ⟨rfl, rfl⟩ := hc
    refine wp_block (ihx _ _ _ env σ a w hx' hx hA fun e env' σ' a' w' hk hA' => ?_)
    cases e with
    | normal => exact hK .normal env' σ' a' w' hk hA'
    | exit j =>
      simp only at hk
      simp only [toExit, Exit.inBlock]
      split at hk
      · rename_i hj; rw [if_pos hj]; exact hK .normal env' σ' a' w' hk hA'
      · rename_i hj; rw [if_neg hj]; exact hK (.exit j) env' σ' a' w' hk hA'
    | ret => exact hK .ret env' σ' a' w' hk hA'
  | loop clr x ihx =>
    intro c KA Q env σ a w hc hx hA hK
    cases c with
    | loop body => _
    | _ => simp [cc] at hc
    simp only [cc] at hc
    obtain ⟨x', hx', hc⟩ := opt_map_some hc
    simp at hc; obtain ⟨rfl⟩ := hc
    refine wp_of_inLoop (hx (fun env σ => ∀ a w, At B env σ a w → InLoop P body Q a w) ?_ a w (hA.clear clr))
    intro env' σ' hF a' w' hA'
    refine inLoop_of_wp (ihx _ _ _ env' σ' a' w' hx' hF hA' fun e env2 σ2 a2 w2 hk hA2 => ?_)
    cases e with
    | normal => exact hk a2 w2 (hA2.clear clr)
    | exit id => exact hK (.exit id) env2 σ2 a2 w2 hk hA2
    | ret => exact hK .ret env2 σ2 a2 w2 hk hA2
  | exit id =>
    intro c KA Q env σ a w hc hx hA hK
    cases c <;> simp only [cc] at hc <;> try cases hc
    exact wp_exit (hK (.exit _) env σ a w hx hA)
  | ret =>
    intro c KA Q env σ a w hc hx hA hK
    cases c <;> simp only [cc] at hc <;> try cases hc
    exact wp_ret (hK .ret env σ a w hx hA)
  | ghost g x ihx =>
    intro c KA Q env σ a w hc hx hA hK
    unfold cc at hc
    obtain ⟨x', hx', hc⟩ := opt_map_some hc
    simp at hc; subst hc
    obtain ⟨env', σ', hk, hA'⟩ := gh_sound hx hA
    exact ihx c KA Q env' σ' a w hx' hk hA' hK
  | after x g ihx =>
    intro c KA Q env σ a w hc hx hA hK
    unfold cc at hc
    obtain ⟨x', hx', hc⟩ := opt_map_some hc
    simp at hc; subst hc
    refine ihx c _ Q env σ a w hx' hx hA fun e env' σ' a' w' hk hA' => ?_
    cases e with
    | normal =>
      obtain ⟨env2, σ2, hk2, hA2⟩ := gh_sound hk hA'
      exact hK .normal env2 σ2 a' w' hk2 hA2
    | exit id => exact hK (.exit id) env' σ' a' w' hk hA'
    | ret => exact hK .ret env' σ' a' w' hk hA'
end
end Go.Ab
