/- Operations whose order is open: one run in the order of the text tells what every order comes to. No condition. -/
import Derived.Test.YtoadgajhkhejiaaAbCtl
namespace Go.Ab
open Go
structure DOper where
  o : AOper
  bef : List Nat
  eff : Bool
  lo : Nat
  hi : Nat
def stay (P : Program) (env : Env) (o : AOp) (r : AV) (s : St) : Prop :=
  match o with
  | .prim ao => aop (aev env) s ao = some (r, s)
  | .call f args => match aev env f with
    | .fn g fs cs => Ans P g (fs ++ args.map (aev env) ++ cs) s r s
    | _ => False
  | .fresh _ _ _ => False
  | .flo _ => r = .any
  | .adopt _ _ _ _ => False
def axd (P : Program) (K : Env → St → Prop) : List DOper → Env → List St → St → (List St → Prop) → Prop
  | [], env, S, σ, ob => ob S ∧ K env σ
  | d :: ds, env, S, σ, ob => match wantA env d.o.guard with
    | some true =>
      if d.eff then axop P env σ d.o.op fun r σ' => axd P K ds (putA env d.o.dst r) (S ++ [σ']) σ' ob
      else ∃ r, stay P env d.o.op r σ ∧ axd P K ds (putA env d.o.dst r) S σ fun T => ob T ∧ ∀ s ∈ (T.take (d.hi + 1)).drop d.lo, stay P env d.o.op r s
    | some false => axd P K ds (putA env d.o.dst (.tup [])) (if d.eff then S ++ [σ] else S) σ ob
    | none => False
def operTmps (o : AOper) (ops : List Operand) : List Tmp :=
  ops.filterMap (fun | .tmp t => some t | _ => none) ++ (match o.guard with | some (t, _) => [t] | none => []) ++ (match o.dst with | some t => [t] | none => [])
def AO.operands : AO → List Operand
  | .mov x | .boxr x | .boxm x | .nilc x | .un _ x | .convi _ x | .fadr _ x | .field _ _ _ x | .load _ _ x | .lens x | .lenv x | .extr _ x => [x]
  | .s2b x | .b2s x | .s2s x | .strm x | .capn x | .slca _ x | .arrp _ x | .slc0 x | .isnil _ _ x | .giadr _ _ _ x | .clr _ _ _ x => [x]
  | .slcw _ x y | .mks _ _ _ x y | .mm _ x y | .copy x y | .appz _ _ _ x y => [x, y]
  | .pick c a b => [c, a, b]
  | .allocm _ | .con _ | .bad => []
  | .build _ ps | .bsl _ _ _ _ _ ps => ps.map (·.2.2)
  | .store _ a x => [a, x]
  | .bin _ _ x y | .eqa _ _ x y | .idxs x y | .idxa _ _ _ x y | .iadrs _ x y | .iadra _ _ x y | .app _ x y => [x, y]
  | .mkfn _ fs cs => fs ++ cs
  | .slcs x lo hi | .slcv _ x lo hi | .slco _ x lo hi => x :: (lo.toList ++ hi.toList)
def AOp.operands : AOp → List Operand
  | .prim ao => ao.operands
  | .call f args => f :: args
  | .fresh _ _ x => [x]
  | .flo _ => []
  | .adopt _ _ _ x => [x]
theorem fillA_congr {ρ ρ' : Operand → AV} : ∀ (ps : List Part) (z : List AV), (∀ x ∈ ps.map (·.2.2), ρ x = ρ' x) → fillA ρ z ps = fillA ρ' z ps := by
  intro ps
  induction ps with
  | nil => intro z _; rfl
  | cons p ps ih =>
    intro z h
    obtain ⟨off, size, x⟩ := p
    have hx : ρ x = ρ' x := h x (by simp)
    simp only [fillA, hx]
    rw [ih _ (fun y hy => h y (by simp at hy ⊢; exact .inr hy))]
theorem aop_congr {ρ ρ' : Operand → AV} {σ : St} {ao : AO} (h : ∀ x ∈ ao.operands, ρ x = ρ' x) : aop ρ σ ao = aop ρ' σ ao := by
  cases ao with
  | build z ps => simp only [aop]; rw [fillA_congr ps z h]
  | bsl own sz ag n z ps => simp only [aop]; rw [fillA_congr ps _ h]
  | mkfn f fs cs =>
    simp only [aop]
    rw [List.map_congr_left (f := ρ) (g := ρ') (fun x hx => h x (by simp [AO.operands, hx])), List.map_congr_left (f := ρ) (g := ρ') (l := cs) (fun x hx => h x (by simp [AO.operands, hx]))]
  | slcs x lo hi =>
    have hx := h x (by simp [AO.operands])
    have hlo : (lo.map fun o => intA (ρ o)) = lo.map fun o => intA (ρ' o) := by
      cases lo with
      | none => rfl
      | some o => simp [h o (by simp [AO.operands])]
    have hhi : (hi.map fun o => intA (ρ o)) = hi.map fun o => intA (ρ' o) := by
      cases hi with
      | none => rfl
      | some o => simp [h o (by simp [AO.operands])]
    simp only [aop, hx, hlo, hhi]
  | slcv sz x lo hi =>
    have hx := h x (by simp [AO.operands])
    have hlo : (lo.map fun o => intA (ρ o)) = lo.map fun o => intA (ρ' o) := by
      cases lo with
      | none => rfl
      | some o => simp [h o (by simp [AO.operands])]
    have hhi : (hi.map fun o => intA (ρ o)) = hi.map fun o => intA (ρ' o) := by
      cases hi with
      | none => rfl
      | some o => simp [h o (by simp [AO.operands])]
    simp only [aop, hx, hlo, hhi]
  | slco sz x lo hi =>
    have hx := h x (by simp [AO.operands])
    have hlo : (lo.map fun o => intA (ρ o)) = lo.map fun o => intA (ρ' o) := by
      cases lo with
      | none => rfl
      | some o => simp [h o (by simp [AO.operands])]
    have hhi : (hi.map fun o => intA (ρ o)) = hi.map fun o => intA (ρ' o) := by
      cases hi with
      | none => rfl
      | some o => simp [h o (by simp [AO.operands])]
    simp only [aop, hx, hlo, hhi]
  | _ => simp only [AO.operands, List.mem_cons, List.not_mem_nil, or_false, forall_eq_or_imp, forall_eq] at h <;> first | rfl | simp only [aop, h]
theorem axop_congr {P : Program} {env env' : Env} {σ : St} {o : AOp} {K : AV → St → Prop} (hl : env.length = env'.length) (h : ∀ x ∈ o.operands, aev env x = aev env' x) : axop P env σ o K = axop P env' σ o K := by
  cases o with
  | prim ao => simp only [axop]; rw [aop_congr (ρ := aev env) (ρ' := aev env') h]
  | call f args =>
    simp only [axop]
    rw [h f (by simp [AOp.operands]), List.map_congr_left (f := aev env) (g := aev env') (fun x hx => h x (by simp [AOp.operands, hx]))]
  | fresh n d x =>
    simp only [axop]
    rw [h x (by simp [AOp.operands]), hl]
  | flo n => rfl
  | adopt own d n x =>
    simp only [axop]
    rw [h x (by simp [AOp.operands]), hl]
theorem stay_congr {P : Program} {env env' : Env} {s : St} {o : AOp} {r : AV} (h : ∀ x ∈ o.operands, aev env x = aev env' x) : stay P env o r s = stay P env' o r s := by
  cases o with
  | prim ao => simp only [stay]; rw [aop_congr (ρ := aev env) (ρ' := aev env') h]
  | call f args =>
    simp only [stay]
    rw [h f (by simp [AOp.operands]), List.map_congr_left (f := aev env) (g := aev env') (fun x hx => h x (by simp [AOp.operands, hx]))]
  | fresh n d x => rfl
  | flo n => rfl
  | adopt own d n x => rfl
theorem axop_of_stay {P : Program} {env : Env} {s : St} {o : AOp} {r : AV} {K : AV → St → Prop} (h : stay P env o r s) (hk : K r s) : axop P env s o K := by
  cases o with
  | prim ao => simp only [stay] at h; simp only [axop, h]; exact hk
  | call f args =>
    simp only [stay] at h
    simp only [axop]
    split at h
    · rename_i e; rw [e]; exact ⟨r, s, h, hk⟩
    · exact h.elim
  | fresh n d x => exact h.elim
  | flo n => simp only [stay] at h; subst h; exact hk
  | adopt own d n x => exact h.elim
theorem axop_mono {P : Program} {env : Env} {s : St} {o : AOp} {K K' : AV → St → Prop} (hk : ∀ r s, K r s → K' r s) (h : axop P env s o K) : axop P env s o K' := by
  cases o with
  | prim ao =>
    simp only [axop] at h ⊢
    split at h
    · exact hk _ _ h
    · exact h.elim
  | call f args =>
    simp only [axop] at h ⊢
    split at h
    · obtain ⟨r, σ', h1, h2⟩ := h; exact ⟨r, σ', h1, hk _ _ h2⟩
    · exact h.elim
  | fresh n d x =>
    simp only [axop] at h ⊢
    split at h
    · rename_i hc; rw [if_pos hc]; exact hk _ _ h
    · exact h.elim
  | flo n => exact hk _ _ h
  | adopt own d n x =>
    simp only [axop] at h ⊢
    split at h
    · rename_i hc; rw [if_pos hc]
      cases own with
      | true => exact hk _ _ h
      | false => exact hk _ _ h
    · exact h.elim
theorem axop_ex {P : Program} {env : Env} {s : St} {o : AOp} {K : AV → St → Prop} (h : axop P env s o K) : ∃ r s', axop P env s o (fun r' s'' => r' = r ∧ s'' = s') ∧ K r s' := by
  cases o with
  | prim ao =>
    simp only [axop] at h ⊢
    split at h
    · rename_i r s' e; exact ⟨r, s', ⟨rfl, rfl⟩, h⟩
    · exact h.elim
  | call f args =>
    simp only [axop] at h ⊢
    split at h
    · obtain ⟨r, σ', h1, h2⟩ := h; exact ⟨r, σ', ⟨r, σ', h1, rfl, rfl⟩, h2⟩
    · exact h.elim
  | fresh n d x =>
    simp only [axop] at h ⊢
    split at h
    · rename_i hc; exact ⟨_, _, by rw [if_pos hc]; exact ⟨rfl, rfl⟩, h⟩
    · exact h.elim
  | flo n => exact ⟨_, _, ⟨rfl, rfl⟩, h⟩
  | adopt own d n x =>
    simp only [axop] at h ⊢
    split at h
    · rename_i hc
      cases own with
      | true => exact ⟨_, _, by rw [if_pos hc]; exact ⟨rfl, rfl⟩, h⟩
      | false => exact ⟨_, _, by rw [if_pos hc]; exact ⟨rfl, rfl⟩, h⟩
    · exact h.elim
structure Rec where
  want : Bool
  r : AV
def dstOf (ds : List DOper) (n : Nat) : Option Tmp := (ds[n]?).bind (·.o.dst)
def recOf (rs : List Rec) (n : Nat) : AV := ((rs[n]?).map (·.r)).getD .any
def effOf (ds : List DOper) (n : Nat) : Bool := ((ds[n]?).map (·.eff)).getD false
def befOf (ds : List DOper) (n : Nat) : List Nat := ((ds[n]?).map (·.bef)).getD []
def envAt (ds : List DOper) (rs : List Rec) (L : Nat → Bool) (env0 : Env) : Nat → Env
  | 0 => env0
  | n + 1 => if L n then putA (envAt ds rs L env0 n) (dstOf ds n) (recOf rs n) else envAt ds rs L env0 n
def effCount (ds : List DOper) (L : Nat → Bool) : Nat → Nat
  | 0 => 0
  | n + 1 => effCount ds L n + (if L n && effOf ds n then 1 else 0)
theorem envAt_cons (d : DOper) (ds : List DOper) (r : Rec) (rs : List Rec) (L : Nat → Bool) (env0 : Env) : ∀ n,
    envAt (d :: ds) (r :: rs) L env0 (n + 1) = envAt ds rs (fun i => L (i + 1)) (if L 0 then putA env0 d.o.dst r.r else env0) n := by
  intro n
  induction n with
  | zero => simp [envAt, dstOf, recOf]
  | succ n ih => rw [envAt, ih, envAt]; simp [dstOf, recOf]
theorem effCount_cons (d : DOper) (ds : List DOper) (L : Nat → Bool) : ∀ n,
    effCount (d :: ds) L (n + 1) = (if L 0 && d.eff then 1 else 0) + effCount ds (fun i => L (i + 1)) n := by
  intro n
  induction n with
  | zero => simp [effCount, effOf]
  | succ n ih => rw [effCount, ih, effCount]; simp [effOf, Nat.add_assoc]
structure Shown (P : Program) (T : List St) (d : DOper) (env : Env) (k : Nat) (r : Rec) : Prop where
  want : wantA env d.o.guard = some r.want
  no : r.want = false → r.r = .tup [] ∧ (d.eff = true → ∃ s, T[k]? = some s ∧ T[k + 1]? = some s)
  eff : r.want = true → d.eff = true → ∃ s s', T[k]? = some s ∧ T[k + 1]? = some s' ∧ axop P env s d.o.op fun r' s'' => r' = r.r ∧ s'' = s'
  stay : r.want = true → d.eff = false → ∀ s ∈ (T.take (d.hi + 1)).drop d.lo, stay P env d.o.op r.r s
theorem axd_shown (P : Program) (K : Env → St → Prop) : ∀ (ds : List DOper) (env : Env) (S : List St) (σ : St) (ob : List St → Prop), axd P K ds env S σ ob → S ≠ [] → S.getLast? = some σ →
    ∃ (rs : List Rec) (T : List St), rs.length = ds.length ∧ T.length = S.length + effCount ds (fun _ => true) ds.length ∧ (∃ X, T = S ++ X) ∧ ob T ∧
      (∃ s, T.getLast? = some s ∧ K (envAt ds rs (fun _ => true) env ds.length) s) ∧
      ∀ j d, ds[j]? = some d → ∃ r, rs[j]? = some r ∧ Shown P T d (envAt ds rs (fun _ => true) env j) (S.length - 1 + effCount ds (fun _ => true) j) r := by
  intro ds
  induction ds with
  | nil =>
    intro env S σ ob h hne hl
    simp only [axd] at h
    exact ⟨[], S, rfl, by simp [effCount], ⟨[], by simp⟩, h.1, ⟨σ, hl, h.2⟩, fun j d hj => by simp at hj⟩
  | cons d ds ih =>
    intro env S σ ob h hne hl
    have hSlen : 0 < S.length := List.length_pos_iff.2 hne
    have fin : ∀ (r : Rec) (S' : List St) (σ' : St) (ob' : List St → Prop), axd P K ds (putA env d.o.dst r.r) S' σ' ob' → S' ≠ [] → S'.getLast? = some σ' →
        S'.length = S.length + (if d.eff then 1 else 0) → (∃ X, S' = S ++ X) → (∀ T, ob' T → ob T) →
        (∀ T, ob' T → (∃ X, T = S' ++ X) → Shown P T d env (S.length - 1) r) →
        ∃ (rs : List Rec) (T : List St), rs.length = (d :: ds).length ∧ T.length = S.length + effCount (d :: ds) (fun _ => true) (d :: ds).length ∧ (∃ X, T = S ++ X) ∧ ob T ∧
          (∃ s, T.getLast? = some s ∧ K (envAt (d :: ds) rs (fun _ => true) env (d :: ds).length) s) ∧
          ∀ j d', (d :: ds)[j]? = some d' → ∃ r, rs[j]? = some r ∧ Shown P T d' (envAt (d :: ds) rs (fun _ => true) env j) (S.length - 1 + effCount (d :: ds) (fun _ => true) j) r := by
      intro r S' σ' ob' h' hne' hl' hlen hpre hob hsh
      obtain ⟨rs, T, q1, q2, ⟨X, hX⟩, q4, q5, q6⟩ := ih _ S' σ' ob' h' hne' hl'
      obtain ⟨Y, hY⟩ := hpre
      refine ⟨r :: rs, T, by simp [q1], ?_, ⟨Y ++ X, by rw [hX, hY, List.append_assoc]⟩, hob T q4, ?_, ?_⟩
      · rw [q2, hlen, List.length_cons, effCount_cons]
        cases d.eff <;> simp <;> omega
      · obtain ⟨s, q7, q8⟩ := q5
        refine ⟨s, q7, ?_⟩
        rw [List.length_cons, envAt_cons]
        simpa using q8
      · intro j d' hj
        cases j with
        | zero =>
          simp at hj; subst hj
          refine ⟨r, rfl, ?_⟩
          have := hsh T q4 ⟨X, hX⟩
          simpa [envAt, effCount] using this
        | succ j =>
          simp at hj
          obtain ⟨r', hr', hs'⟩ := q6 j d' hj
          refine ⟨r', by simpa using hr', ?_⟩
          rw [envAt_cons, effCount_cons]
          have e : S.length - 1 + ((if (true && d.eff) = true then 1 else 0) + effCount ds (fun _ => true) j) = S'.length - 1 + effCount ds (fun _ => true) j := by
            rw [hlen]; cases d.eff <;> simp <;> omega
          rw [e]
          simpa using hs'
    have hk : S[S.length - 1]? = some σ := by rw [List.getLast?_eq_getElem?] at hl; exact hl
    simp only [axd] at h
    split at h
    · rename_i hw
      split at h
      · rename_i he
        obtain ⟨r, σ', h1, h2⟩ := axop_ex h
        refine fin ⟨true, r⟩ (S ++ [σ']) σ' ob h2 (by simp) (by simp) (by simp [he]) ⟨[σ'], rfl⟩ (fun _ x => x) (fun T _ ⟨X, hX⟩ => ?_)
        refine ⟨hw, fun x => (by cases x), fun _ _ => ⟨σ, σ', ?_, ?_, h1⟩, fun _ x => (by rw [he] at x; cases x)⟩
        · rw [hX, List.append_assoc, List.getElem?_append_left (by omega)]; exact hk
        · rw [hX, List.getElem?_append_left (by simp; omega), show S.length - 1 + 1 = S.length by omega]; simp
      · rename_i he
        obtain ⟨r, h1, h2⟩ := h
        refine fin ⟨true, r⟩ S σ _ h2 hne hl (by simp [he]) ⟨[], by simp⟩ (fun T x => x.1) (fun T hT _ => ?_)
        exact ⟨hw, fun x => (by cases x), fun _ x => absurd x he, fun _ _ => hT.2⟩
    · rename_i hw
      cases he : d.eff with
      | true =>
        rw [he] at h
        refine fin ⟨false, .tup []⟩ (S ++ [σ]) σ ob (by simpa using h) (by simp) (by simp) (by simp [he]) ⟨[σ], rfl⟩ (fun _ x => x) (fun T _ ⟨X, hX⟩ => ?_)
        refine ⟨hw, fun _ => ⟨rfl, fun _ => ⟨σ, ?_, ?_⟩⟩, fun x => (by cases x), fun x => (by cases x)⟩
        · rw [hX, List.append_assoc, List.getElem?_append_left (by omega)]; exact hk
        · rw [hX, List.getElem?_append_left (by simp; omega), show S.length - 1 + 1 = S.length by omega]; simp
      | false =>
        rw [he] at h
        refine fin ⟨false, .tup []⟩ S σ ob (by simpa using h) hne hl (by simp [he]) ⟨[], by simp⟩ (fun _ x => x) (fun T _ _ => ?_)
        exact ⟨hw, fun _ => ⟨rfl, fun x => (by rw [he] at x; cases x)⟩, fun x => (by cases x), fun x => (by cases x)⟩
    · exact h.elim
theorem putA_length (env : Env) (d : Option Tmp) (r : AV) : (putA env d r).length = env.length := by cases d <;> simp [putA]
theorem tmpA_put (env : Env) (d : Option Tmp) (r : AV) (t : Tmp) : tmpA (putA env d r) t = if d = some t then (if t < env.length then r else .any) else tmpA env t := by
  cases d with
  | none => simp [putA]
  | some s =>
    simp only [putA, tmpA, List.getD_eq_getElem?_getD, List.getElem?_set, Option.some.injEq]
    by_cases h : s = t
    · subst h
      by_cases hl : s < env.length
      · simp [hl]
      · simp [hl]
    · simp [h]
section
variable {ds : List DOper} {rs : List Rec} {L L' : Nat → Bool} {env0 : Env}
theorem envAt_length : ∀ n, (envAt ds rs L env0 n).length = env0.length := by
  intro n
  induction n with
  | zero => rfl
  | succ n ih => simp only [envAt]; split <;> simp [putA_length, ih]
theorem envAt_congr {t : Tmp} : ∀ n, (∀ i, i < n → dstOf ds i = some t → L i = L' i) → tmpA (envAt ds rs L env0 n) t = tmpA (envAt ds rs L' env0 n) t := by
  intro n
  induction n with
  | zero => intro _; rfl
  | succ n ih =>
    intro h
    have ih' := ih (fun i hi => h i (by omega))
    simp only [envAt]
    by_cases hd : dstOf ds n = some t
    · rw [h n (by omega) hd]
      split
      · rw [tmpA_put, tmpA_put, hd]; simp [envAt_length]
      · exact ih'
    · have e : ∀ (M : Nat → Bool), tmpA (if M n = true then putA (envAt ds rs M env0 n) (dstOf ds n) (recOf rs n) else envAt ds rs M env0 n) t = tmpA (envAt ds rs M env0 n) t := by
        intro M
        split
        · rw [tmpA_put, if_neg hd]
        · rfl
      rw [e, e]; exact ih'
theorem envAt_cut {t : Tmp} {j : Nat} : ∀ n, j ≤ n → (∀ i, j ≤ i → i < n → dstOf ds i = some t → L i = false) → tmpA (envAt ds rs L env0 n) t = tmpA (envAt ds rs L env0 j) t := by
  intro n
  induction n with
  | zero => intro hj _; have : j = 0 := by omega
            subst this; rfl
  | succ n ih =>
    intro hj h
    by_cases e : j = n + 1
    · subst e; rfl
    · have ih' := ih (by omega) (fun i h1 h2 => h i h1 (by omega))
      simp only [envAt]
      by_cases hd : dstOf ds n = some t
      · rw [h n (by omega) (by omega) hd]; simpa using ih'
      · split
        · rw [tmpA_put, if_neg hd]; exact ih'
        · exact ih'
theorem effCount_mono : ∀ n, (∀ i, i < n → effOf ds i = true → L i = true → L' i = true) → effCount ds L n ≤ effCount ds L' n := by
  intro n
  induction n with
  | zero => intro _; exact Nat.le_refl _
  | succ n ih =>
    intro h
    have ih' := ih (fun i hi => h i (by omega))
    simp only [effCount]
    have hn := h n (by omega)
    cases he : effOf ds n
    · simp; exact ih'
    · cases hL : L n
      · simp; omega
      · rw [hn he hL]; simp; omega
theorem effCount_cut {j : Nat} : ∀ n, j ≤ n → (∀ i, j ≤ i → i < n → effOf ds i = true → L i = false) → effCount ds L n = effCount ds L j := by
  intro n
  induction n with
  | zero => intro hj _; have : j = 0 := by omega
            subst this; rfl
  | succ n ih =>
    intro hj h
    by_cases e : j = n + 1
    · subst e; rfl
    · have ih' := ih (by omega) (fun i h1 h2 => h i h1 (by omega))
      simp only [effCount]
      cases he : effOf ds n
      · simp; exact ih'
      · rw [h n (by omega) (by omega) he]; simp; exact ih'
theorem effCount_add {j : Nat} (hj : L j = false) (hL : ∀ i, L' i = (L i || decide (i = j))) : ∀ n, effCount ds L' n = effCount ds L n + (if j < n && effOf ds j then 1 else 0) := by
  intro n
  induction n with
  | zero => simp [effCount]
  | succ n ih =>
    simp only [effCount, ih, hL n]
    by_cases e : n = j
    · subst e
      simp only [hj, Nat.lt_irrefl, decide_false, Bool.false_and, Nat.lt_succ_self, decide_true, Bool.or_true, Bool.true_and, Bool.false_eq_true, if_false]
    · have h1 : (decide (j < n + 1)) = (decide (j < n)) := by
        apply decide_eq_decide.2; omega
      rw [h1]
      simp only [e, decide_false, Bool.or_false]
      omega
end
def okD (ops : List Oper) (ds : List DOper) : Bool :=
  (List.range ops.length).all fun j =>
    match ops[j]?, ds[j]? with
    | some o, some d =>
      o.after.all (fun e => !Region.binds .any e || decide (e.on < j)) &&
      d.bef.all (fun x => o.after.any fun e => Region.binds .any e && (e.on == x || (befOf ds e.on).contains x)) &&
      (operTmps d.o d.o.op.operands).all (fun t => (List.range ops.length).all fun i =>
        dstOf ds i != some t || i == j || (decide (i < j) && d.bef.contains i) || (decide (j < i) && (befOf ds i).contains j)) &&
      (if d.eff then (List.range j).all fun i => !effOf ds i || d.bef.contains i
       else decide (d.lo ≤ effCount ds (fun i => d.bef.contains i) ops.length) && decide (effCount ds (fun i => !(befOf ds i).contains j) ops.length ≤ d.hi))
    | _, _ => false
end Go.Ab
