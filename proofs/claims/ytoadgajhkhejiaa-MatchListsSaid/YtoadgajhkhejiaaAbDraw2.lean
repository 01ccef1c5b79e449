/- Operations whose order is open: every order comes to what the one run has shown. No condition. -/
import Derived.Test.YtoadgajhkhejiaaAbDraw
namespace Go.Ab
open Go

section
variable {P : Program} {ops : List Oper} {ds : List DOper} {rs : List Rec} {env0 : Env} {T : List St}

/-- The facts that okD has asked, of one operation. -/
structure OkAt (ops : List Oper) (ds : List DOper) (j : Nat) (o : Oper) (d : DOper) : Prop where
  edges : ∀ e ∈ o.after, Region.binds .any e = true → e.on < j
  bef : ∀ x ∈ d.bef, ∃ e ∈ o.after, Region.binds .any e = true ∧ (e.on = x ∨ x ∈ befOf ds e.on)
  tmps : ∀ t ∈ operTmps d.o d.o.op.operands, ∀ i, i < ops.length → dstOf ds i = some t → i = j ∨ (i < j ∧ i ∈ d.bef) ∨ (j < i ∧ j ∈ befOf ds i)
  eff : d.eff = true → ∀ i, i < j → effOf ds i = true → i ∈ d.bef
  room : d.eff = false → d.lo ≤ effCount ds (fun i => d.bef.contains i) ops.length ∧ effCount ds (fun i => !(befOf ds i).contains j) ops.length ≤ d.hi

theorem okD_at (h : okD ops ds = true) {j : Nat} {o : Oper} (hj : ops[j]? = some o) : ∃ d, ds[j]? = some d ∧ OkAt ops ds j o d := by
  have hlt := (List.getElem?_eq_some_iff.1 hj).1
  have := List.all_eq_true.1 h j (List.mem_range.2 hlt)
  rw [hj] at this
  cases hd : ds[j]? with
  | none => simp [hd] at this
  | some d =>
    simp only [hd, Bool.and_eq_true] at this
    obtain ⟨⟨⟨h1, h2⟩, h3⟩, h4⟩ := this
    refine ⟨d, rfl, ?_, ?_, ?_, ?_, ?_⟩
    · intro e he hb
      have := Array.all_eq_true'.1 h1 e he
      simpa [hb] using this
    · intro x hx
      have := List.all_eq_true.1 h2 x hx
      rw [Array.any_eq_true'] at this
      obtain ⟨e, he, hh⟩ := this
      simp only [Bool.and_eq_true, Bool.or_eq_true, beq_iff_eq, List.contains_iff_mem] at hh
      exact ⟨e, he, hh.1, hh.2⟩
    · intro t ht i hi hd'
      have := List.all_eq_true.1 (List.all_eq_true.1 h3 t ht) i (List.mem_range.2 hi)
      simp only [Bool.or_eq_true, Bool.and_eq_true, bne_iff_ne, ne_eq, beq_iff_eq, decide_eq_true_eq, List.contains_iff_mem] at this
      rcases this with ((h | h) | h) | h
      · exact absurd hd' h
      · exact .inl h
      · exact .inr (.inl h)
      · exact .inr (.inr h)
    · intro he i hi hei
      rw [if_pos he] at h4
      have := List.all_eq_true.1 h4 i (List.mem_range.2 hi)
      simpa [hei] using this
    · intro he
      rw [if_neg (by simp [he])] at h4
      simpa using h4

/-- Which operations are done. -/
def done (listed : Array Bool) : Nat → Bool := fun i => listed.getD i true && decide (i < listed.size)

structure Inv (P : Program) (ops : List Oper) (ds : List DOper) (rs : List Rec) (T : List St) (env0 : Env) (B : (Nat → Prop) × St × (Nat → Value) × World) (d0 : List Deferred) (listed : Array Bool) (a : Act) (w : World) : Prop where
  size : listed.size = ops.length
  closed : ∀ i, done listed i = true → ∀ x ∈ befOf ds i, done listed x = true
  defers : a.defers = d0
  st : ∃ M σ ν, T[effCount ds (done listed) ops.length]? = some σ ∧ Good M σ ν w ∧ Later B.1 B.2.1 B.2.2.1 B.2.2.2 M σ ν w ∧
    EnvR M (RefOK σ ν) w (envAt ds rs (done listed) env0 ops.length) a

theorem ready_mem {j : Nat} {listed : Array Bool} (hs : listed.size = ops.length) : j ∈ Region.ready .any ops.toArray listed ↔
    ∃ o, ops[j]? = some o ∧ done listed j = false ∧ ∀ e ∈ o.after, Region.binds .any e = true → listed.getD e.on false = true := by
  unfold Region.ready
  simp only [List.mem_filter, List.mem_range, List.size_toArray, Bool.and_eq_true, Bool.not_eq_true', List.getElem?_toArray]
  constructor
  · rintro ⟨h1, h2, h3⟩
    have hl : ops[j]? = some ops[j] := by simp [h1]
    refine ⟨ops[j], hl, by simp [done, h2], fun e he hb => ?_⟩
    rw [hl] at h3
    simp only [Option.map_some, Option.getD_some] at h3
    have := Array.all_eq_true'.1 h3 e he
    simpa [hb] using this
  · rintro ⟨o, h1, h2, h3⟩
    have hlt := (List.getElem?_eq_some_iff.1 h1).1
    refine ⟨hlt, ?_, ?_⟩
    · simpa [done, hs, hlt] using h2
    · rw [h1]
      simp only [Option.map_some, Option.getD_some]
      rw [Array.all_eq_true']
      intro e he
      cases hb : Region.binds .any e
      · rfl
      · simpa [hb] using h3 e he hb

theorem done_set {listed : Array Bool} {j : Nat} (hj : j < listed.size) : ∀ i, done (listed.setIfInBounds j true) i = (done listed i || decide (i = j)) := by
  intro i
  unfold done
  simp only [Array.size_setIfInBounds, Array.getD_eq_getD_getElem?, Array.getElem?_setIfInBounds]
  by_cases h : j = i
  · subst h; simp [hj]
  · simp [h, Ne.symm h]

theorem done_of_listed {listed : Array Bool} {i : Nat} (h : listed.getD i false = true) : done listed i = true := by
  unfold done
  simp only [Array.getD_eq_getD_getElem?] at h ⊢
  cases hh : listed[i]? with
  | none => simp [hh] at h
  | some b =>
    have := (Array.getElem?_eq_some_iff.1 hh).1
    simp [hh] at h
    simp [h, this]

theorem dstOf_some {j : Nat} {d : DOper} (h : ds[j]? = some d) : dstOf ds j = d.o.dst := by simp [dstOf, h]

/-- What an operation that may come up now looks at is what it looked at in the one run. -/
theorem names_same {j : Nat} {o : Oper} {d : DOper} (hd : ds[j]? = some d) (hok : OkAt ops ds j o d) (hj : j < ops.length) {L : Nat → Bool} (hL : L j = false)
    (hbef : ∀ x ∈ d.bef, L x = true) (hcl : ∀ i, L i = true → ∀ x ∈ befOf ds i, L x = true) {t : Tmp} (ht : t ∈ operTmps d.o d.o.op.operands) :
    tmpA (envAt ds rs L env0 ops.length) t = tmpA (envAt ds rs (fun _ => true) env0 j) t := by
  rw [envAt_cut (j := j) ops.length (by omega) (fun i h1 h2 h3 => ?_), envAt_congr (L' := fun _ => true) j (fun i h1 h2 => ?_)]
  · rcases hok.tmps t ht i (by omega) h2 with e | ⟨_, e⟩ | ⟨e, _⟩
    · omega
    · exact hbef i e
    · omega
  · rcases hok.tmps t ht i h2 h3 with e | ⟨e, _⟩ | ⟨_, e⟩
    · subst e; exact hL
    · omega
    · cases hLi : L i with
      | false => rfl
      | true => rw [hcl i hLi j e] at hL; cases hL

/-- The frame behind the operation. -/
theorem env_next {j : Nat} {o : Oper} {d : DOper} (hd : ds[j]? = some d) (hok : OkAt ops ds j o d) (hj : j < ops.length) {L L' : Nat → Bool} (hL : L j = false) (hL' : ∀ i, L' i = (L i || decide (i = j)))
    (hcl : ∀ i, L i = true → ∀ x ∈ befOf ds i, L x = true) (t : Tmp) :
    tmpA (envAt ds rs L' env0 ops.length) t = tmpA (putA (envAt ds rs L env0 ops.length) d.o.dst (recOf rs j)) t := by
  rw [tmpA_put]
  split
  · rename_i hdt
    have hmem : t ∈ operTmps d.o d.o.op.operands := by unfold operTmps; simp [hdt]
    rw [envAt_cut (j := j + 1) ops.length (by omega) (fun i h1 h2 h3 => ?_)]
    · simp only [envAt]
      rw [hL' j]
      simp only [decide_true, Bool.or_true, if_true, tmpA_put, dstOf_some hd, hdt, envAt_length]
    · rw [hL' i]
      rcases hok.tmps t hmem i h2 h3 with e | ⟨e, _⟩ | ⟨_, e⟩
      · omega
      · omega
      · cases hLi : L i with
        | false => simp; omega
        | true => rw [hcl i hLi j e] at hL; cases hL
  · rename_i hdt
    refine envAt_congr _ (fun i _ hi => ?_)
    rw [hL' i]
    have : i ≠ j := fun e => hdt (by rw [← dstOf_some hd, ← e]; exact hi)
    simp [this]

theorem operTmps_op {o : AOper} {l : List Operand} {t : Tmp} (h : (.tmp t : Operand) ∈ l) : t ∈ operTmps o l := by
  unfold operTmps
  simp only [List.mem_append, List.mem_filterMap]
  exact .inl (.inl ⟨_, h, rfl⟩)

theorem aev_same {env env' : Env} {o : AOper} {l : List Operand} (h : ∀ t ∈ operTmps o l, tmpA env t = tmpA env' t) : ∀ x ∈ l, aev env x = aev env' x := by
  intro x hx
  cases x with
  | tmp t => exact h t (operTmps_op hx)
  | const v => rfl
  | global g => rfl
  | func f => rfl

theorem want_same {env env' : Env} {o : AOper} {l : List Operand} (h : ∀ t ∈ operTmps o l, tmpA env t = tmpA env' t) : wantA env o.guard = wantA env' o.guard := by
  cases hg : o.guard with
  | none => rfl
  | some x =>
    obtain ⟨t, want⟩ := x
    have := h t (by unfold operTmps; simp [hg])
    simp [wantA, this]

theorem draw_step {own : List Tmp} {B : (Nat → Prop) × St × (Nat → Value) × World} {d0 : List Deferred} {Q : Exit → Act → World → Prop} {K : Act → World → Prop}
    (hc : ops.map (compOper P own ops.toArray) = ds.map fun d => some d.o) (hokD : okD ops ds = true)
    (hsh : ∀ j d, ds[j]? = some d → ∃ r, rs[j]? = some r ∧ Shown P T d (envAt ds rs (fun _ => true) env0 j) (effCount ds (fun _ => true) j) r)
    {listed : Array Bool} {a : Act} {w : World} {j : Nat} (hI : Inv P ops ds rs T env0 B d0 listed a w) (hr : j ∈ Region.ready .any ops.toArray listed)
    (hK : ∀ a' w', Inv P ops ds rs T env0 B d0 (listed.setIfInBounds j true) a' w' → K a' w') : wpOp P ops.toArray Q j K a w := by
  obtain ⟨o, hj, hLj, hedges⟩ := (ready_mem hI.size).1 hr
  have hjlt := (List.getElem?_eq_some_iff.1 hj).1
  obtain ⟨d, hd, hok⟩ := okD_at hokD hj
  obtain ⟨r, hrj, hS⟩ := hsh j d hd
  have hbefd : befOf ds j = d.bef := by simp [befOf, hd]
  have heffd : effOf ds j = d.eff := by simp [effOf, hd]
  have hrec : recOf rs j = r.r := by simp [recOf, hrj]
  have hbef : ∀ x ∈ d.bef, done listed x = true := by
    intro x hx
    obtain ⟨e, he, hb, h⟩ := hok.bef x hx
    have h1 := done_of_listed (hedges e he hb)
    rcases h with h | h
    · rw [← h]; exact h1
    · exact hI.closed _ h1 x h
  have hnames : ∀ t ∈ operTmps d.o d.o.op.operands, tmpA (envAt ds rs (done listed) env0 ops.length) t = tmpA (envAt ds rs (fun _ => true) env0 j) t :=
    fun t ht => names_same hd hok hjlt hLj hbef hI.closed ht
  have hjs : j < listed.size := by rw [hI.size]; exact hjlt
  have hset := done_set hjs
  have hclosed' : ∀ i, done (listed.setIfInBounds j true) i = true → ∀ x ∈ befOf ds i, done (listed.setIfInBounds j true) x = true := by
    intro i hi x hx
    rw [hset] at hi ⊢
    simp only [Bool.or_eq_true, decide_eq_true_eq] at hi ⊢
    rcases hi with hi | hi
    · exact .inl (hI.closed i hi x hx)
    · subst hi; rw [hbefd] at hx; exact .inl (hbef x hx)
  have hcount := effCount_add (ds := ds) (L := done listed) (L' := done (listed.setIfInBounds j true)) hLj hset ops.length
  simp only [hjlt, decide_true, Bool.true_and, heffd] at hcount
  obtain ⟨M, σ, ν, hTk, hg, hl, hE⟩ := hI.st
  have hcomp : compOper P own ops.toArray o = some d.o := by
    have := congrArg (fun l => l[j]?) hc
    simp only [List.getElem?_map, hj, hd, Option.map_some, Option.some.injEq] at this
    exact this
  unfold compOper at hcomp
  obtain ⟨gd, hgd, hcomp⟩ := opt_bind_some hcomp
  obtain ⟨p, hp, hdo⟩ := opt_map_some hcomp
  have hguard : d.o.guard = gd := by rw [← hdo]
  have hop : d.o.op = p := by rw [← hdo]
  have hdst : d.o.dst = o.dst := by rw [← hdo]
  have hwant : wantA (envAt ds rs (done listed) env0 ops.length) gd = some r.want := by
    rw [← hguard, want_same hnames]; exact hS.want
  have hw := want_ok hgd hwant hE
  have hdef : ∀ (x : Option Tmp) (v : Value), (a.put x v).defers = a.defers := fun x v => by cases x <;> rfl
  -- the state behind it
  have next : ∀ (σ' : St) (v : Value) (w' : World) (M' : Nat → Prop) (ν' : Nat → Value), T[effCount ds (done (listed.setIfInBounds j true)) ops.length]? = some σ' → Good M' σ' ν' w' → Later M σ ν w M' σ' ν' w' →
      Rep M' (RefOK σ' ν') w' r.r v → K (a.put o.dst v) w' := by
    intro σ' v w' M' ν' h1 h2 h3 h4
    refine hK _ _ ⟨by simp [hI.size], hclosed', (hdef _ _).trans hI.defers, M', σ', ν', h1, h2, hl.trans h3, ?_⟩
    have hput := (h3.env hg hE).put o.dst h4
    refine ⟨by rw [envAt_length]; have := hput.len; rw [putA_length, envAt_length] at this; exact this, fun t => ?_⟩
    rw [env_next hd hok hjlt hLj hset hI.closed t, hdst, hrec]
    exact hput.rep t
  unfold wpOp
  simp only [List.getElem?_toArray, hj]
  -- how many of those that may write are done
  have heffk : d.eff = true → effCount ds (done listed) ops.length = effCount ds (fun _ => true) j := by
    intro he
    rw [effCount_cut (j := j) ops.length (by omega) (fun i h1 h2 h3 => ?_)]
    · have e1 : effCount ds (done listed) j ≤ effCount ds (fun _ => true) j := effCount_mono j (fun _ _ _ _ => rfl)
      have e2 : effCount ds (fun _ => true) j ≤ effCount ds (done listed) j := effCount_mono j (fun i hi hie _ => hbef i (hok.eff he i hi hie))
      omega
    · cases hLi : done listed i with
      | false => rfl
      | true =>
        by_cases hij : i = j
        · subst hij; rw [hLi] at hLj; cases hLj
        · obtain ⟨oi, hoi⟩ : ∃ oi, ops[i]? = some oi := ⟨ops[i], by simp [h2]⟩
          obtain ⟨di, hdi, hoki⟩ := okD_at hokD hoi
          have hei : di.eff = true := by simp [effOf, hdi] at h3; exact h3
          have hjb := hoki.eff hei j (by omega) (by rw [heffd]; exact he)
          rw [hI.closed i hLi j (by simp [befOf, hdi]; exact hjb)] at hLj
          cases hLj
  cases hrw : r.want with
  | false =>
    obtain ⟨e1, e2⟩ := hS.no hrw
    rw [if_neg (by rw [hw, hrw]; simp)]
    refine next σ undef w M ν ?_ hg .refl (by rw [e1]; exact undef_rep)
    rw [hcount]
    cases he : d.eff with
    | false => simpa using hTk
    | true =>
      obtain ⟨s, s1, s2⟩ := e2 he
      have := heffk he
      rw [this] at hTk ⊢
      rw [s1] at hTk
      simp at hTk; subst hTk
      simpa using s2
  | true =>
    rw [if_pos (by rw [hw, hrw])]
    refine .inl ?_
    cases he : d.eff with
    | true =>
      obtain ⟨s, s', s1, s2, s3⟩ := hS.eff hrw he
      have hk := heffk he
      rw [hk, s1] at hTk
      simp at hTk; subst hTk
      rw [hop] at s3
      rw [← axop_congr (env := envAt ds rs (done listed) env0 ops.length) (by rw [envAt_length, envAt_length]) (aev_same (l := p.operands) (by rw [← hop]; exact hnames))] at s3
      refine axop_sound hp s3 hg hE ?_
      rintro r' σ' v w' M' ν' ⟨rfl, rfl⟩ h2 h3 h4
      refine next σ' v w' M' ν' ?_ h2 h3 h4
      rw [hcount, hk, he]
      simpa using s2
    | false =>
      have hst := hS.stay hrw he
      obtain ⟨hlo, hhi⟩ := hok.room he
      have hk1 : d.lo ≤ effCount ds (done listed) ops.length := Nat.le_trans hlo (effCount_mono _ (fun i _ _ hi => hbef i (by simpa using hi)))
      have hk2 : effCount ds (done listed) ops.length ≤ d.hi := Nat.le_trans (effCount_mono _ (fun i _ _ hi => by
        simp only [Bool.not_eq_true', List.contains_eq_mem, decide_eq_false_iff_not]
        intro hji
        rw [hI.closed i hi j hji] at hLj; cases hLj)) hhi
      have hmem : σ ∈ (T.take (d.hi + 1)).drop d.lo := by
        obtain ⟨h1, h2⟩ := List.getElem?_eq_some_iff.1 hTk
        rw [List.mem_iff_getElem?]
        refine ⟨effCount ds (done listed) ops.length - d.lo, ?_⟩
        rw [List.getElem?_drop, List.getElem?_take, if_pos (by omega), show d.lo + (effCount ds (done listed) ops.length - d.lo) = effCount ds (done listed) ops.length by omega]
        exact hTk
      have s3 := hst σ hmem
      rw [hop] at s3
      rw [← stay_congr (aev_same (l := p.operands) (by rw [← hop]; exact hnames))] at s3
      refine axop_sound hp (axop_of_stay (K := fun r' s' => r' = r.r ∧ s' = σ) s3 ⟨rfl, rfl⟩) hg hE ?_
      rintro r' σ' v w' M' ν' ⟨rfl, rfl⟩ h2 h3 h4
      refine next σ' v w' M' ν' ?_ h2 h3 h4
      rw [hcount, he]
      simpa using hTk

def left (listed : Array Bool) : Nat := (listed.toList.filter (· == false)).length

theorem ready_nil {listed : Array Bool} (hs : listed.size = ops.length) (hokD : okD ops ds = true) (h : Region.ready .any ops.toArray listed = []) : ∀ i, i < ops.length → done listed i = true := by
  intro i
  induction i using Nat.strongRecOn with
  | ind i ih =>
    intro hi
    cases hd : done listed i with
    | true => rfl
    | false =>
      exfalso
      obtain ⟨o, ho⟩ : ∃ o, ops[i]? = some o := ⟨ops[i], by simp [hi]⟩
      obtain ⟨d, hdd, hok⟩ := okD_at hokD ho
      have : i ∈ Region.ready .any ops.toArray listed := (ready_mem hs).2 ⟨o, ho, hd, fun e he hb => by
        have h1 := hok.edges e he hb
        have h2 := ih e.on h1 (by omega)
        unfold done at h2
        simp only [Bool.and_eq_true, decide_eq_true_eq] at h2
        have h3 := h2.1
        simp only [Array.getD_eq_getD_getElem?] at h3 ⊢
        have h4 : listed[e.on]? = some (listed[e.on]'h2.2) := by simp [h2.2]
        rw [h4] at h3 ⊢
        simpa using h3⟩
      rw [h] at this; cases this

theorem left_set {listed : Array Bool} {j : Nat} (hj : j < listed.size) (h : done listed j = false) : left (listed.setIfInBounds j true) + 1 = left listed := by
  have hf : listed.toList[j]'(by simpa using hj) = false := by
    unfold done at h
    simpa [hj] using h
  unfold left
  rw [Array.toList_setIfInBounds]
  have key : ∀ (l : List Bool) (j : Nat) (hj : j < l.length), l[j] = false → ((l.set j true).filter (· == false)).length + 1 = (l.filter (· == false)).length := by
    intro l
    induction l with
    | nil => intro j hj; simp at hj
    | cons x l ih =>
      intro j hj hx
      cases j with
      | zero => simp at hx; subst hx; simp
      | succ j =>
        simp only [List.set_cons_succ]
        have := ih j (by simpa using hj) (by simpa using hx)
        cases x <;> simp at this ⊢ <;> omega
  exact key listed.toList j _ hf

theorem draw_any {own : List Tmp} {B : (Nat → Prop) × St × (Nat → Value) × World} {d0 : List Deferred} {Q : Exit → Act → World → Prop}
    (hc : ops.map (compOper P own ops.toArray) = ds.map fun d => some d.o) (hokD : okD ops ds = true)
    (hsh : ∀ j d, ds[j]? = some d → ∃ r, rs[j]? = some r ∧ Shown P T d (envAt ds rs (fun _ => true) env0 j) (effCount ds (fun _ => true) j) r)
    (hQ : ∀ listed a w, Inv P ops ds rs T env0 B d0 listed a w → (∀ i, i < ops.length → done listed i = true) → Q .normal a w) :
    ∀ (fuel : Nat) (listed : Array Bool) (a : Act) (w : World), left listed ≤ fuel → Inv P ops ds rs T env0 B d0 listed a w → wpAny P .any ops.toArray Q fuel listed a w := by
  intro fuel
  induction fuel with
  | zero =>
    intro listed a w hl hI
    have hnil : Region.ready .any ops.toArray listed = [] := by
      apply List.eq_nil_iff_forall_not_mem.2
      intro j hj
      obtain ⟨o, ho, hd, _⟩ := (ready_mem hI.size).1 hj
      have := left_set (by rw [hI.size]; exact (List.getElem?_eq_some_iff.1 ho).1) hd
      omega
    exact ⟨hnil, hQ listed a w hI (ready_nil hI.size hokD hnil)⟩
  | succ fuel ih =>
    intro listed a w hl hI
    refine ⟨fun h => hQ listed a w hI (ready_nil hI.size hokD h), fun j hj => ?_⟩
    refine draw_step hc hokD hsh hI hj fun a' w' hI' => ih _ a' w' ?_ hI'
    obtain ⟨o, ho, hd, _⟩ := (ready_mem hI.size).1 hj
    have := left_set (by rw [hI.size]; exact (List.getElem?_eq_some_iff.1 ho).1) hd
    omega

theorem draw_sound {own : List Tmp} {id : Nat} {KA : Env → St → Prop} {Q : Exit → Act → World → Prop} {env : Env} {σ : St} {M : Nat → Prop} {ν : Nat → Value} {w : World} {a : Act}
    (hm : P.follows .mixedOrders = true) (hc : ops.map (compOper P own ops.toArray) = ds.map fun d => some d.o) (hokD : okD ops ds = true)
    (hx : axd P KA ds env [σ] σ fun _ => True) (g : Good M σ ν w) (he : EnvR M (RefOK σ ν) w env a)
    (hK : ∀ env' σ' M' ν' w' a', KA env' σ' → Good M' σ' ν' w' → Later M σ ν w M' σ' ν' w' → EnvR M' (RefOK σ' ν') w' env' a' → a'.defers = a.defers → Q .normal a' w') :
    (Code.region id ops.toArray true).wp P Q a w := by
  have hlen : ops.length = ds.length := by
    have := congrArg List.length hc; simpa using this
  obtain ⟨rs, T, q1, q2, ⟨X, hX⟩, _, ⟨s, hs, hKs⟩, q6⟩ := axd_shown P KA ds env [σ] σ _ hx (by simp) rfl
  refine wp_region_any hm ?_
  rw [show ops.toArray.size = ops.length by simp]
  simp only [List.length_singleton, Nat.sub_self, Nat.zero_add] at q6
  have hg' : Good M σ ν w.drew := g.grow (Nat.le_refl _) fun _ _ => rfl
  have hl0 : Later M σ ν w M σ ν w.drew := .grow (Nat.le_refl _) fun _ _ => rfl
  have hnone : ∀ i, done (Array.replicate ops.length false) i = false := by
    intro i
    unfold done
    by_cases hi : i < ops.length
    · simp [hi]
    · simp [hi]
  refine draw_any (env0 := env) (rs := rs) (T := T) (B := (M, σ, ν, w)) (d0 := a.defers) hc hokD q6 ?_ _ _ _ _ (by simp [left]) ⟨by simp, (fun i hi => by rw [hnone] at hi; cases hi), rfl, M, σ, ν, ?_, hg', hl0, ?_⟩
  · intro listed a' w' hI hall
    obtain ⟨M', σ', ν', h1, h2, h3, h4⟩ := hI.st
    have e1 : effCount ds (done listed) ops.length = effCount ds (fun _ => true) ops.length := by
      have x1 : effCount ds (done listed) ops.length ≤ effCount ds (fun _ => true) ops.length := effCount_mono _ (fun _ _ _ _ => rfl)
      have x2 : effCount ds (fun _ => true) ops.length ≤ effCount ds (done listed) ops.length := effCount_mono _ (fun i hi _ _ => hall i hi)
      omega
    have e2 : s = σ' := by
      rw [e1] at h1
      rw [List.getLast?_eq_getElem?, q2, ← hlen] at hs
      simp only [List.length_singleton, Nat.add_sub_cancel_left] at hs
      rw [hs] at h1; simpa using h1
    subst e2
    refine hK _ s M' ν' w' a' hKs h2 h3 ?_ hI.defers
    refine ⟨by rw [envAt_length]; have := h4.len; rw [envAt_length] at this; exact this, fun t => ?_⟩
    have := h4.rep t
    rw [envAt_congr (L' := fun _ => true) ops.length (fun i hi _ => hall i hi), hlen] at this
    exact this
  · have : effCount ds (done (Array.replicate ops.length false)) ops.length = 0 := by
      have : ∀ n, effCount ds (done (Array.replicate ops.length false)) n = 0 := by
        intro n; induction n with
        | zero => rfl
        | succ n ih => simp [effCount, ih, hnone]
      exact this _
    rw [this, hX]; rfl
  · have : envAt ds rs (done (Array.replicate ops.length false)) env ops.length = env := by
      have : ∀ n, envAt ds rs (done (Array.replicate ops.length false)) env n = env := by
        intro n; induction n with
        | zero => rfl
        | succ n ih => simp [envAt, ih, hnone]
      exact this _
    rw [this]
    exact hl0.env g he

end
end Go.Ab
