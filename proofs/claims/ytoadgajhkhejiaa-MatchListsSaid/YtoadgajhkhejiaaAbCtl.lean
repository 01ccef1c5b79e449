/- The abstract run of a function's code, and that it tells what the model's run comes to. No condition. -/
import Derived.Test.YtoadgajhkhejiaaAbDone2
namespace Go.Ab
open Go
abbrev Env := List AV
def tmpA (env : Env) (t : Nat) : AV := env.getD t .any
def aev (env : Env) : Operand → AV
  | .tmp t => tmpA env t
  | .const v => cval v
  | .global _ => .any
  | .func f => .fn f [] []
inductive AOp where
  | prim (ao : AO)
  | call (f : Operand) (args : List Operand)
  | fresh (n : Nat) (d : Tmp) (x : Operand)
  | flo (n : Nat)
  | adopt (own : Bool) (d : Tmp) (n : Nat) (x : Operand)
structure AOper where
  dst : Option Tmp
  guard : Option (Tmp × Bool)
  op : AOp
def putA (env : Env) (d : Option Tmp) (r : AV) : Env :=
  match d with
  | some t => env.set t r
  | none => env
def wantA (env : Env) : Option (Tmp × Bool) → Option Bool
  | none => some true
  | some (t, want) => match tmpA env t with
    | .pl (.bool b) => some (b == want)
    | .tup [] => some false
    | _ => none
def Enters (P : Program) (f : FuncId) : Prop := ∃ fn, P.funcs[f]? = some fn ∧ (fn.name == "runtime.NumGoroutine") = false ∧ fn.body.isNone = false
def After (M : Nat → Prop) (σ : St) (ν : Nat → Value) (w : World) (r : AV) (σ' : St) (v : Value) (w' : World) : Prop :=
  ∃ M' ν', Good M' σ' ν' w' ∧ Later M σ ν w M' σ' ν' w' ∧ Rep M' (RefOK σ' ν') w' r v
def Ans (P : Program) (f : FuncId) (args : List AV) (σ : St) (r : AV) (σ' : St) : Prop :=
  ∀ M ν w (vs : List Value), Good M σ ν w → Reps M (RefOK σ ν) w args vs →
    (Enters P f ∧ Calls P f vs.toArray w fun e w' => ∃ v, e = .returned v ∧ After M σ ν w r σ' v w') ∨
    (∃ v w', (callFunc f vs.toArray).run P w = .ok (.value v) w' ∧ After M σ ν w r σ' v w')
def axop (P : Program) (env : Env) (σ : St) (o : AOp) (K : AV → St → Prop) : Prop :=
  match o with
  | .prim ao => match aop (aev env) σ ao with
    | some (r, σ') => K r σ'
    | none => False
  | .call f args => match aev env f with
    | .fn g fs cs => ∃ r σ', Ans P g (fs ++ args.map (aev env) ++ cs) σ r σ' ∧ K r σ'
    | _ => False
  | .fresh n d x => if d < env.length ∧ (aev env x).okc ∧ (aev env x).cells.length = n then K (.rp (aev env x).cells) σ else False
  | .flo _ => K .any σ
  | .adopt own d n x => if d < env.length ∧ (aev env x).okc ∧ (aev env x).cells.length = n then
      (if own then K (.ptr σ.length 0) (σ ++ [.box (aev env x).cells]) else K (.rp (aev env x).cells) σ) else False
def axops (P : Program) (K : Env → St → Prop) : List AOper → Env → St → Prop
  | [], env, σ => K env σ
  | o :: os, env, σ => match wantA env o.guard with
    | some true => axop P env σ o.op fun r σ' => axops P K os (putA env o.dst r) σ'
    | some false => axops P K os (putA env o.dst (.tup [])) σ
    | none => False
section
variable {P : Program} {M M' : Nat → Prop} {σ σ' : St} {ν ν' : Nat → Value} {w w' : World} {R : Ref → Value → Prop}
structure EnvR (M : Nat → Prop) (R : Ref → Value → Prop) (w : World) (env : Env) (a : Act) : Prop where
  len : env.length ≤ a.tmps.size
  rep : ∀ t, Rep M R w (tmpA env t) (a.tmps.getD t undef)
theorem EnvR.parts {env : Env} {a : Act} (h : EnvR M R w env a) : PartsRep M R w (aev env) a.eval := by
  intro x
  cases x with
  | tmp t => exact h.rep t
  | const v => exact cval_rep v
  | global g => exact .any _
  | func f => exact .fn f [] [] [] [] rfl rfl (fun j hj => by simp at hj) (fun j hj => by simp at hj)
theorem EnvR.put {env : Env} {a : Act} (h : EnvR M R w env a) (d : Option Tmp) {r : AV} {v : Value} (hr : Rep M R w r v) : EnvR M R w (putA env d r) (a.put d v) := by
  cases d with
  | none => exact h
  | some t =>
    refine ⟨by simpa [putA, Act.put] using h.len, fun s => ?_⟩
    simp only [putA, Act.put, tmpA, List.getD_eq_getElem?_getD, List.getElem?_set]
    by_cases hs : t = s
    · subst hs
      by_cases hlt : t < env.length
      · have : t < a.tmps.size := Nat.lt_of_lt_of_le hlt h.len
        simpa [hlt, this] using hr
      · simp [hlt]; exact .any _
    · rw [if_neg hs]
      have := h.rep s
      simp only [tmpA, List.getD_eq_getElem?_getD] at this
      simpa [Array.getElem?_setIfInBounds_ne hs] using this
theorem EnvR.mono {env : Env} {a : Act} {R' : Ref → Value → Prop} (h : EnvR M R w env a) (h1 : ∀ b, b < w.heap.size → ¬ M b → ¬ M' b ∧ w'.heap[b]? = w.heap[b]?) (h2 : ∀ r v, R r v → R' r v) : EnvR M' R' w' env a :=
  ⟨h.len, fun t => (h.rep t).mono h1 h2⟩
theorem Later.env (g : Good M σ ν w) (h : Later M σ ν w M' σ' ν' w') {env : Env} {a : Act} (hr : EnvR M (RefOK σ ν) w env a) : EnvR M' (RefOK σ' ν') w' env a :=
  hr.mono (h.sealed g) h.evo
theorem undef_rep : Rep M R w (.tup []) undef := .tup [] [] rfl (fun j hj => by simp at hj)
def guardOf (ops : Array Oper) : Option (Nat × Bool) → Option (Option (Tmp × Bool))
  | none => some none
  | some (j, want) => ((ops[j]?).bind (·.dst)).map fun t => some (t, want)
theorem want_ok {ops : Array Oper} {o : Oper} {env : Env} {a : Act} {gd : Option (Tmp × Bool)} {b : Bool} (hg : guardOf ops o.guard = some gd) (hw : wantA env gd = some b) (h : EnvR M R w env a) :
    Region.wanted o (yielded ops a.tmps) = b := by
  unfold Region.wanted
  cases hgd : o.guard with
  | none => rw [hgd] at hg; simp [guardOf] at hg; subst hg; simp [wantA] at hw; subst hw; rfl
  | some jw =>
    obtain ⟨j, want⟩ := jw
    rw [hgd] at hg
    simp only [guardOf] at hg
    obtain ⟨t, ht, rfl⟩ := opt_map_some hg
    have hr := h.rep t
    simp only [wantA] at hw
    unfold yielded
    simp only [ht, Option.bind_some]
    split at hw
    · rename_i b' e
      rw [e] at hr
      have e2 := hr.pl_inv
      have e3 : a.tmps[t]? = some (.bool b') := by
        cases hh : a.tmps[t]? with
        | none => simp [hh, undef] at e2
        | some v => simp [hh] at e2; rw [e2]
      simp [e3] at hw ⊢
      cases b' <;> cases want <;> cases b <;> simp_all
    · rename_i e
      rw [e] at hr
      obtain ⟨vs, e2, hvs⟩ := hr.tup_inv
      have : vs = [] := by
        have := hvs.1; exact List.eq_nil_of_length_eq_zero this.symm
      subst this
      simp at hw; subst hw
      cases hh : a.tmps[t]? with
      | none => rfl
      | some v => simp [hh] at e2; subst e2; rfl
    · cases hw
def callAO : Op → Option AOp
  | .call { callee := .value f, args, .. } => some (.call f args.toList)
  | _ => none
def compOp (P : Program) (own : Bool) (op : Op) : Option AOp :=
  match callAO op with
  | some c => some c
  | none => some (.prim ((opAOx P own op).getD .bad))
theorem callAO_inv {op : Op} {c : AOp} (h : callAO op = some c) : ∃ f args tys, op = .call { callee := .value f, args, argTypes := tys } ∧ c = .call f args.toList := by
  unfold callAO at h
  split at h
  · rename_i f args tys
    simp at h; exact ⟨f, args, tys, rfl, h.symm⟩
  · cases h
theorem Reps.map {ρ : Operand → AV} {ρ' : Operand → Value} (h : PartsRep M R w ρ ρ') (l : List Operand) : Reps M R w (l.map ρ) (l.map ρ') := ⟨by simp, fun j _ _ => by simpa using h _⟩
theorem Rep.fn_inv {g : FuncId} {fs cs : List AV} {v : Value} (h : Rep M R w (.fn g fs cs) v) : ∃ us vs : List Value, v = .func (.func g) us.toArray vs.toArray ∧ Reps M R w fs us ∧ Reps M R w cs vs := by
  cases h with
  | fn g fs cs us vs hl hl' hr hr' => exact ⟨us, vs, rfl, ⟨hl, hr⟩, ⟨hl', hr'⟩⟩
theorem axop_sound {own : Bool} {o : Oper} {ao : AOp} {env : Env} {a : Act} {KA : AV → St → Prop} {K : Act → World → Prop} {Q : Exit → Act → World → Prop}
    (hc : compOp P own o.op = some ao) (hx : axop P env σ ao KA) (g : Good M σ ν w) (he : EnvR M (RefOK σ ν) w env a)
    (hK : ∀ r σ' v w' M' ν', KA r σ' → Good M' σ' ν' w' → Later M σ ν w M' σ' ν' w' → Rep M' (RefOK σ' ν') w' r v → K (a.put o.dst v) w') : o.wp P a w K Q := by
  unfold compOp at hc
  cases hcall : callAO o.op with
  | none =>
    rw [hcall] at hc
    simp only [Option.some.injEq] at hc
    subst hc
    simp only [axop] at hx
    cases hp : opAOx P own o.op with
    | none => rw [hp] at hx; simp [aop] at hx
    | some p =>
    rw [hp] at hx
    simp only [Option.getD_some] at hx
    split at hx
    · rename_i r σ' hv
      obtain ⟨n, v, w', M', ν', h1, h2, h3, h4, h5⟩ := op_donex hp hv g he.parts (fun _ => rfl) (fun _ => rfl)
      unfold Oper.wp
      rw [h1]
      rcases h2 with rfl | ⟨rfl, rfl⟩
      · exact hK r σ' v w' M' ν' hx h3 h4 h5
      · exact hK r σ' undef w' M' ν' hx h3 h4 h5
    · exact hx.elim
  | some c =>
    rw [hcall] at hc
    simp at hc; subst hc
    obtain ⟨f, args, tys, ho, rfl⟩ := callAO_inv hcall
    simp only [axop] at hx
    split at hx
    · rename_i gf fs cs hf
      obtain ⟨r, σ', hS, hx⟩ := hx
      have hfv := he.parts f
      rw [hf] at hfv
      obtain ⟨us, vs, e, hus, hvs⟩ := hfv.fn_inv
      have hargs := Reps.map he.parts args.toList
      have hrun : (execOp a.eval o).run P w = (callFunc gf (us.toArray ++ (args.map a.eval) ++ vs.toArray)).run P w := by
        unfold execOp
        rw [ho]
        simp [resolve, e, Deferred.ofValue, invoke]
      have hall : us.toArray ++ (args.map a.eval) ++ vs.toArray = (us ++ args.toList.map a.eval ++ vs).toArray := by
        apply Array.ext'; simp
      rw [hall] at hrun
      unfold Oper.wp
      rw [hrun]
      rcases hS M ν w _ g ((hus.append hargs).append hvs) with ⟨⟨fn, hfn, hn, hb⟩, hcalls⟩ | ⟨v, w', hrun2, M', ν', h1, h2, h3⟩
      · have hcf : (callFunc gf (us ++ args.toList.map a.eval ++ vs).toArray).run P w = .ok (.enter gf (us ++ args.toList.map a.eval ++ vs).toArray) w := by
          simp only [callFunc, Sem.run_bind, run_program, Result.andThen, hfn, hn, hb, Bool.false_eq_true, if_false, Sem.run_pure]
        rw [hcf]
        refine hcalls.mono ?_
        rintro e w' ⟨v, rfl, M', ν', h1, h2, h3⟩
        exact hK r σ' v w' M' ν' hx h1 h2 h3
      · rw [hrun2]
        exact hK r σ' v w' M' ν' hx h1 h2 h3
    · exact hx.elim
def compOper (P : Program) (own : List Tmp) (ops : Array Oper) (o : Oper) : Option AOper :=
  (guardOf ops o.guard).bind fun gd => (compOp P (match o.dst with | some d => own.contains d | none => false) o.op).map fun op => { dst := o.dst, guard := gd, op }
def notTmp (d : Tmp) : Operand → Bool
  | .tmp s => s != d
  | _ => true
def isFresh (P : Program) (o1 o2 : Oper) : Option AOper :=
  match o1.dst, o1.op, o1.guard, o2.op, o2.guard, o2.dst with
  | some d, .alloc t, none, .store t' (.tmp d') x, none, none =>
    if d = d' ∧ t = t' ∧ notTmp d x = true then
      (szOf P t).bind fun n => if ((zcOf P t).map (·.length)) = some n then some { dst := some d, guard := none, op := .fresh n d x } else none
    else none
  | _, _, _, _, _, _ => none
def ownB (own : List Tmp) : Option Tmp → Bool
  | some d => own.contains d
  | none => true
def compL (P : Program) (own : List Tmp) (ops : Array Oper) : List Oper → Option (List AOper)
  | [] => some []
  | [o] => (compOper P own ops o).map fun x => [x]
  | o1 :: o2 :: l =>
    if ownB own o1.dst then (compOper P own ops o1).bind fun x => (compL P own ops (o2 :: l)).map (x :: ·)
    else match isFresh P o1 o2 with
    | some x => (compL P own ops l).map (x :: ·)
    | none => (compOper P own ops o1).bind fun x => (compL P own ops (o2 :: l)).map (x :: ·)
theorem isFresh_inv {o1 o2 : Oper} {x : AOper} (h : isFresh P o1 o2 = some x) : ∃ d t y n, o1.dst = some d ∧ o1.op = .alloc t ∧ o1.guard = none ∧ o2.op = .store t (.tmp d) y ∧ o2.guard = none ∧ o2.dst = none ∧
    y ≠ .tmp d ∧ szOf P t = some n ∧ (∃ z, zcOf P t = some z ∧ z.length = n) ∧ x = { dst := some d, guard := none, op := .fresh n d y } := by
  unfold isFresh at h
  split at h
  · rename_i d t t' d' y e1 e2 e3 e4 e5 e6
    split at h
    · rename_i hc
      obtain ⟨rfl, rfl, hy⟩ := hc
      obtain ⟨n, hn, h⟩ := opt_bind_some h
      split at h
      · rename_i hl
        simp at h
        obtain ⟨z, hz, hzl⟩ := opt_map_some hl
        refine ⟨d, t, y, n, e1, e2, e3, e4, e5, e6, ?_, hn, ⟨z, hz, hzl⟩, h.symm⟩
        rintro rfl
        simp [notTmp] at hy
      · cases h
    · cases h
  · cases h
theorem Act.eval_put_ne {a : Act} {d : Tmp} {v : Value} {x : Operand} (h : x ≠ .tmp d) : (a.put (some d) v).eval x = a.eval x :=
  Act.eval_put (fun d' e => by simp at e; subst e; exact h)
theorem fresh_sound {ops : Array Oper} {Q : Exit → Act → World → Prop} {o1 o2 : Oper} {x : AOper} {env : Env} {a : Act} {l : List Oper} {KA : AV → St → Prop}
    (hf : isFresh P o1 o2 = some x) (hx : axop P env σ x.op KA) (g : Good M σ ν w) (he : EnvR M (RefOK σ ν) w env a)
    (hK : ∀ r v w', KA r σ → Good M σ ν w' → Later M σ ν w M σ ν w' → Rep M (RefOK σ ν) w' r v → wpList P ops Q l (a.put x.dst v) w') : wpList P ops Q (o1 :: o2 :: l) a w := by
  obtain ⟨d, t, y, n, e1, e2, e3, e4, e5, e6, hy, hn, ⟨z, hz, hzl⟩, rfl⟩ := isFresh_inv hf
  simp only [axop] at hx
  split at hx
  · rename_i hc
    obtain ⟨hdl, ho, hcl⟩ := hc
    obtain ⟨v0, hv0, hr0⟩ := zc_reps hz
    have hv0s : v0.cells.size = n := ((hr0 M (RefOK σ ν) w).1.trans Array.length_toList).symm.trans hzl
    have hyr := he.parts y
    have hcells := hyr.okc_cells ho
    have hys : (a.eval y).cells.toList.length = n := by rw [← hcells.1]; exact hcl
    have hrun1 : (execOp a.eval o1).run P w = .ok (.value (.pointer (some ⟨w.heap.size, 0, none⟩))) (w.alloc (.cells v0.cells t)) := by
      unfold execOp; rw [e2]
      simp [Instr.alloc, hv0, newVar, newRow]
    obtain ⟨c', hst, hc'⟩ := run_storeCells (P := P) w.heap.size 0 t (0, 0) (a.eval y).cells.toList 0 v0.cells (w.alloc (.cells v0.cells t)) (alloc_heap w _) (by omega)
      (hcells.one (AV.okc_all ho)) (fun j _ => by simp)
    have hrun2 : (execOp (a.put (some d) (.pointer (some ⟨w.heap.size, 0, none⟩))).eval o2).run P (w.alloc (.cells v0.cells t)) = .ok .skip (putRow (w.alloc (.cells v0.cells t)) w.heap.size c' t (0, 0)) := by
      unfold execOp; rw [e4]
      simp only [Act.eval_put_ne hy]
      have hd : d < a.tmps.size := Nat.lt_of_lt_of_le hdl he.len
      have hp : (a.put (some d) (.pointer (some ⟨w.heap.size, 0, none⟩))).eval (.tmp d) = .pointer (some ⟨w.heap.size, 0, none⟩) := by
        simp [Act.put, Act.eval, hd]
      have hvs : (a.eval y).cells.size = n := by simpa using hys
      simp only [hp, Instr.storeAt, Instr.sureAddr, storeVar, Sem.run_bind, Sem.run_pure, Result.andThen, run_size hn, hvs, ne_eq, not_true, if_false, hst]
    have hw2 : ∀ b, b < w.heap.size → (putRow (w.alloc (.cells v0.cells t)) w.heap.size c' t (0, 0)).heap[b]? = w.heap[b]? := fun b hb => by
      rw [putRow_other (by omega), heap_alloc_old w _ b hb]
    have hsz2 : w.heap.size ≤ (putRow (w.alloc (.cells v0.cells t)) w.heap.size c' t (0, 0)).heap.size := by simp
    have hgr := g.grow hsz2 hw2
    have hlt : Later M σ ν w M σ ν (putRow (w.alloc (.cells v0.cells t)) w.heap.size c' t (0, 0)) := .grow hsz2 hw2
    have hblk := putRow_same (alloc_heap w (.cells v0.cells t)) c' t (0, 0)
    have hc2 : c'.toList = (a.eval y).cells.toList := by
      rw [hc']
      have : v0.cells.toList.length = (a.eval y).cells.toList.length := by rw [hys]; simpa using hv0s
      simp [lsplice, ← this]
    have hrep : Rep M (RefOK σ ν) (putRow (w.alloc (.cells v0.cells t)) w.heap.size c' t (0, 0)) (.rp (aev env y).cells) (.pointer (some ⟨w.heap.size, 0, none⟩)) := by
      have hrs := hlt.reps g hcells
      refine .rp _ _ _ (fun j => c'[j]?.getD undef) (fun j hj => ⟨fun h => absurd (g.lt _ h) (Nat.lt_irrefl _), ?_⟩) (fun j hj => ?_)
      · rw [cell_of_row _ _ _ _ _ _ hblk, Nat.zero_add]
        have : j < c'.size := by rw [← Array.length_toList, hc2, hys]; omega
        simp [this]
      · have hj2 : j < (a.eval y).cells.toList.length := by rw [hys]; omega
        have := hrs.2 j hj hj2
        have e : c'[j]?.getD undef = (a.eval y).cells.toList[j] := by
          have hj3 : j < (a.eval y).cells.size := by simpa using hj2
          rw [← Array.getElem?_toList, hc2]; simp [hj3]
        rw [e]; exact this
    unfold wpList
    rw [if_pos (by simp [Region.wanted, e3])]
    refine .inl ?_
    unfold Oper.wp
    rw [hrun1, Oper.upon_value, e1]
    unfold wpList
    rw [if_pos (by simp [Region.wanted, e5])]
    refine .inl ?_
    unfold Oper.wp
    rw [hrun2, Oper.upon_skip, e6]
    exact hK _ _ _ hx hgr hlt hrep
  · exact hx.elim
theorem axops_sound {own : List Tmp} {ops : Array Oper} {KA : Env → St → Prop} {Q : Exit → Act → World → Prop} :
    ∀ (n : Nat) (l : List Oper) (al : List AOper) (env : Env) (σ : St) (M : Nat → Prop) (ν : Nat → Value) (w : World) (a : Act), l.length ≤ n →
      compL P own ops l = some al → axops P KA al env σ → Good M σ ν w → EnvR M (RefOK σ ν) w env a →
      (∀ env' σ' M' ν' w' a', KA env' σ' → Good M' σ' ν' w' → Later M σ ν w M' σ' ν' w' → EnvR M' (RefOK σ' ν') w' env' a' → a'.defers = a.defers → Q .normal a' w') →
      wpList P ops Q l a w := by
  intro n
  induction n with
  | zero =>
    intro l al env σ M ν w a hn hl hx g he hK
    have : l = [] := List.eq_nil_of_length_eq_zero (by omega)
    subst this
    simp [compL] at hl; subst hl
    exact hK env σ M ν w a hx g .refl he rfl
  | succ n ih =>
    intro l al env σ M ν w a hn hl hx g he hK
    have one : ∀ (o : Oper) (l' : List Oper) (x : AOper) (al' : List AOper), l = o :: l' → al = x :: al' → compOper P own ops o = some x → compL P own ops l' = some al' → wpList P ops Q l a w := by
      rintro o l' ao al' rfl rfl h1 h2
      unfold compOper at h1
      obtain ⟨gd, hgd, h1⟩ := opt_bind_some h1
      obtain ⟨p, hp, rfl⟩ := opt_map_some h1
      simp only [axops] at hx
      unfold wpList
      have hdef : ∀ (d : Option Tmp) (v : Value), (a.put d v).defers = a.defers := fun d v => by cases d <;> rfl
      have hn' : l'.length ≤ n := by simpa using hn
      split at hx
      · rename_i hw
        rw [if_pos (want_ok hgd hw he)]
        refine .inl (axop_sound hp hx g he fun r σ' v w' M' ν' hk g' l' r' => ?_)
        refine ih _ al' _ σ' M' ν' w' _ hn' h2 hk g' ((l'.env g he).put _ r') fun env2 σ2 M2 ν2 w2 a2 k2 g2 l2 e2 d2 => ?_
        exact hK env2 σ2 M2 ν2 w2 a2 k2 g2 (l'.trans l2) e2 (d2.trans (hdef _ _))
      · rename_i hw
        rw [if_neg (by rw [want_ok hgd hw he]; simp)]
        refine ih _ al' _ σ M ν w _ hn' h2 hx g (he.put _ undef_rep) fun env2 σ2 M2 ν2 w2 a2 k2 g2 l2 e2 d2 => ?_
        exact hK env2 σ2 M2 ν2 w2 a2 k2 g2 l2 e2 (d2.trans (hdef _ _))
      · exact hx.elim
    match l, hl with
    | [], hl =>
      simp [compL] at hl; subst hl
      exact hK env σ M ν w a hx g .refl he rfl
    | [o], hl =>
      simp only [compL] at hl
      obtain ⟨x, hx1, rfl⟩ := opt_map_some hl
      exact one o [] x [] rfl rfl hx1 rfl
    | o1 :: o2 :: l, hl =>
      have two : ((compOper P own ops o1).bind fun x => (compL P own ops (o2 :: l)).map (x :: ·)) = some al → wpList P ops Q (o1 :: o2 :: l) a w := by
        intro h
        obtain ⟨x, hx1, h⟩ := opt_bind_some h
        obtain ⟨al', hal, rfl⟩ := opt_map_some h
        exact one o1 (o2 :: l) x al' rfl rfl hx1 hal
      rw [compL] at hl
      split at hl
      · exact two hl
      · split at hl
        · rename_i x hfr
          obtain ⟨al', hal, rfl⟩ := opt_map_some hl
          have hgd : x.guard = none := by
            obtain ⟨_, _, _, _, _, _, _, _, _, _, _, _, _, rfl⟩ := isFresh_inv hfr; rfl
          simp only [axops, hgd, wantA] at hx
          have hdef : ∀ (d : Option Tmp) (v : Value), (a.put d v).defers = a.defers := fun d v => by cases d <;> rfl
          have hsame : axop P env σ x.op fun r s => axops P KA al' (putA env x.dst r) s := by
            obtain ⟨d, t, y, n', _, _, _, _, _, _, _, _, _, rfl⟩ := isFresh_inv hfr
            exact hx
          refine fresh_sound hfr hsame g he fun r v w' hk g' l' r' => ?_
          refine ih l al' _ σ M ν w' _ (by simp at hn; omega) hal hk g' ((l'.env g he).put _ r') fun env2 σ2 M2 ν2 w2 a2 k2 g2 l2 e2 d2 => ?_
          exact hK env2 σ2 M2 ν2 w2 a2 k2 g2 (l'.trans l2) e2 (d2.trans (hdef _ _))
        · exact two hl
end
end Go.Ab
