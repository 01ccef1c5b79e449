/- From the abstract run of a body to what a call answers; and what follows of one answer for another store of objects. No condition. -/
import Derived.Test.YtoadgajhkhejiaaAbCode
namespace Go.Ab
open Go
inductive RV where
  | tmp (t : Tmp)
  | cell (a : Tmp) (n : Nat) (ag : Bool)
def rvOf (P : Program) : ResultVar → Option RV
  | .tmp t => some (.tmp t)
  | .cell a t => (szOf P t).bind fun n => (agOf P t).map fun ag => .cell a n ag
def rvA (env : Env) (σ : St) : RV → Option AV
  | .tmp t => some (tmpA env t)
  | .cell a n ag => match tmpA env a with
    | .any => none
    | x => loadA σ n ag x
def oneOf : List AV → AV
  | [x] => x
  | xs => .tup xs
def resA (env : Env) (σ : St) (rvs : List RV) : Option AV := (allSome (rvs.map (rvA env σ))).map oneOf
def Fini (n0 : Nat) (rvs : List RV) (r : AV) (σ' : St) : AExit → Env → St → Prop
  | .exit _, _, _ => False
  | _, env, σ => ∃ r1 σ1, resA env σ rvs = some r1 ∧ r1 = r ∧ σ1 = σ ∧ (σ' = σ1 ∨ (n0 ≤ σ'.length ∧ σ' = σ1.take σ'.length ∧ Bel σ'.length r ∧ ∀ o ∈ σ', BelO σ'.length o))
section
variable {P : Program} {M : Nat → Prop} {σ σ' : St} {ν : Nat → Value} {w : World} {R : Ref → Value → Prop}
theorem ptr_of_load {n : Nat} {ag : Bool} {a r : AV} {v : Value} (h : loadA σ n ag a = some r) (hr : Rep M R w a v) : ∃ x, v = .pointer (some x) := by
  cases a <;> simp [loadA] at h
  · obtain ⟨b, o, _, e, _⟩ := hr.rp_inv; exact ⟨_, e⟩
  · obtain ⟨b, o, e, _⟩ := hr.ptr_inv; exact ⟨_, e⟩
  · obtain ⟨b, o, e, _⟩ := hr.ep_inv; exact ⟨_, e⟩
theorem results_run {fn : Func} {rvs : List RV} {env : Env} {a : Act} {r : AV} (hrv : fn.results.toList.map (rvOf P) = rvs.map some) (h : resA env σ rvs = some r) (g : Good M σ ν w)
    (he : EnvR M (RefOK σ ν) w env a) : ∃ v, (results fn a.tmps).run P w = .ok v w ∧ Rep M (RefOK σ ν) w r v := by
  unfold resA at h
  obtain ⟨xs, hxs, rfl⟩ := opt_map_some h
  have hmap := allSome_map hxs
  have key : ∀ (l : List ResultVar) (rvs : List RV) (xs : List AV), l.map (rvOf P) = rvs.map some → rvs.map (rvA env σ) = xs.map some →
      ∃ vs : List Value, (∀ f : ResultVar → Sem Value, (∀ t, f (.tmp t) = pure (a.tmps.getD t undef)) → (∀ c t, f (.cell c t) = do loadVar t (← asAddr (a.tmps.getD c undef))) → (l.mapM f).run P w = .ok vs w) ∧ Reps M (RefOK σ ν) w xs vs := by
    intro l
    induction l with
    | nil =>
      intro rvs xs h1 h2
      cases rvs <;> simp at h1
      cases xs <;> simp at h2
      exact ⟨[], fun _ _ _ => rfl, .nil⟩
    | cons rv l ih =>
      intro rvs xs h1 h2
      cases rvs with
      | nil => simp at h1
      | cons q rvs =>
        cases xs with
        | nil => simp at h2
        | cons x xs =>
          simp only [List.map_cons, List.cons.injEq] at h1 h2
          obtain ⟨vs, hvs, hr⟩ := ih rvs xs h1.2 h2.2
          have hone : ∃ v, (∀ f : ResultVar → Sem Value, (∀ t, f (.tmp t) = pure (a.tmps.getD t undef)) → (∀ c t, f (.cell c t) = do loadVar t (← asAddr (a.tmps.getD c undef))) → (f rv).run P w = .ok v w) ∧ Rep M (RefOK σ ν) w x v := by
            cases rv with
            | tmp t =>
              simp [rvOf] at h1
              rw [← h1.1] at h2
              simp [rvA] at h2
              exact ⟨_, fun f q1 _ => by rw [q1]; rfl, by rw [← h2.1]; exact he.rep t⟩
            | cell c t =>
              simp only [rvOf] at h1
              obtain ⟨n, hn, h1a⟩ := opt_bind_some h1.1
              obtain ⟨ag, hag, rfl⟩ := opt_map_some h1a
              have h2a : loadA σ n ag (tmpA env c) = some x := by
                have := h2.1
                simp only [rvA] at this
                split at this
                · cases this
                · exact this
              obtain ⟨p, hp⟩ := ptr_of_load h2a (he.rep c)
              have hw : (Instr.loadAt t (a.tmps.getD c undef)).run P w = (do loadVar t (← asAddr (a.tmps.getD c undef)) : Sem Value).run P w := by
                rw [hp]; rfl
              obtain ⟨v, h3, h4⟩ := load_same (P := P) g hn hag (he.rep c) h2a
              exact ⟨v, fun f _ q2 => by rw [q2, ← hw]; exact h3, h4⟩
          obtain ⟨v, hv, hrv⟩ := hone
          refine ⟨v :: vs, fun f q1 q2 => ?_, .cons hrv hr⟩
          simp only [List.mapM_cons, Sem.run_bind, hv f q1 q2, Result.andThen, hvs f q1 q2, Sem.run_pure]
  obtain ⟨vs, hvs, hr⟩ := key _ rvs xs hrv hmap
  have hrun2 : ∀ (f : ResultVar → Sem Value), (∀ t, f (.tmp t) = pure (a.tmps.getD t undef)) → (∀ c t, f (.cell c t) = do loadVar t (← asAddr (a.tmps.getD c undef))) →
      ((do let us ← fn.results.mapM f; pure (if h : us.size = 1 then us[0] else .tuple us)) : Sem Value).run P w = .ok (if h : vs.toArray.size = 1 then vs.toArray[0] else .tuple vs.toArray) w := by
    intro f q1 q2
    rw [Array.mapM_eq_mapM_toList]
    simp only [Sem.run_bind, Sem.run_map, hvs f q1 q2, Result.andThen, Sem.run_pure]
  have hrun : (results fn a.tmps).run P w = .ok (if h : vs.toArray.size = 1 then vs.toArray[0] else .tuple vs.toArray) w := hrun2 _ (fun _ => rfl) (fun _ _ => rfl)
  refine ⟨_, hrun, ?_⟩
  match xs, vs, hr with
  | [], [], hr => exact .of_tup hr
  | [x], [v], hr => exact hr.head
  | x :: y :: xs, u :: v :: vs, hr => 
    simp only [List.size_toArray, List.length_cons]
    rw [dif_neg (by omega)]
    exact .of_tup hr
  | [], _ :: _, hr => simp [Reps] at hr
  | _ :: _, [], hr => simp [Reps] at hr
  | [_], _ :: _ :: _, hr => simp [Reps] at hr
  | _ :: _ :: _, [_], hr => simp [Reps] at hr
structure Text (P : Program) (f : FuncId) (own : List Tmp) (x : ACode) (rvs : List RV) (n : Nat) : Prop where
  fn : ∃ fn c, P.funcs[f]? = some fn ∧ (fn.name == "runtime.NumGoroutine") = false ∧ fn.body = some c ∧ cc P own c x = some x ∧ fn.results.toList.map (rvOf P) = rvs.map some ∧ fn.ntmps = n
  mixed : P.follows .mixedOrders = true
theorem Ans.of_ax {f : FuncId} {own : List Tmp} {x : ACode} {rvs : List RV} {n : Nat} {args : List AV} {r : AV} (ht : Text P f own x rvs n)
    (h : ax P σ.length x (Fini σ.length rvs r σ') (args ++ List.replicate (n - args.length) .any) σ) : Ans P f args σ r σ' := by
  obtain ⟨fn, c, hf, hname, hb, hcc, hrv, hn⟩ := ht.fn
  intro M ν w vs g hvs
  refine .inl ⟨⟨fn, hf, hname, by rw [hb]; rfl⟩, ?_⟩
  refine calls_of_wp hf hb ?_
  have hlen : args.length = vs.length := hvs.1
  have hA : At ⟨M, σ, ν, w, []⟩ (args ++ List.replicate (n - args.length) .any) σ { tmps := vs.toArray ++ Array.replicate (fn.ntmps - vs.toArray.size) undef, defers := [] } w := by
    refine ⟨M, ν, g, .refl, ⟨by simp [hlen, hn], fun t => ?_⟩, rfl⟩
    unfold tmpA
    rw [List.getD_eq_getElem?_getD]
    by_cases h1 : t < args.length
    · have h2 : t < vs.length := by omega
      rw [List.getElem?_append_left h1]
      simp only [Array.getD_eq_getD_getElem?]
      rw [Array.getElem?_append_left (by simpa using h2)]
      simpa [h1, h2] using hvs.2 t h1 h2
    · rw [List.getElem?_append_right (by omega)]
      by_cases h3 : t - args.length < n - args.length
      · simp [h3]; exact .any _
      · simp [h3]; exact .any _
  refine ax_sound ht.mixed x c _ _ _ σ _ w hcc h hA fun e env' σ1 a' w' hk hA' => ?_
  obtain ⟨M', ν', g', l', e', d'⟩ := hA'
  have fin : (∃ r1 s1, resA env' σ1 rvs = some r1 ∧ r1 = r ∧ s1 = σ1 ∧ (σ' = s1 ∨ (σ.length ≤ σ'.length ∧ σ' = s1.take σ'.length ∧ Bel σ'.length r ∧ ∀ o ∈ σ', BelO σ'.length o))) →
      a'.defers = [] ∧ ∃ v, (results fn a'.tmps).run P w' = .ok v w' ∧ ∃ v', Ending.returned v = .returned v' ∧ After M σ ν w r σ' v' w' := by
    rintro ⟨r1, s1, h1, rfl, rfl, h2⟩
    obtain ⟨v, hv, hr⟩ := results_run hrv h1 g' e'
    refine ⟨d', v, hv, v, rfl, ?_⟩
    rcases h2 with rfl | ⟨h3, h4, h5, h6⟩
    · exact ⟨M', ν', g', l', hr⟩
    · generalize σ'.length = m at *
      subst h4
      exact ⟨M', ν', g'.take h6, l'.take h3, hr.take h5⟩
  cases e with
  | normal => exact fin hk
  | exit id => exact hk.elim
  | ret => exact fin hk
end
end Go.Ab
