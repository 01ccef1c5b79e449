/- The further operations: each that has an abstract one is done as that one says. No condition. -/
import Derived.Test.YtoadgajhkhejiaaAbDone
import Derived.Test.YtoadgajhkhejiaaAbRun9
set_option linter.unusedSimpArgs false
namespace Go.Ab
open Go
def isU8 (P : Program) (e : TypeId) : Bool :=
  match P.underlying e with
  | some (.int .u8) => true
  | _ => false
theorem isU8_inv {P : Program} {e : TypeId} (h : isU8 P e = true) : P.underlying e = some (.int .u8) := by
  unfold isU8 at h; split at h <;> first | assumption | cases h
def zeroC : Operand → Bool
  | .const (.int _ 0) => true
  | _ => false
def nilC (P : Program) (t : TypeId) : Operand → Option Bool
  | .const (.pointer none) => match P.underlying t with
    | some (.pointer _) => some true
    | _ => none
  | .const (.slice none 0 0) => match P.underlying t with
    | some (.slice _) => some false
    | _ => none
  | _ => none
def mksOK (P : Program) (ag : Bool) (z : List AV) (en : TypeId × Nat) : Bool := (ag || en.2 == 1) && z.all AV.one && z.length == en.2 && appOK P en.1 en.2
def opAO2 (P : Program) (own : Bool) : Op → Option AO
  | .convert s d x => match P.underlying s, P.underlying d with
    | some .string, some (.slice e) => if isU8 P e then some (.s2b x) else none
    | some (.slice e), some .string => if isU8 P e then some (.b2s x) else none
    | some .string, some .string => some (.s2s x)
    | some (.slice e), some (.slice _) => if s = d ∧ isU8 P e = true then some (.strm x) else none
    | _, _ => none
  | .makeSlice t x y => (elemOf? P t).bind fun en => (agOf P en.1).bind fun ag => (zcOf P en.1).bind fun z => if mksOK P ag z en then some (.mks en.2 ag z x y) else none
  | .sliceToArrayPointer t x => match P.underlying t with
    | some (.array n _) => some (.arrp n x)
    | _ => none
  | .slice t x lo hi none => match P.underlying t with
    | some (.slice _) => if own then
        match lo, hi with
        | some l, none => (elemOf? P t).map fun en => .slcw en.2 x l
        | lo, hi => (elemOf? P t).map fun en => .slco en.2 x lo hi
      else none
    | some (.array n e) => if lo.isNone && hi.isNone && szOf P e == some 1 then some (.slca n x) else none
    | _ => none
  | .slice t x none (some hi) (some mx) => match P.underlying t with
    | some (.slice _) => if zeroC hi && zeroC mx then (elemOf? P t).map fun _ => .slc0 x else none
    | _ => none
  | .indexAddr t (.global g) i => match P.underlying t with
    | some (.array len e) => (szOf P e).map fun n => .giadr g n len i
    | _ => none
  | .binOp op t x y _ => match nilC P t y, op with
    | some p, .eql => some (.isnil false p x)
    | some p, .neq => some (.isnil true p x)
    | _, _ => none
  | .call { callee := .builtin .cap, args := ⟨[x]⟩, argTypes := ⟨[t]⟩ } => match P.underlying t with
    | some (.slice _) => some (.capn x)
    | _ => none
  | .call { callee := .builtin .clear, args := ⟨[x]⟩, argTypes := ⟨[t]⟩ } => (elemOf? P t).bind fun en => (agOf P en.1).bind fun ag => (zcOf P en.1).bind fun z => if mksOK P ag z en then some (.clr en.2 ag z x) else none
  | .call { callee := .builtin .min, args := ⟨[x, y]⟩, .. } => some (.mm false x y)
  | .call { callee := .builtin .max, args := ⟨[x, y]⟩, .. } => some (.mm true x y)
  | .call { callee := .builtin .copy, args := ⟨[x, y]⟩, argTypes := ⟨[t, _]⟩ } => match P.underlying t with
    | some (.slice e) => if szOf P e == some 1 then some (.copy x y) else none
    | _ => none
  | .call { callee := .builtin .append, args := ⟨[x, y]⟩, argTypes := ⟨[t, t2]⟩ } => match P.underlying t2 with
    | some (.int _) => (elemOf? P t).bind fun en => (agOf P en.1).bind fun ag => (zcOf P en.1).bind fun z => if mksOK P ag z en then some (.appz en.2 ag z x y) else none
    | _ => none
  | _ => none
section
variable {P : Program} {M M' : Nat → Prop} {σ σ' : St} {ν ν' : Nat → Value} {w w' : World} {R : Ref → Value → Prop}
theorem nilA_inv {a : AV} {v : Value} {p b : Bool} (h : nilA p a = some b) (hr : Rep M R w a v) :
    (p = true ∧ ∃ q : Option Addr, v = .pointer q ∧ q.isNone = b) ∨ (p = false ∧ ∃ q n c, v = .slice q n c ∧ q.isNone = b) := by
  unfold nilA at h
  split at h <;> simp at h <;> subst h
  · exact .inr ⟨rfl, _, _, _, hr.nils_inv, rfl⟩
  · obtain ⟨a, cap, e, _, hz | ⟨b, o, f, rfl, _⟩⟩ := hr.sl_inv
    · cases hz
    · exact .inr ⟨rfl, _, _, _, e, rfl⟩
  · obtain ⟨b, o, f, e, _⟩ := hr.rp_inv
    exact .inl ⟨rfl, _, e, rfl⟩
  · obtain ⟨b, o, e, _⟩ := hr.ptr_inv
    exact .inl ⟨rfl, _, e, rfl⟩
  · obtain ⟨b, o, e, _⟩ := hr.ep_inv
    exact .inl ⟨rfl, _, e, rfl⟩
  · exact .inl ⟨rfl, _, hr.pl_inv, rfl⟩
theorem nilA2_inv {a : AV} {v : Value} {p b : Bool} (g : Good M σ ν w) (h : nilA2 σ p a = some b) (hr : Rep M (RefOK σ ν) w a v) :
    (p = true ∧ ∃ q : Option Addr, v = .pointer q ∧ q.isNone = b) ∨ (p = false ∧ ∃ q n c, v = .slice q n c ∧ q.isNone = b) := by
  unfold nilA2 at h
  split at h
  · rename_i l n
    split at h
    · rename_i sz xs hs
      split at h
      · rename_i hc
        obtain ⟨rfl, rfl, h0⟩ := hc
        simp at h; subst h
        obtain ⟨a, len, cap, rfl, hR⟩ := hr.osl_inv
        have e := hR.s_row hs rfl
        rcases (g.ob l _ hs).row_inv with ⟨e3, rfl⟩ | ⟨b, o, cap2, c, el, fr, e3, _⟩
        · simp at h0
        · rw [e3] at e; simp at e; obtain ⟨rfl, rfl, rfl⟩ := e
          exact .inr ⟨rfl, _, _, _, rfl, rfl⟩
      · cases h
    · cases h
  · exact nilA_inv h hr
theorem gloA_inv : ∀ {σ : St} {k : Nat} {vs : List Value}, gloA σ k = some vs → ∃ l : Nat, σ[l]? = some (Ob.glo k vs)
  | [], _, _, h => by cases h
  | .glo g us :: s, k, vs, h => by
    simp only [gloA] at h
    split at h
    · rename_i e
      subst e
      simp at h; subst h
      exact ⟨0, rfl⟩
    · obtain ⟨l, hl⟩ := gloA_inv h
      exact ⟨l + 1, by simpa using hl⟩
  | .dead :: s, k, vs, h => by
    obtain ⟨l, hl⟩ := gloA_inv (σ := s) (by simpa [gloA] using h)
    exact ⟨l + 1, by simpa using hl⟩
  | .box _ :: s, k, vs, h => by
    obtain ⟨l, hl⟩ := gloA_inv (σ := s) (by simpa [gloA] using h)
    exact ⟨l + 1, by simpa using hl⟩
  | .row _ _ :: s, k, vs, h => by
    obtain ⟨l, hl⟩ := gloA_inv (σ := s) (by simpa [gloA] using h)
    exact ⟨l + 1, by simpa using hl⟩
theorem ObOK.glo_inv {g : Nat} {vs : List Value} {v : Value} (h : ObOK M R w (.glo g vs) v) : ∀ j u, vs[j]? = some u → ¬ M g ∧ w.cell? ⟨g, j, none⟩ = some u := by
  cases h; assumption
theorem isnil_run {neg : Bool} {op : BinOp} {t : TypeId} {x y : Operand} {u v : Value} {b : Bool} (hop : op = if neg then .neq else .eql)
    (h : (∃ e q, P.underlying t = some (.pointer e) ∧ u = .pointer q ∧ v = .pointer none ∧ q.isNone = b) ∨ (∃ e q n c, P.underlying t = some (.slice e) ∧ u = .slice q n c ∧ v = .slice none 0 0 ∧ q.isNone = b)) :
    (do eqGuard op t x y u v; binOp op t u v : Sem Value).run P w = .ok (.bool (neg ^^ b)) w := by
  have heq : (Op.equal t u v).run P w = .ok b w := by
    unfold Op.equal Op.maxDepth
    obtain ⟨d, hd⟩ : ∃ d : Nat, 10000 = d + 1 := ⟨9999, rfl⟩
    rw [hd]
    rcases h with ⟨e, q, hu, rfl, rfl, rfl⟩ | ⟨e, q, n, c, hu, rfl, rfl, rfl⟩ <;> cases q <;> simp [Op.equalIn, run_under hu]
  have hg : (eqGuard op t x y u v).run P w = .ok () w := by
    unfold eqGuard
    subst hop
    rcases h with ⟨e, q, hu, rfl, rfl, rfl⟩ | ⟨e, q, n, c, hu, rfl, rfl, rfl⟩ <;> cases neg <;> simp
  subst hop
  rcases h with ⟨e, q, hu, rfl, rfl, rfl⟩ | ⟨e, q, n, c, hu, rfl, rfl, rfl⟩ <;> cases neg <;> simp only [Bool.false_eq_true, if_false, if_true] at hg ⊢ <;> simp [hg, binOp, heq]
theorem mksOK_inv {ag : Bool} {z : List AV} {en : TypeId × Nat} (h : mksOK P ag z en = true) : (ag = false → en.2 = 1) ∧ z.all AV.one = true ∧ z.length = en.2 ∧ appOK P en.1 en.2 = true := by
  unfold mksOK at h
  simp only [Bool.and_eq_true, Bool.or_eq_true, beq_iff_eq] at h
  obtain ⟨⟨⟨h1, h2⟩, h3⟩, h4⟩ := h
  refine ⟨fun e => ?_, h2, h3, h4⟩
  rcases h1 with h1 | h1
  · rw [e] at h1; cases h1
  · exact h1
set_option maxHeartbeats 4000000 in
theorem op_done2 {own : Bool} {o : Oper} {ao : AO} {ρ : Operand → AV} {ρ' : Operand → Value} {r : AV} (h : opAO2 P own o.op = some ao) (hv : aop ρ σ ao = some (r, σ'))
    (g : Good M σ ν w) (hρ : PartsRep M (RefOK σ ν) w ρ ρ') (hc : ∀ v, ρ' (.const v) = v) (hcg : ∀ k, ρ' (.global k) = .pointer (some ⟨k, 0, none⟩)) : Done P (execOp ρ' o) M σ ν w r σ' := by
  have ofY : ∀ {s : Sem Value}, (execOp ρ' o).run P w = (do pure (.value (← s)) : Sem Next).run P w → Yields P s M σ ν w r σ' → Done P (execOp ρ' o) M σ ν w r σ' := by
    intro s e y
    obtain ⟨n, v, w', M', ν', q1, q2⟩ := y.done
    exact ⟨n, v, w', M', ν', by rw [e]; exact q1, q2⟩
  obtain ⟨dst, op, type, pos, after, guard⟩ := o
  simp only at h
  cases op with
  | convert s d x =>
    refine ofY (s := convert s d (ρ' x)) rfl ?_
    have hx := hρ x
    simp only [opAO2] at h
    split at h
    · rename_i e hs hd
      split at h
      · rename_i he
        simp at h; subst h
        simp only [aop] at hv
        split at hv
        · rename_i t ex
          simp at hv; obtain ⟨rfl, rfl⟩ := hv
          rw [ex] at hx
          rw [hx.pl_inv]
          exact s2b_yields t g hs hd (isU8_inv he)
        · cases hv
      · cases h
    · rename_i e hs hd
      split at h
      · rename_i he
        simp at h; subst h
        simp only [aop] at hv
        split at hv
        · cases hv
        · rename_i hstr
          split at hv
          · rename_i ys hys
            obtain ⟨ns, hns, hv⟩ := opt_map_some hv
            simp at hv; obtain ⟨rfl, rfl⟩ := hv
            refine .same g (b2s_same g hs hd (isU8_inv he) hys hns hx ?_) (.pl _)
            generalize ρ x = y at *
            cases y <;> simp [srcA, AV.isStr] at hys hstr
            · rename_i v
              cases v <;> simp [AV.isStr, srcA] at hys hstr
            · exact ⟨_, _, _, hx.nils_inv⟩
            · obtain ⟨a, cap, e, _⟩ := hx.sl_inv
              exact ⟨_, _, _, e⟩
            · obtain ⟨a, len, cap, e, _⟩ := hx.osl_inv
              exact ⟨_, _, _, e⟩
            · obtain ⟨a, e⟩ := hx.zsl_inv
              exact ⟨_, _, _, e⟩
          · cases hv
      · cases h
    · rename_i hs hd
      simp at h; subst h
      simp only [aop] at hv
      split at hv
      · rename_i t ex
        simp at hv; obtain ⟨rfl, rfl⟩ := hv
        rw [ex] at hx
        rw [hx.pl_inv]
        refine .same g (v := .string t) ?_ (.pl _)
        simp [convert, run_under hs, run_under hd]
      · cases hv
    · rename_i e e' hs hd
      split at h
      · rename_i hc2
        obtain ⟨rfl, he⟩ := hc2
        simp at h; subst h
        simp only [aop] at hv
        split at hv
        · rename_i l n ex
          split at hv
          · rename_i sz xs hsl
            split at hv
            · rename_i hc3
              obtain ⟨rfl, h0⟩ := hc3
              simp at hv; obtain ⟨rfl, rfl⟩ := hv
              rw [ex] at hx
              exact strm_yields g hs (isU8_inv he) hsl h0 hx
            · cases hv
          · cases hv
        · cases hv
      · cases h
    · cases h
  | makeSlice t x y =>
    refine ofY (s := Instr.makeSlice t (ρ' x) (ρ' y)) rfl ?_
    obtain ⟨⟨e, sz⟩, he, h⟩ := opt_bind_some h
    obtain ⟨ag, hag, h⟩ := opt_bind_some h
    obtain ⟨z, hz, h⟩ := opt_bind_some h
    split at h
    · rename_i hok
      simp at h; subst h
      obtain ⟨k1, k2, k3, k4⟩ := mksOK_inv hok
      simp only [aop] at hv
      split at hv
      · rename_i l c el ec
        split at hv
        · rename_i hcc
          obtain ⟨h0, h1, h2⟩ := hcc
          simp at hv; obtain ⟨rfl, rfl⟩ := hv
          obtain ⟨kl, el⟩ := intA_inv el (hρ x)
          obtain ⟨kc, ec⟩ := intA_inv ec (hρ y)
          rw [el, ec]
          have := make_yields (P := P) (t := t) (l := l.toNat) (c := c.toNat) (kl := kl) (kc := kc) g he hz k1 k2 k3 k4 (by omega) (by omega)
          rwa [Int.toNat_of_nonneg h0, Int.toNat_of_nonneg (by omega)] at this
        · cases hv
      · cases hv
    · cases h
  | sliceToArrayPointer t x =>
    refine ofY (s := Instr.arrayAt t (ρ' x)) rfl ?_
    simp only [opAO2] at h
    split at h
    · rename_i n e hu
      simp at h; subst h
      simp only [aop] at hv
      split at hv
      · rename_i sz xs ex
        split at hv
        · rename_i hcc
          obtain ⟨rfl, h0, h1, h2⟩ := hcc
          simp at hv; obtain ⟨rfl, rfl⟩ := hv
          have hx := hρ x
          rw [ex] at hx
          obtain ⟨a, cap, e2, _, hz | ⟨b, o, f, rfl, hcl, hr⟩⟩ := hx.sl_inv
          · subst hz; simp at h1; omega
          · have hrun : (Instr.arrayAt t (ρ' x)).run P w = .ok (.pointer (some ⟨b, o, none⟩)) w := by
              rw [e2]
              simp [Instr.arrayAt, run_under hu, Nat.not_lt.2 h1]
            refine .same g hrun (.rp _ b o (fun i => f i 0) (fun i hi => ?_) (fun i hi => ?_))
            · have hi2 : i < xs.length := by simp at hi; omega
              have hcells := AV.one_cells (List.all_eq_true.1 h2 _ (List.getElem_mem hi2))
              obtain ⟨_, q2, q3⟩ := hcl i 0 hi2 (by rw [hcells]; simp)
              exact ⟨q2, by simpa using q3⟩
            · have hi2 : i < xs.length := by simp at hi; omega
              have hcells := AV.one_cells (List.all_eq_true.1 h2 _ (List.getElem_mem hi2))
              have := hr i 0 hi2 (by rw [hcells]; simp)
              simp only [hcells, List.getElem_cons_zero] at this
              simpa using this
        · cases hv
      · cases hv
    · cases h
  | slice t x lo hi mx =>
    refine ofY (s := Instr.sliceAt t (ρ' x) (lo.map ρ') (hi.map ρ') (mx.map ρ')) rfl ?_
    have hx := hρ x
    cases mx with
    | none =>
      simp only [opAO2] at h
      split at h
      · rename_i e0 hu0
        have common : (elemOf? P t).map (fun en => AO.slco en.2 x lo hi) = some ao → Yields P (Instr.sliceAt t (ρ' x) (lo.map ρ') (hi.map ρ') (Option.map ρ' none)) M σ ν w r σ' := by
          intro h
          obtain ⟨⟨e, sz⟩, he, rfl⟩ := opt_map_some h
          obtain ⟨hu, hn, hpos⟩ := elemOf_inv he
          simp only [aop] at hv
          split at hv
          · rename_i ex
            split at hv
            · rename_i l h hl hh
              split at hv
              · rename_i hcc
                obtain ⟨rfl, rfl⟩ := hcc
                simp at hv; obtain ⟨rfl, rfl⟩ := hv
                rw [ex] at hx
                rw [hx.nils_inv]
                have hb := sliceBounds_run (P := P) (w := w) (isS := true) (len := 0) (cap := 0) (bound_opt hρ hl) (bound_opt hρ hh) (Int.le_refl _) (Int.le_refl _) (by simp) (Nat.le_refl _)
                refine .same g (v := .slice none 0 0) ?_ .nils
                simp only [Int.toNat_zero] at hb
                simp [Instr.sliceAt, Instr.slice, run_under hu, hb, run_size hn]
              · cases hv
            · cases hv
          · rename_i k n ex
            split at hv
            · rename_i sz' xs hs
              split at hv
              · rename_i l h hl hh
                split at hv
                · rename_i hcc
                  obtain ⟨rfl, rfl, h0, h1, h2⟩ := hcc
                  simp at hv; obtain ⟨rfl, rfl⟩ := hv
                  rw [ex] at hx
                  obtain ⟨a, len, cap, e2, hR⟩ := hx.osl_inv
                  have e1 := hR.s_row hs rfl
                  have hplen : ((xs.take h.toNat).drop l.toNat).length = h.toNat - l.toNat := by simp; omega
                  rcases (g.ob k _ hs).row_inv with ⟨e3, rfl⟩ | ⟨b, o, cap2, c, el, fr, e3, hM, hh2, hlen, hsz, hf, hrow⟩
                  · rw [e3] at e1; simp at e1; obtain ⟨rfl, rfl, rfl⟩ := e1
                    have hl0 : l = 0 := by simp at h2; omega
                    have hh0 : h = 0 := by simp at h2; omega
                    subst hl0; subst hh0
                    have hb := sliceBounds_run (P := P) (w := w) (isS := true) (len := 0) (cap := 0) (bound_opt hρ hl) (bound_opt hρ hh) (Int.le_refl _) (Int.le_refl _) (by simp) (Nat.le_refl _)
                    have hrun : (Instr.sliceAt t (ρ' x) (lo.map ρ') (hi.map ρ') (none.map ρ')).run P w = .ok (.slice none 0 0) w := by
                      rw [e2]
                      simp only [Int.toNat_zero] at hb
                      simp [Instr.sliceAt, Instr.slice, run_under hu, hb, run_size hn]
                    obtain ⟨ν', g', l', hn'⟩ := g.cut (ys := []) (v := .slice none 0 0) hs (by simp [blk]) (fun σ' ν' _ => .row0 _)
                    refine ⟨_, _, M, ν', hrun, by simpa using g', by simpa using l', ?_⟩
                    refine .osl _ _ _ _ _ ?_
                    simp [RefOK, hn']
                  · rw [e3] at e1; simp at e1; obtain ⟨rfl, rfl, rfl⟩ := e1
                    have hb := sliceBounds_run (P := P) (w := w) (isS := true) (len := xs.length) (cap := cap) (bound_opt hρ hl) (bound_opt hρ hh) h0 h1 h2 hlen
                    have hlc : l.toNat ≤ cap := by omega
                    have hmul : cap * sz = l.toNat * sz + (cap - l.toNat) * sz := by rw [← Nat.add_mul]; congr 1; omega
                    have hrun : ∃ o', (Instr.sliceAt t (ρ' x) (lo.map ρ') (hi.map ρ') (none.map ρ')).run P w = .ok (.slice (some ⟨b, o', none⟩) (h.toNat - l.toNat) (cap - l.toNat)) w ∧
                        (o' = o + l.toNat * sz ∨ (cap = l.toNat ∧ o' = o)) := by
                      rw [e2]
                      by_cases hcl : cap = l.toNat
                      · refine ⟨o, ?_, .inr ⟨hcl, rfl⟩⟩
                        simp only [hcl] at hb ⊢
                        simp [Instr.sliceAt, Instr.slice, run_under hu, hb, run_size hn]
                      · refine ⟨o + l.toNat * sz, ?_, .inl rfl⟩
                        simp [Instr.sliceAt, Instr.slice, run_under hu, hb, run_size hn, hcl, add_flat]
                    obtain ⟨o', hrun, ho'⟩ := hrun
                    obtain ⟨ν', g', l', hn'⟩ := g.cut (ys := (xs.take h.toNat).drop l.toNat) (v := .slice (some ⟨b, o', none⟩) (h.toNat - l.toNat) (cap - l.toNat)) hs (by rw [e3]; simp [blk])
                      (fun σ' ν' evo => by
                        refine ObOK.row' _ hplen.symm hM hh2 (by omega) ?_ (fun j hj => ?_) (fun i j hi2 hj => ?_)
                        · rcases ho' with rfl | ⟨hcl, rfl⟩
                          · omega
                          · rw [hcl] at hsz ⊢; simp; omega
                        · rcases ho' with rfl | ⟨hcl, rfl⟩
                          · rw [Nat.add_assoc]; exact hf _ (by omega)
                          · rw [hcl] at hj; simp at hj
                        · have hi3 : l.toNat + i < xs.length := by omega
                          have hget : ((xs.take h.toNat).drop l.toNat)[i] = xs[l.toNat + i] := by simp
                          simp only [hget] at hj ⊢
                          obtain ⟨q1, q2⟩ := hrow (l.toNat + i) j hi3 hj
                          refine ⟨q1, fun v hv => (q2 v ?_).mono (fun b _ hm => ⟨hm, rfl⟩) evo⟩
                          rcases ho' with rfl | ⟨hcl, rfl⟩
                          · rw [← hv, Nat.add_mul]; congr 1; omega
                          · omega)
                    refine ⟨_, _, M, ν', hrun, g', l', ?_⟩
                    rw [← hplen]
                    refine .osl _ _ _ _ _ ?_
                    have : (σ.set k .dead ++ [Ob.row sz ((xs.take h.toNat).drop l.toNat)])[σ.length]? = some (.row sz ((xs.take h.toNat).drop l.toNat)) := by
                      rw [List.getElem?_append_right (by simp)]; simp
                    simp only [RefOK, this]
                    refine ⟨Nat.le_refl _, fun _ => ?_⟩
                    rw [hn', hplen]
                · cases hv
              · cases hv
            · cases hv
          · cases hv
        split at h
        · cases lo with
          | none => exact common h
          | some lo0 =>
            cases hi with
            | some hi0 => exact common h
            | none =>
                obtain ⟨⟨e, sz⟩, he, rfl⟩ := opt_map_some h
                obtain ⟨hu, hn, hpos⟩ := elemOf_inv he
                simp only [aop] at hv
                split at hv
                · rename_i l n i ex hi
                  split at hv
                  · rename_i sz' xs hs
                    split at hv
                    · rename_i hcc
                      obtain ⟨rfl, rfl, h0, h1⟩ := hcc
                      simp at hv; obtain ⟨rfl, rfl⟩ := hv
                      rw [ex] at hx
                      obtain ⟨a, len, cap, e2, hR⟩ := hx.osl_inv
                      have e1 := hR.s_row hs rfl
                      obtain ⟨ki, eki⟩ := intA_inv hi (hρ lo0)
                      rcases (g.ob l _ hs).row_inv with ⟨e3, rfl⟩ | ⟨b, o, cap2, c, el, fr, e3, hM, hh2, hlen, hsz, hf, hrow⟩
                      · simp at h1; omega
                      · have hR' := hR
                        rw [e3] at e1; simp at e1; obtain ⟨rfl, rfl, rfl⟩ := e1
                        have hb := sliceBounds_run (P := P) (w := w) (isS := true) (len := xs.length) (cap := cap) (lo := some (ρ' lo0)) (hi := none) (l := i) (h := xs.length) (.inr ⟨ki, by rw [eki]⟩) (.inl ⟨rfl, rfl⟩) h0 (by omega) (Int.le_refl _) hlen
                        have hcl : ¬ cap = i.toNat := by omega
                        have hrun : (Instr.sliceAt t (ρ' x) (Option.map ρ' (some lo0)) (Option.map ρ' none) (Option.map ρ' none)).run P w = .ok (.slice (some ⟨b, o + i.toNat * sz, none⟩) (xs.length - i.toNat) (cap - i.toNat)) w := by
                          rw [e2]
                          simp only [Int.toNat_natCast] at hb
                          simp [Instr.sliceAt, Instr.slice, run_under hu, hb, run_size hn, hcl, add_flat]
                        exact .same g hrun (.win sz l xs.length i.toNat b o cap (by omega) hR')
                    · cases hv
                  · cases hv
                · cases hv
        · cases h
      · rename_i n e hu
        split at h
        · rename_i hcc
          simp only [Bool.and_eq_true, Option.isNone_iff_eq_none, beq_iff_eq] at hcc
          obtain ⟨⟨rfl, rfl⟩, hsz⟩ := hcc
          simp at h; subst h
          simp only [aop] at hv
          have hrun : ∀ b o, ρ' x = .pointer (some ⟨b, o, none⟩) → (Instr.sliceAt t (ρ' x) (Option.map ρ' none) (Option.map ρ' none) (Option.map ρ' none)).run P w = .ok (.slice (some ⟨b, o, none⟩) n n) w := by
            intro b o e
            rw [e]
            by_cases hn : n = 0
            · simp [Instr.sliceAt, run_under hu, Instr.sureAddr, Instr.sliceBounds, run_size hsz, hn]
            · simp [Instr.sliceAt, run_under hu, Instr.sureAddr, Instr.sliceBounds, run_size hsz, hn, add_flat]
          split at hv
          · rename_i cs ex
            split at hv
            · rename_i hc2
              simp at hv; obtain ⟨rfl, rfl⟩ := hv
              rw [ex] at hx
              obtain ⟨b, o, _, e2, _⟩ := hx.rp_inv
              have hx2 := hx
              rw [e2] at hx2
              exact .same g (hrun b o e2) (slca_rep hx2 hc2.1 hc2.2)
            · cases hv
          · rename_i l off ex
            simp at hv; obtain ⟨rfl, rfl⟩ := hv
            rw [ex] at hx
            obtain ⟨b, o, e2, hR⟩ := hx.ptr_inv
            exact .same g (hrun b _ e2) (.psl _ _ _ _ _ hR)
          · cases hv
        · cases h
      · cases h
    | some m =>
      cases lo with
      | some lo => simp [opAO2] at h
      | none =>
        cases hi with
        | none => simp [opAO2] at h
        | some hi =>
          simp only [opAO2] at h
          split at h
          · rename_i e0 hu0
            split at h
            · rename_i hzz
              obtain ⟨⟨e, sz⟩, he, rfl⟩ := opt_map_some h
              obtain ⟨hu, hn, hpos⟩ := elemOf_inv he
              have hz0 : ∀ y : Operand, zeroC y = true → ∃ k, ρ' y = .int k 0 := by
                intro y hy
                unfold zeroC at hy
                split at hy
                · exact ⟨_, hc _⟩
                · cases hy
              simp only [Bool.and_eq_true] at hzz
              obtain ⟨k1, e1⟩ := hz0 _ hzz.1
              obtain ⟨k2, e2⟩ := hz0 _ hzz.2
              have hrun : ∀ a len cap, ρ' x = .slice a len cap → (Instr.sliceAt t (ρ' x) (Option.map ρ' none) (Option.map ρ' (some hi)) (Option.map ρ' (some m))).run P w = .ok (.slice a 0 0) w := by
                intro a len cap e
                rw [e]
                simp [Instr.sliceAt, Instr.slice, run_under hu, Instr.sliceBounds, e1, e2, sliceBound_run rfl (Int.le_refl 0) (Int.natCast_nonneg _), run_size hn]
              simp only [aop] at hv
              split at hv
              · rename_i ex
                simp at hv; obtain ⟨rfl, rfl⟩ := hv
                rw [ex] at hx
                exact .same g (hrun _ _ _ hx.nils_inv) .nils
              · rename_i ex
                simp at hv; obtain ⟨rfl, rfl⟩ := hv
                rw [ex] at hx
                obtain ⟨a, e⟩ := hx.zsl_inv
                exact .same g (hrun _ _ _ e) (.zsl a)
              · rename_i sz' xs ex
                simp at hv; obtain ⟨rfl, rfl⟩ := hv
                rw [ex] at hx
                obtain ⟨a, cap, e, _⟩ := hx.sl_inv
                exact .same g (hrun _ _ _ e) (.zsl a)
              · rename_i l n ex
                simp at hv; obtain ⟨rfl, rfl⟩ := hv
                rw [ex] at hx
                obtain ⟨a, len, cap, e, _⟩ := hx.osl_inv
                exact .same g (hrun _ _ _ e) (.zsl a)
              · cases hv
            · cases h
          · cases h
  | indexAddr t x i =>
    cases x with
    | global gl =>
      refine ofY (s := Instr.indexAt t (ρ' (.global gl)) (ρ' i)) rfl ?_
      simp only [opAO2] at h
      split at h
      · rename_i len e hu
        obtain ⟨n, hn, rfl⟩ := opt_map_some h
        simp only [aop] at hv
        split at hv
        · rename_i vs k hgl hei
          obtain ⟨ik, ei⟩ := intA_inv hei (hρ i)
          split at hv
          · rename_i hcc
            simp at hv; obtain ⟨rfl, rfl⟩ := hv
            obtain ⟨l, hl⟩ := gloA_inv hgl
            have hob := (g.ob l _ hl).glo_inv
            rw [hcg, ei]
            refine .same g (indexArr_run (o := 0) hu hn hcc.1 hcc.2) (.rp _ gl _ (fun j => (vs[k.toNat * n + j]?).getD undef) (fun j hj => ?_) (fun j hj => ?_))
            · simp only [List.length_map, List.length_drop] at hj
              have hlt : k.toNat * n + j < vs.length := by omega
              have := hob (k.toNat * n + j) vs[k.toNat * n + j] (List.getElem?_eq_getElem hlt)
              rw [List.getElem?_eq_getElem hlt, Nat.zero_add]
              exact this
            · simp only [List.length_map, List.length_drop] at hj
              have hlt : k.toNat * n + j < vs.length := by omega
              simp only [List.getElem_map, List.getElem_drop, List.getElem?_eq_getElem hlt, Option.getD_some]
              exact .pl _
          · cases hv
        · cases hv
      · cases h
    | _ => simp [opAO2] at h
  | binOp op t x y yt =>
    refine ofY (s := do eqGuard op t x y (ρ' x) (ρ' y); binOp op t (ρ' x) (ρ' y)) rfl ?_
    simp only [opAO2] at h
    have main : ∀ neg p, nilC P t y = some p → ao = .isnil neg p x → op = (if neg then .neq else .eql) → Yields P (do eqGuard op t x y (ρ' x) (ρ' y); binOp op t (ρ' x) (ρ' y)) M σ ν w r σ' := by
      rintro neg p hp rfl hop
      simp only [aop] at hv
      obtain ⟨b, hb, hv⟩ := opt_map_some hv
      simp only [Prod.mk.injEq] at hv
      obtain ⟨rfl, rfl⟩ := hv
      refine .same g (isnil_run hop ?_) (.pl _)
      have hx := nilA2_inv g hb (hρ x)
      unfold nilC at hp
      split at hp
      · split at hp
        · rename_i e hu
          simp at hp; subst hp
          rcases hx with ⟨_, q, e1, e2⟩ | ⟨h0, _⟩
          · exact .inl ⟨e, q, hu, e1, hc _, e2⟩
          · cases h0
        · cases hp
      · split at hp
        · rename_i e hu
          simp at hp; subst hp
          rcases hx with ⟨h0, _⟩ | ⟨_, q, n, c, e1, e2⟩
          · cases h0
          · exact .inr ⟨e, q, n, c, hu, e1, hc _, e2⟩
        · cases hp
      · cases hp
    split at h
    · rename_i p hp
      simp at h
      exact main false p hp h.symm rfl
    · rename_i p hp
      simp at h
      exact main true p hp h.symm rfl
    · cases h
  | call c =>
    obtain ⟨callee, args, tys⟩ := c
    cases callee with
    | value f => simp [opAO2] at h
    | invoke r m => simp [opAO2] at h
    | builtin b =>
      unfold opAO2 at h
      split at h <;> (rename_i heq; simp only [Op.call.injEq, Call.mk.injEq, Callee.builtin.injEq, reduceCtorEq] at heq) <;> try cases h
      · rename_i x t
        obtain ⟨rfl, rfl, rfl⟩ := heq
        have hx := hρ x
        refine ofY (s := Builtin.cap_ #[t] type #[ρ' x]) (by simp [execOp, resolve, invoke, builtin]) ?_
        split at h
        · rename_i e hu
          simp at h; subst h
          simp only [aop] at hv
          split at hv
          · rename_i ex
            simp at hv; obtain ⟨rfl, rfl⟩ := hv
            rw [ex] at hx
            rw [hx.nils_inv]
            refine .same g (v := .int .i64 0) ?_ (.pl _)
            simp [Builtin.cap_, run_under hu, goInt]
          · cases hv
        · cases h
      · rename_i x t
        obtain ⟨rfl, rfl, rfl⟩ := heq
        have hx := hρ x
        refine ofY (s := Builtin.clear_ #[t] type #[ρ' x]) (by simp [execOp, resolve, invoke, builtin]) ?_
        obtain ⟨⟨e, sz⟩, he, h⟩ := opt_bind_some h
        obtain ⟨ag, hag, h⟩ := opt_bind_some h
        obtain ⟨z, hz, h⟩ := opt_bind_some h
        split at h
        · rename_i hok
          simp at h; subst h
          obtain ⟨k1, k3, k4, k5⟩ := mksOK_inv hok
          simp only [aop] at hv
          split at hv
          · rename_i sz' l n lo ex
            split at hv
            · rename_i sz'' xs hs
              split at hv
              · rename_i hcc
                obtain ⟨rfl, rfl, rfl, hlo⟩ := hcc
                simp only [Option.some.injEq, Prod.mk.injEq] at hv
                obtain ⟨rfl, rfl⟩ := hv
                rw [ex] at hx
                exact clear_row_yields g he hz k1 k3 k4 hs hlo hx
              · cases hv
            · cases hv
          · cases hv
        · cases h
      · rename_i x y tq
        obtain ⟨rfl, rfl, _⟩ := heq
        simp only [aop] at hv
        split at hv
        · rename_i k a k' b ex ey
          split at hv
          · rename_i hk
            subst hk
            simp at hv; obtain ⟨rfl, rfl⟩ := hv
            have hx := hρ x; have hy := hρ y
            rw [ex] at hx; rw [ey] at hy
            have e1 := hx.pl_inv; have e2 := hy.pl_inv
            refine ofY (s := Builtin.min_ tys type #[ρ' x, ρ' y]) (by simp [execOp, resolve, invoke, builtin]) (.same g ?_ (.pl _))
            rw [e1, e2]
            simp [Builtin.min_, Builtin.min2]
          · cases hv
        · cases hv
      · rename_i x y tq
        obtain ⟨rfl, rfl, _⟩ := heq
        simp only [aop] at hv
        split at hv
        · rename_i k a k' b ex ey
          split at hv
          · rename_i hk
            subst hk
            simp at hv; obtain ⟨rfl, rfl⟩ := hv
            have hx := hρ x; have hy := hρ y
            rw [ex] at hx; rw [ey] at hy
            have e1 := hx.pl_inv; have e2 := hy.pl_inv
            refine ofY (s := Builtin.max_ tys type #[ρ' x, ρ' y]) (by simp [execOp, resolve, invoke, builtin]) (.same g ?_ (.pl _))
            rw [e1, e2]
            simp [Builtin.max_, Builtin.max2]
          · cases hv
        · cases hv
      · rename_i x y t t2
        obtain ⟨rfl, rfl, rfl⟩ := heq
        have hx := hρ x
        refine ofY (s := Builtin.copy_ #[t, t2] type #[ρ' x, ρ' y]) (by simp [execOp, resolve, invoke, builtin]) ?_
        split at h
        · rename_i e hu
          split at h
          · rename_i hsz
            simp only [beq_iff_eq] at hsz
            simp at h; subst h
            simp only [aop] at hv
            split at hv
            · rename_i ys hys
              have hS := srcA_ok (P := P) g hys (hρ y)
              split at hv
              · rename_i l n ex
                split at hv
                · rename_i sz xs hs
                  split at hv
                  · rename_i hcc
                    obtain ⟨rfl, rfl⟩ := hcc
                    simp only [Option.some.injEq, Prod.mk.injEq] at hv
                    obtain ⟨rfl, rfl⟩ := hv
                    rw [ex] at hx
                    exact copy_row_yields g hu hsz hS hs hx
                  · cases hv
                · cases hv
              · rename_i l off n ex
                split at hv
                · rename_i cs hs
                  split at hv
                  · rename_i hcc
                    simp only [Option.some.injEq, Prod.mk.injEq] at hv
                    obtain ⟨rfl, rfl⟩ := hv
                    rw [ex] at hx
                    exact copy_box_yields g hu hsz hS hs hx hcc.1 hcc.2
                  · cases hv
                · cases hv
              · cases hv
            · cases hv
          · cases h
        · cases h
      · rename_i x y t t2
        obtain ⟨rfl, rfl, rfl⟩ := heq
        have hx := hρ x
        refine ofY (s := Builtin.append_ #[t, t2] type #[ρ' x, ρ' y]) (by simp [execOp, resolve, invoke, builtin]) ?_
        split at h
        · rename_i k2 hu2
          obtain ⟨⟨e, sz⟩, he, h⟩ := opt_bind_some h
          obtain ⟨ag, hag, h⟩ := opt_bind_some h
          obtain ⟨z, hz, h⟩ := opt_bind_some h
          split at h
          · rename_i hok
            simp at h; subst h
            obtain ⟨k1, k3, k4, k5⟩ := mksOK_inv hok
            simp only [aop] at hv
            split at hv
            · rename_i n ex en
              rw [ex] at hx
              obtain ⟨ky, ey⟩ := intA_inv en (hρ y)
              rw [hx.nils_inv, ey]
              split at hv
              · rename_i hn0
                subst hn0
                simp at hv; obtain ⟨rfl, rfl⟩ := hv
                obtain ⟨hu, hsz, hpos⟩ := elemOf_inv he
                refine .same g (v := .slice none 0 0) ?_ .nils
                have hw : IntKind.i64.wrap 0 = 0 := by rw [IntKind.wrap_i64]; omega
                obtain ⟨i, hi⟩ : ∃ i, P.info? e = some i := by
                  unfold appOK at k5
                  split at k5
                  · exact ⟨_, by assumption⟩
                  · cases k5
                simp [Builtin.append_, run_under hu, run_size hsz, run_under hu2, asInt, asIntOf, hw, run_info hi, Builtin.firstCells]
              · split at hv
                · rename_i hn0 hn1
                  simp at hv; obtain ⟨rfl, rfl⟩ := hv
                  have := appz_yields (P := P) (t := t) (t2 := t2) (ty := type) (n := n.toNat) (k := ky) g he hz k1 k3 k4 k5 hu2 (by omega) (by omega)
                  rwa [Int.toNat_of_nonneg (by omega)] at this
                · cases hv
            · cases hv
          · cases h
        · cases h
  | _ => simp [opAO2] at h
def opAOx (P : Program) (own : Bool) (op : Op) : Option AO :=
  match opAO2 P own op with
  | some a => some a
  | none => opAO P own op
theorem op_donex {own : Bool} {o : Oper} {ao : AO} {ρ : Operand → AV} {ρ' : Operand → Value} {r : AV} (h : opAOx P own o.op = some ao) (hv : aop ρ σ ao = some (r, σ'))
    (g : Good M σ ν w) (hρ : PartsRep M (RefOK σ ν) w ρ ρ') (hc : ∀ v, ρ' (.const v) = v) (hcg : ∀ k, ρ' (.global k) = .pointer (some ⟨k, 0, none⟩)) : Done P (execOp ρ' o) M σ ν w r σ' := by
  unfold opAOx at h
  split at h
  · rename_i a ha
    simp at h; subst h
    exact op_done2 ha hv g hρ hc hcg
  · exact op_done h hv g hρ
end
end Go.Ab
