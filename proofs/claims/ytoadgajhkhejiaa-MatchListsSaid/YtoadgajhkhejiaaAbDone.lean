/- Every operation that has an abstract one is done as that one says. No condition. -/
import Derived.Test.YtoadgajhkhejiaaAbComp
namespace Go.Ab
open Go
section
variable {P : Program} {M M' : Nat → Prop} {σ σ' : St} {ν ν' : Nat → Value} {w w' : World} {R : Ref → Value → Prop}
theorem sliceBound_run {v : Value} {k : IntKind} {n : Int} {y : Nat} {code : BoundsCode} (h : v = .int k n) (h0 : 0 ≤ n) (h1 : n ≤ y) : (Instr.sliceBound v y code).run P w = .ok n.toNat w := by
  subst h
  simp [Instr.sliceBound, asIntOf, h0, h1]
theorem sliceBounds_run {isS : Bool} {len cap : Nat} {lo hi : Option Value} {l h : Int} (hl : (lo = none ∧ l = 0) ∨ ∃ k, lo = some (.int k l)) (hh : (hi = none ∧ h = len) ∨ ∃ k, hi = some (.int k h))
    (h0 : 0 ≤ l) (h1 : l ≤ h) (h2 : h ≤ len) (h3 : len ≤ cap) : (Instr.sliceBounds isS len cap lo hi none).run P w = .ok (l.toNat, h.toNat, cap) w := by
  have e : (h.toNat : Int) = h := by omega
  rcases hl with ⟨rfl, rfl⟩ | ⟨k, rfl⟩ <;> rcases hh with ⟨rfl, rfl⟩ | ⟨k', rfl⟩
  · simp [Instr.sliceBounds]
  · simp [Instr.sliceBounds, sliceBound_run rfl (by omega : 0 ≤ h) (by omega : h ≤ cap)]
  · simp [Instr.sliceBounds, sliceBound_run rfl h0 h1]
  · simp [Instr.sliceBounds, sliceBound_run rfl (by omega : 0 ≤ h) (by omega : h ≤ cap), sliceBound_run rfl h0 (by omega : l ≤ (h.toNat : Nat))]
theorem bound_opt {ρ : Operand → AV} {ρ' : Operand → Value} (hρ : PartsRep M R w ρ ρ') {lo : Option Operand} {d l : Int} (h : (lo.map fun o => intA (ρ o)).getD (some d) = some l) :
    ((lo.map ρ' = none ∧ l = d) ∨ ∃ k, lo.map ρ' = some (.int k l)) := by
  cases lo with
  | none => simp at h; exact .inl ⟨rfl, h.symm⟩
  | some o =>
    simp at h
    obtain ⟨k, hk⟩ := intA_inv h (hρ o)
    exact .inr ⟨k, by simp [hk]⟩
set_option maxHeartbeats 4000000 in
theorem op_done {own : Bool} {o : Oper} {ao : AO} {ρ : Operand → AV} {ρ' : Operand → Value} {r : AV} (h : opAO P own o.op = some ao) (hv : aop ρ σ ao = some (r, σ'))
    (g : Good M σ ν w) (hρ : PartsRep M (RefOK σ ν) w ρ ρ') : Done P (execOp ρ' o) M σ ν w r σ' := by
  have pure1 : ∀ {x : Operand} , execOp ρ' o = pure (.value (ρ' x)) → r = ρ x → σ' = σ → Done P (execOp ρ' o) M σ ν w r σ' := by
    intro x e e1 e2
    subst e1; subst e2
    rw [e]
    exact ⟨_, ρ' x, w, M, ν, rfl, .inl rfl, g, .refl, hρ x⟩
  have ofY : ∀ {s : Sem Value}, (execOp ρ' o).run P w = (do pure (.value (← s)) : Sem Next).run P w → Yields P s M σ ν w r σ' → Done P (execOp ρ' o) M σ ν w r σ' := by
    intro s e y
    obtain ⟨n, v, w', M', ν', q1, q2⟩ := y.done
    exact ⟨n, v, w', M', ν', by rw [e]; exact q1, q2⟩
  obtain ⟨dst, op, type, pos, after, guard⟩ := o
  simp only at h
  cases op with
  | move x => simp [opAO] at h; subst h; simp [aop] at hv; exact pure1 rfl hv.1.symm hv.2.symm
  | assign x => simp [opAO] at h; subst h; simp [aop] at hv; exact pure1 rfl hv.1.symm hv.2.symm
  | pick c a b =>
    simp [opAO] at h; subst h
    simp only [aop] at hv
    split at hv
    · rename_i t ht
      simp at hv; obtain ⟨rfl, rfl⟩ := hv
      have e := boolA_inv ht (hρ c)
      refine ⟨.value (if t then ρ' a else ρ' b), _, w, M, ν, ?_, .inl rfl, g, .refl, ?_⟩
      · simp [execOp, e, asBool]
      · cases t
        · exact hρ b
        · exact hρ a
    · cases hv
  | alloc t =>
    obtain ⟨z, hz, rfl⟩ := opt_map_some h
    simp [aop] at hv; obtain ⟨rfl, rfl⟩ := hv
    refine ofY (s := Instr.alloc t true (.tuple #[])) rfl ?_
    obtain ⟨v, hvz, hr⟩ := zc_reps hz
    obtain ⟨M', ν', g', l', r'⟩ := g.newBox z t v.cells (hr _ _ _)
    refine ⟨_, _, M', ν', ?_, g', l', r'⟩
    simp [Instr.alloc, hvz, newVar, newRow]
  | box t x =>
    simp [opAO] at h
    refine ofY (s := Instr.box t (ρ' x)) rfl ?_
    cases own with
    | false =>
      simp at h; subst h
      simp only [aop] at hv
      split at hv
      · rename_i ho
        simp at hv; obtain ⟨rfl, rfl⟩ := hv
        exact boxr_yields g (hρ x) ho
      · cases hv
    | true =>
      simp at h; subst h
      simp only [aop] at hv
      split at hv
      · rename_i ho
        simp at hv; obtain ⟨rfl, rfl⟩ := hv
        obtain ⟨M', ν', g', l', r'⟩ := g.newBox (ρ x).cells t (ρ' x).cells ((hρ x).okc_cells ho)
        exact ⟨_, _, M', ν', box_run, g', l', r'⟩
      · cases hv
  | build t ps =>
    simp only [opAO] at h
    split at h
    · rename_i fs hu
      split at h
      · rename_i hf
        obtain ⟨z, hz, h⟩ := opt_bind_some h
        obtain ⟨qs, hq, rfl⟩ := opt_map_some h
        simp only [aop] at hv
        obtain ⟨cs, hcs, hv⟩ := opt_map_some hv
        simp at hv; obtain ⟨rfl, rfl⟩ := hv
        refine ofY (s := Instr.build t (ps.map fun (i, x) => (i, ρ' x))) rfl ?_
        exact build_struct g hu (fun f hm => List.all_eq_true.1 hf f hm) hz (allSome_map hq) hρ hcs
      · cases h
    · rename_i len e hu
      obtain ⟨sz, hsz, h⟩ := opt_bind_some h
      obtain ⟨z, hz, rfl⟩ := opt_map_some h
      simp only [aop] at hv
      obtain ⟨cs, hcs, hv⟩ := opt_map_some hv
      simp at hv; obtain ⟨rfl, rfl⟩ := hv
      refine ofY (s := Instr.build t (ps.map fun (i, x) => (i, ρ' x))) rfl ?_
      exact build_array g hu hsz hz hρ hcs
    · cases h
  | buildSlice t len ps =>
    simp only [opAO] at h
    obtain ⟨⟨e, sz⟩, he, h⟩ := opt_bind_some h
    obtain ⟨ag, hag, h⟩ := opt_bind_some h
    obtain ⟨z, hz, h⟩ := opt_bind_some h
    split at h
    · rename_i hc
      simp at h; subst h
      simp only [Bool.and_eq_true, Bool.or_eq_true, beq_iff_eq, decide_eq_true_eq] at hc
      obtain ⟨⟨⟨hc1, hc2⟩, hc3⟩, hc4⟩ := hc
      simp only [aop] at hv
      obtain ⟨cs, hcs, hv⟩ := opt_map_some hv
      refine ofY (s := Instr.buildSlice t len (ps.map fun (i, x) => (i, ρ' x))) rfl ?_
      have := bsl_yields (own := own) g he hz (ag := ag) (fun h0 => by rcases hc1 with h | h; (· rw [h0] at h; cases h); (· exact h)) hc2 hc3 hc4 hρ hcs
      cases own <;> simp at hv this <;> (obtain ⟨rfl, rfl⟩ := hv; exact this)
    · cases h
  | load t x =>
    simp only [opAO] at h
    obtain ⟨n, hn, h⟩ := opt_bind_some h
    obtain ⟨ag, hag, rfl⟩ := opt_map_some h
    refine ofY (s := Instr.loadAt t (ρ' x)) rfl ?_
    simp only [aop] at hv
    obtain ⟨q, hq, hv⟩ := opt_map_some hv
    simp at hv; obtain ⟨rfl, rfl⟩ := hv
    exact (load_same g hn hag (hρ x) hq).yields g
  | store t a x =>
    simp only [opAO] at h
    obtain ⟨n, hn, rfl⟩ := opt_map_some h
    simp only [aop] at hv
    have fin : ∀ {σ2 : St}, (∃ w', (Instr.storeAt t (ρ' a) (ρ' x)).run P w = .ok () w' ∧ Good M σ2 ν w' ∧ Later M σ ν w M σ2 ν w') → σ' = σ2 → r = .any → Done P (execOp ρ' { dst, op := .store t a x, type, pos, after, guard }) M σ ν w r σ' := by
      rintro σ2 ⟨w', h1, h2, h3⟩ rfl rfl
      exact ⟨.skip, undef, w', M, ν, by simp [execOp, h1], .inr ⟨rfl, rfl⟩, h2, h3, .any _⟩
    split at hv
    · rename_i hc
      obtain ⟨ho, hl⟩ := hc
      split at hv
      · rename_i l off ha
        split at hv
        · rename_i cs hs
          split at hv
          · rename_i hb
            simp at hv; obtain ⟨rfl, rfl⟩ := hv
            exact fin (storeBox g hn hs (by rw [← ha]; exact hρ a) (hρ x) ho hl hb) rfl rfl
          · cases hv
        · cases hv
      · rename_i l m i off ha
        split at hv
        · rename_i sz xs hs
          split at hv
          · rename_i hm
            split at hv
            · rename_i e hi
              obtain ⟨e', he, hv⟩ := opt_map_some hv
              simp at hv; obtain ⟨rfl, rfl⟩ := hv
              exact fin (storeElem g hn hs hm hi he (by rw [← ha]; exact hρ a) (hρ x) ho hl) rfl rfl
            · cases hv
          · cases hv
        · cases hv
      · cases hv
    · cases hv
  | nilCheck x =>
    simp [opAO] at h; subst h
    simp only [aop] at hv
    have fin : ∀ (a : Addr), ρ' x = .pointer (some a) → r = ρ x → σ' = σ → Done P (execOp ρ' { dst, op := .nilCheck x, type, pos, after, guard }) M σ ν w r σ' := by
      rintro a ha rfl rfl
      exact ⟨.value (ρ' x), ρ' x, w, M, ν, by simp [execOp, ha], .inl rfl, g, .refl, hρ x⟩
    have hx := hρ x
    split at hv
    · rename_i cs e
      rw [e] at hx
      obtain ⟨b, o, f, e2, _⟩ := hx.rp_inv
      simp at hv; obtain ⟨rfl, rfl⟩ := hv
      exact fin _ e2 e.symm rfl
    · rename_i l off e
      rw [e] at hx
      obtain ⟨b, o, e2, _⟩ := hx.ptr_inv
      simp at hv; obtain ⟨rfl, rfl⟩ := hv
      exact fin _ e2 e.symm rfl
    · rename_i l m i off e
      rw [e] at hx
      obtain ⟨b, o, e2, _⟩ := hx.ep_inv
      simp at hv; obtain ⟨rfl, rfl⟩ := hv
      exact fin _ e2 e.symm rfl
    · cases hv
  | binOp op t x y yt =>
    refine ofY (s := do eqGuard op t x y (ρ' x) (ρ' y); binOp op t (ρ' x) (ρ' y)) rfl ?_
    have plain : ∀ bl, ao = .bin bl op x y → (bl = true → P.underlying t = some .bool) → Yields P (do eqGuard op t x y (ρ' x) (ρ' y); binOp op t (ρ' x) (ρ' y)) M σ ν w r σ' := by
      rintro bl rfl hbl
      simp only [aop] at hv
      split at hv
      · rename_i u v hxu hyv
        split at hv
        · rename_i hb
          obtain ⟨q, hq, hv⟩ := opt_map_some hv
          simp at hv; obtain ⟨rfl, rfl⟩ := hv
          have e1 := hρ x; have e2 := hρ y
          rw [hxu] at e1; rw [hyv] at e2
          have e1 := e1.pl_inv; have e2 := e2.pl_inv
          refine .same g (v := q) ?_ (.pl _)
          rw [e1, e2]
          exact binop_run x y hq (fun a b ha _ => hbl (by rw [hb, ha]; rfl))
        · cases hv
      · cases hv
    simp only [opAO] at h
    split at h
    · rename_i hu; simp at h; exact plain true h.symm (fun _ => hu)
    · simp at h; exact plain false h.symm (fun h => by cases h)
    · simp at h; exact plain false h.symm (fun h => by cases h)
    · simp at h; exact plain false h.symm (fun h => by cases h)
    all_goals first
      | (rename_i hu
         obtain ⟨ks, hk, h⟩ := opt_bind_some h
         split at h
         · cases h
         · rename_i hgd
           have hag : agOf P t = some true := by simp [agOf, hu, aggDesc]
           cases op <;> simp at h <;> subst h <;>
             (simp only [aop] at hv
              split at hv
              · rename_i xs ys hxu hyv
                obtain ⟨b, hb, hv⟩ := opt_map_some hv
                simp only [Prod.mk.injEq] at hv
                obtain ⟨rfl, rfl⟩ := hv
                have e1 := hρ x; have e2 := hρ y
                rw [hxu] at e1; rw [hyv] at e2
                first
                  | exact .same g (eqa_run (neg := false) x y hk hag (by simpa using hgd) hb e1 e2) (.pl _)
                  | exact .same g (eqa_run (neg := true) x y hk hag (by simpa using hgd) hb e1 e2) (.pl _)
              · cases hv))
      | cases h
  | unOp op t x =>
    simp [opAO] at h; subst h
    simp only [aop] at hv
    split at hv
    · rename_i u hxu
      obtain ⟨q, hq, hv⟩ := opt_map_some hv
      simp at hv; obtain ⟨rfl, rfl⟩ := hv
      have e1 := hρ x
      rw [hxu] at e1
      have e1 := e1.pl_inv
      refine ofY (s := Op.unary op (ρ' x)) rfl (.same g (v := q) ?_ (.pl _))
      rw [e1]; exact unop_run hq
    · cases hv
  | convert s d x =>
    simp only [opAO] at h
    split at h
    · rename_i ks k hs hd
      simp at h; subst h
      simp only [aop] at hv
      split at hv
      · rename_i n hn
        simp at hv; obtain ⟨rfl, rfl⟩ := hv
        obtain ⟨k0, e⟩ := intA_inv hn (hρ x)
        refine ofY (s := convert s d (ρ' x)) rfl (.same g (v := .int k (k.wrap n)) ?_ (.pl _))
        simp [convert, run_under hs, run_under hd, e, Conv.intToInt]
      · cases hv
    · cases h
  | makeFunc f fs cs =>
    cases f <;> simp [opAO] at h
    subst h
    simp only [aop] at hv
    simp at hv; obtain ⟨rfl, rfl⟩ := hv
    rename_i f
    refine ofY (s := Instr.makeFunc (.func f) (fs.map ρ') (cs.map ρ')) rfl (.same g (v := .func (.func f) (fs.map ρ') (cs.map ρ')) rfl ?_)
    have := Rep.fn (M := M) (R := RefOK σ ν) (w := w) f (fs.toList.map ρ) (cs.toList.map ρ) (fs.toList.map ρ') (cs.toList.map ρ') (by simp) (by simp) (fun j _ _ => by simpa using hρ _) (fun j _ _ => by simpa using hρ _)
    rw [show (fs.toList.map ρ').toArray = fs.map ρ' by apply Array.ext'; simp, show (cs.toList.map ρ').toArray = cs.map ρ' by apply Array.ext'; simp] at this
    exact this
  | fieldAddr s x f =>
    simp only [opAO] at h
    split at h
    · rename_i fs hu
      obtain ⟨fd, hf, h⟩ := opt_bind_some h
      obtain ⟨n, hn, h⟩ := opt_bind_some h
      split at h
      · cases h
      · rename_i h0
        simp at h; subst h
        refine ofY (s := Instr.fieldAt s (ρ' x) f) rfl ?_
        simp only [aop] at hv
        have hx := hρ x
        split at hv
        · rename_i cs e
          simp at hv; obtain ⟨rfl, rfl⟩ := hv
          rw [e] at hx
          obtain ⟨b, o, _, e2, _⟩ := hx.rp_inv
          rw [e2] at hx ⊢
          exact .same g (fieldAt_run hu hf hn h0) (hx.rp_drop _)
        · rename_i l off e
          simp at hv; obtain ⟨rfl, rfl⟩ := hv
          rw [e] at hx
          obtain ⟨b, o, e2, hR⟩ := hx.ptr_inv
          rw [e2]
          refine .same g (fieldAt_run hu hf hn h0) ?_
          rw [Nat.add_assoc]; exact .ptr _ _ _ _ hR
        · rename_i l m i off e
          simp at hv; obtain ⟨rfl, rfl⟩ := hv
          rw [e] at hx
          obtain ⟨b, o, e2, hR⟩ := hx.ep_inv
          rw [e2]
          refine .same g (fieldAt_run hu hf hn h0) ?_
          rw [Nat.add_assoc]; exact .ep _ _ _ _ _ _ hR
        · cases hv
    · cases h
  | field s x f =>
    simp only [opAO] at h
    split at h
    · rename_i fs hu
      obtain ⟨fd, hf, h⟩ := opt_bind_some h
      obtain ⟨n, hn, h⟩ := opt_bind_some h
      obtain ⟨ag, hag, rfl⟩ := opt_map_some h
      refine ofY (s := Instr.field s (ρ' x) f) rfl ?_
      simp only [aop] at hv
      have hx := hρ x
      split at hv
      · rename_i cs e
        split at hv
        · rename_i hl
          obtain ⟨q, hq, hv⟩ := opt_map_some hv
          simp at hv; obtain ⟨rfl, rfl⟩ := hv
          rw [e] at hx
          obtain ⟨vs, e2, hr⟩ := hx.agg_inv
          obtain ⟨v, w', M', ν', h1, h2, h3, h4⟩ := part_run (off := fd.offset) g hn hag hr hq
          refine ⟨v, w', M', ν', ?_, h2, h3, h4⟩
          rw [e2]
          simp [Instr.field, run_under hu, hf, asAgg, h1]
        · cases hv
      · cases hv
    · cases h
  | indexAddr t x i =>
    simp only [opAO] at h
    refine ofY (s := Instr.indexAt t (ρ' x) (ρ' i)) rfl ?_
    split at h
    · rename_i e0 hu0
      obtain ⟨⟨e, n⟩, he, rfl⟩ := opt_map_some h
      obtain ⟨hu, hn, hpos⟩ := elemOf_inv he
      simp only [aop] at hv
      have hx := hρ x
      split at hv
      · rename_i sz' xs k hex hei
        obtain ⟨ik, ei⟩ := intA_inv hei (hρ i)
        rw [hex] at hx
        split at hv
        · rename_i hc
          obtain ⟨rfl, h0⟩ := hc
          split at hv
          · rename_i el hel
            simp at hv; obtain ⟨rfl, rfl⟩ := hv
            obtain ⟨hlt, rfl⟩ := List.getElem?_eq_some_iff.1 hel
            obtain ⟨a, cap, e2, _, hz | ⟨b, o, f, rfl, hc, hr⟩⟩ := hx.sl_inv
            · subst hz; simp at hlt
            · rw [e2, ei]
              refine .same g (indexAt_run hu hn h0 (by omega)) (.rp _ _ _ (fun j => f k.toNat j) (fun j hj => ?_) (fun j hj => hr k.toNat j hlt hj))
              obtain ⟨_, q2, q3⟩ := hc k.toNat j hlt hj
              exact ⟨q2, by rw [Nat.add_assoc]; exact q3⟩
          · cases hv
        · cases hv
      · rename_i l m k hex hei
        obtain ⟨ik, ei⟩ := intA_inv hei (hρ i)
        rw [hex] at hx
        split at hv
        · rename_i sz' xs hs
          split at hv
          · rename_i hc
            obtain ⟨rfl, rfl, h0, h1⟩ := hc
            simp at hv; obtain ⟨rfl, rfl⟩ := hv
            obtain ⟨a, len, cap, e2, hR⟩ := hx.osl_inv
            have e3 := hR.s_row hs rfl
            rcases (g.ob l _ hs).row_inv with ⟨e4, rfl⟩ | ⟨b, o, cap2, c, el, fr, e4, hM, hh, hlen, hsz, hf, hrow⟩
            · simp at h1; omega
            · rw [e4] at e3; simp at e3; obtain ⟨rfl, rfl, rfl⟩ := e3
              rw [e2, ei]
              refine .same g (indexAt_run hu hn h0 h1) ?_
              have := Rep.ep (M := M) (R := RefOK σ ν) (w := w) l xs.length k.toNat 0 b (o + k.toNat * n) (by
                simp only [RefOK, hs]
                exact ⟨Nat.le_refl _, fun _ => ⟨b, o, _, _, e4, rfl⟩⟩)
              simpa using this
          · cases hv
        · cases hv
      · cases hv
    · rename_i len e hu
      obtain ⟨n, hn, rfl⟩ := opt_map_some h
      simp only [aop] at hv
      have hx := hρ x
      split at hv
      · rename_i k hei
        obtain ⟨ik, ei⟩ := intA_inv hei (hρ i)
        split at hv
        · rename_i hc
          obtain ⟨h0, h1⟩ := hc
          split at hv
          · rename_i cs hex
            simp at hv; obtain ⟨rfl, rfl⟩ := hv
            rw [hex] at hx
            obtain ⟨b, o, _, e2, _⟩ := hx.rp_inv
            rw [e2] at hx ⊢
            rw [ei]
            exact .same g (indexArr_run hu hn h0 h1) (hx.rp_drop _)
          · rename_i l off hex
            simp at hv; obtain ⟨rfl, rfl⟩ := hv
            rw [hex] at hx
            obtain ⟨b, o, e2, hR⟩ := hx.ptr_inv
            rw [e2, ei]
            refine .same g (indexArr_run hu hn h0 h1) ?_
            rw [Nat.add_assoc]; exact .ptr _ _ _ _ hR
          · rename_i l m j off hex
            simp at hv; obtain ⟨rfl, rfl⟩ := hv
            rw [hex] at hx
            obtain ⟨b, o, e2, hR⟩ := hx.ep_inv
            rw [e2, ei]
            refine .same g (indexArr_run hu hn h0 h1) ?_
            rw [Nat.add_assoc]; exact .ep _ _ _ _ _ _ hR
          · cases hv
        · cases hv
      · cases hv
    · cases h
  | index t x i =>
    simp only [opAO] at h
    refine ofY (s := Instr.index t (ρ' x) (ρ' i)) rfl ?_
    split at h
    · rename_i hu
      simp at h; subst h
      simp only [aop] at hv
      have hx := hρ x
      split at hv
      · rename_i s k hex hei
        obtain ⟨ik, ei⟩ := intA_inv hei (hρ i)
        rw [hex] at hx
        split at hv
        · rename_i hc
          obtain ⟨h0, h1⟩ := hc
          simp at hv; obtain ⟨rfl, rfl⟩ := hv
          have e2 := hx.pl_inv
          have hlt : k.toNat < s.size := by omega
          have hlt2 : k.toNat < s.data.size := hlt
          refine .same g (v := .int .u8 (s.data.toList.getD k.toNat 0).toNat) ?_ ?_
          · rw [e2, ei]
            have e3 : (if 0 ≤ k then s[k.toNat]? else none) = some (s.data.toList.getD k.toNat 0) := by
              rw [if_pos h0]
              have : s[k.toNat]? = some (s[k.toNat]'hlt) := by simp [hlt]
              rw [this, List.getD, Array.getElem?_toList, Array.getElem?_eq_getElem hlt2]
              rfl
            simp only [Instr.index, Sem.run_bind, asIntOf, Sem.run_pure, Result.andThen, run_under hu, e3]
          · simpa using Rep.pl _
        · cases hv
      · cases hv
    · rename_i len e hu
      obtain ⟨n, hn, h⟩ := opt_bind_some h
      obtain ⟨ag, hag, rfl⟩ := opt_map_some h
      simp only [aop] at hv
      have hx := hρ x
      split at hv
      · rename_i cs k hex hei
        obtain ⟨ik, ei⟩ := intA_inv hei (hρ i)
        rw [hex] at hx
        split at hv
        · rename_i hc
          obtain ⟨h0, h1, h2⟩ := hc
          obtain ⟨q, hq, hv⟩ := opt_map_some hv
          simp at hv; obtain ⟨rfl, rfl⟩ := hv
          obtain ⟨vs, e2, hr⟩ := hx.agg_inv
          obtain ⟨v, w', M', ν', q1, q2, q3, q4⟩ := part_run (off := k.toNat * n) g hn hag hr hq
          refine ⟨v, w', M', ν', ?_, q2, q3, q4⟩
          rw [e2, ei]
          simp [Instr.index, asIntOf, run_under hu, h0, h1, run_size hn, q1]
        · cases hv
      · cases hv
    · cases h
  | extract x i =>
    simp [opAO] at h; subst h
    simp only [aop] at hv
    have hx := hρ x
    split at hv
    · rename_i cs e
      obtain ⟨q, hq, hv⟩ := opt_map_some hv
      simp at hv; obtain ⟨rfl, rfl⟩ := hv
      rw [e] at hx
      obtain ⟨vs, e2, hr⟩ := hx.tup_inv
      obtain ⟨v, hvv, hrv⟩ := hr.get hq
      refine ofY (s := Instr.extract (ρ' x) i) rfl (.same g (v := v) ?_ hrv)
      rw [e2]; simp [Instr.extract, hvv]
    · cases hv
  | slice t x lo hi mx =>
    cases mx with
    | some m => simp [opAO] at h
    | none =>
      refine ofY (s := Instr.sliceAt t (ρ' x) (lo.map ρ') (hi.map ρ') none) rfl ?_
      simp only [opAO] at h
      have hx := hρ x
      split at h
      · rename_i hu
        simp at h; subst h
        simp only [aop] at hv
        split at hv
        · rename_i s e
          split at hv
          · rename_i l h hl hh
            split at hv
            · rename_i hc
              obtain ⟨h0, h1, h2⟩ := hc
              simp at hv; obtain ⟨rfl, rfl⟩ := hv
              rw [e] at hx
              have e2 := hx.pl_inv
              refine .same g (v := .string (s.extract l.toNat h.toNat)) ?_ (.pl _)
              rw [e2]
              have := sliceBounds_run (P := P) (w := w) (isS := false) (len := s.size) (cap := s.size) (bound_opt hρ hl) (bound_opt hρ hh) h0 h1 h2 (Nat.le_refl _)
              simp [Instr.sliceAt, Instr.slice, run_under hu, this]
            · cases hv
          · cases hv
        · cases hv
      · rename_i e0 hu0
        obtain ⟨⟨e, sz⟩, he, rfl⟩ := opt_map_some h
        obtain ⟨hu, hn, hpos⟩ := elemOf_inv he
        simp only [aop] at hv
        split at hv
        · rename_i sz' xs ex
          split at hv
          · rename_i l h hl hh
            split at hv
            · rename_i hc
              obtain ⟨rfl, h0, h1, h2⟩ := hc
              simp at hv; obtain ⟨rfl, rfl⟩ := hv
              rw [ex] at hx
              obtain ⟨a, cap, e2, hcap, hz⟩ := hx.sl_inv
              have hb := sliceBounds_run (P := P) (w := w) (isS := true) (len := xs.length) (cap := cap) (bound_opt hρ hl) (bound_opt hρ hh) h0 h1 h2 hcap
              have hlen : ((xs.take h.toNat).drop l.toNat).length = h.toNat - l.toNat := by simp; omega
              have hrun : (Instr.sliceAt t (.slice a xs.length cap) (lo.map ρ') (hi.map ρ') none).run P w =
                  .ok (.slice (if cap = l.toNat then a else a.map (·.add (l.toNat * sz))) (h.toNat - l.toNat) (cap - l.toNat)) w := by
                simp [Instr.sliceAt, Instr.slice, run_under hu, hb, run_size hn]
              rw [e2]
              refine .same g hrun ?_
              by_cases he0 : (xs.take h.toNat).drop l.toNat = []
              · rw [he0] at hlen ⊢
                rw [← hlen]
                exact .sl0 _ _ _
              · have hpos2 : 0 < h.toNat - l.toNat := by rw [← hlen]; exact List.length_pos_iff.2 he0
                rcases hz with hz | ⟨b, o, f, rfl, hc, hr⟩
                · subst hz; simp at he0
                · rw [if_neg (by omega), ← hlen]
                  simp only [Option.map_some, add_flat]
                  have hget : ∀ i (hi : i < ((xs.take h.toNat).drop l.toNat).length), ((xs.take h.toNat).drop l.toNat)[i] = xs[l.toNat + i]'(by simp at hi; omega) := fun i hi => by simp
                  refine .sl sz _ b _ _ (fun i j => f (l.toNat + i) j) (by omega) (fun i j hi hj => ?_) (fun i j hi hj => ?_)
                  · have hi2 : l.toNat + i < xs.length := by simp at hi; omega
                    rw [hget i hi] at hj
                    obtain ⟨q1, q2, q3⟩ := hc (l.toNat + i) j hi2 hj
                    refine ⟨q1, q2, ?_⟩
                    rw [show o + l.toNat * sz + (i * sz + j) = o + ((l.toNat + i) * sz + j) by rw [Nat.add_mul]; omega]
                    exact q3
                  · have hi2 : l.toNat + i < xs.length := by simp at hi; omega
                    have hj2 : j < (xs[l.toNat + i]).cells.length := by rw [hget i hi] at hj; exact hj
                    have := hr (l.toNat + i) j hi2 hj2
                    simpa only [hget i hi] using this
            · cases hv
          · cases hv
        · cases hv
      · cases h
  | call c =>
    obtain ⟨callee, args, tys⟩ := c
    cases callee with
    | value f => simp [opAO] at h
    | invoke r m => simp [opAO] at h
    | builtin b =>
      unfold opAO at h
      split at h <;> (rename_i heq; simp only [Op.call.injEq, Call.mk.injEq, Callee.builtin.injEq, reduceCtorEq] at heq) <;> try cases h
      · rename_i x t
        obtain ⟨rfl, rfl, rfl⟩ := heq
        have hx := hρ x
        refine ofY (s := Builtin.len_ #[t] type #[ρ' x]) (by simp [execOp, resolve, invoke, builtin]) ?_
        split at h
        · rename_i hu
          simp at h; subst h
          simp only [aop] at hv
          split at hv
          · rename_i s ex
            simp at hv; obtain ⟨rfl, rfl⟩ := hv
            rw [ex] at hx
            have e2 := hx.pl_inv
            rw [e2]
            exact .same g (v := .int .i64 s.size) (by simp [Builtin.len_, run_under hu, goInt]) (.pl _)
          · cases hv
        · rename_i e' hu
          simp at h; subst h
          have sliceLen : ∀ (a : Option Addr) (n cap : Nat), ρ' x = .slice a n cap → r = .pl (.int .i64 n) → σ' = σ → Yields P (Builtin.len_ #[t] type #[ρ' x]) M σ ν w r σ' := by
            rintro a n cap e rfl rfl
            refine .same g (v := .int .i64 n) ?_ (.pl _)
            rw [e]; simp [Builtin.len_, run_under hu, goInt]
          simp only [aop] at hv
          split at hv
          · rename_i ex
            simp at hv; obtain ⟨rfl, rfl⟩ := hv
            rw [ex] at hx
            exact sliceLen none 0 0 hx.nils_inv rfl rfl
          · rename_i ex
            simp at hv; obtain ⟨rfl, rfl⟩ := hv
            rw [ex] at hx
            obtain ⟨a, e2⟩ := hx.zsl_inv
            exact sliceLen a 0 0 e2 rfl rfl
          · rename_i n ex
            simp at hv; obtain ⟨rfl, rfl⟩ := hv
            rw [ex] at hx
            obtain ⟨b, o, e2, _⟩ := hx.psl_inv
            exact sliceLen _ n _ e2 rfl rfl
          · rename_i xs ex
            simp at hv; obtain ⟨rfl, rfl⟩ := hv
            rw [ex] at hx
            obtain ⟨a, cap, e2, _⟩ := hx.sl_inv
            exact sliceLen a _ cap e2 rfl rfl
          · rename_i l n ex
            split at hv
            · rename_i xs hs
              split at hv
              · rename_i hn
                simp at hv; obtain ⟨rfl, rfl⟩ := hv
                rw [ex] at hx
                obtain ⟨a, len, cap, e2, hR⟩ := hx.osl_inv
                have e3 := hR.s_row hs hn
                rcases (g.ob l _ hs).row_inv with ⟨e4, rfl⟩ | ⟨b, o, cap2, c, el, fr, e4, _⟩
                · rw [e4] at e3; simp at e3; obtain ⟨rfl, rfl, rfl⟩ := e3
                  subst hn
                  exact sliceLen _ _ _ e2 rfl rfl
                · rw [e4] at e3; simp at e3; obtain ⟨rfl, rfl, rfl⟩ := e3
                  subst hn
                  exact sliceLen _ _ _ e2 rfl rfl
              · cases hv
            · cases hv
          · cases hv
        · rename_i n e hu
          simp at h; subst h
          simp [aop] at hv; obtain ⟨rfl, rfl⟩ := hv
          refine .same g (v := .int .i64 n) ?_ (cval_rep _)
          simp [Builtin.len_, run_under hu, goInt]
        · cases h
      · rename_i x y t t2
        obtain ⟨rfl, rfl, rfl⟩ := heq
        refine ofY (s := Builtin.append_ #[t, t2] type #[ρ' x, ρ' y]) (by simp [execOp, resolve, invoke, builtin]) ?_
        obtain ⟨⟨e, sz⟩, he, h⟩ := opt_bind_some h
        split at h
        · rename_i hc
          simp only [Bool.and_eq_true] at hc
          simp at h; subst h
          have hE := appOK_elem he hc.1
          have hT := noIntB_inv hc.2
          have hx := hρ x
          simp only [aop] at hv
          split at hv
          · rename_i ys hys
            have hS := srcA_ok (P := P) g hys (hρ y)
            split at hv
            · rename_i ex
              rw [ex] at hx
              have ev : ρ' x = .slice none 0 0 := hx.nils_inv
              split at hv
              · rename_i h0
                simp at hv; obtain ⟨rfl, rfl⟩ := hv
                have h0 : ys = [] := by simpa using h0
                subst h0
                obtain ⟨vs, hvl, _, _, hfc⟩ := hS.cells
                have : vs = [] := by simpa using hvl
                subst this
                have hk := hS.len
                have hfc' := hfc w rfl
                simp only [List.length_nil] at hk hfc'
                rw [ev]
                refine .same g (v := .slice none 0 0) ?_ .nils
                rcases hT with ⟨e2, hd2⟩ | hd2 <;>
                  simp [Builtin.append_, run_under hE.ty, run_size hE.size, run_under hd2, hk, hfc']
              · rename_i h0
                split at hv
                · rename_i hsz
                  simp at hv; obtain ⟨rfl, rfl⟩ := hv
                  rw [ev]
                  exact append_nil_yields g hE hT hS (by simpa using h0) (by omega)
                · cases hv
            · rename_i ex
              rw [ex] at hx
              obtain ⟨a0, ev⟩ := hx.zsl_inv
              split at hv
              · rename_i h0
                simp at hv; obtain ⟨rfl, rfl⟩ := hv
                have h0 : ys = [] := by simpa using h0
                subst h0
                obtain ⟨vs, hvl, _, _, hfc⟩ := hS.cells
                have : vs = [] := by simpa using hvl
                subst this
                have hk := hS.len
                have hfc' := hfc w rfl
                simp only [List.length_nil] at hk hfc'
                rw [ev]
                refine .same g (v := .slice a0 0 0) ?_ (.zsl a0)
                rcases hT with ⟨e2, hd2⟩ | hd2 <;> cases a0 <;>
                  simp [Builtin.append_, run_under hE.ty, run_size hE.size, run_under hd2, hk, hfc', storeCells]
              · rename_i h0
                split at hv
                · rename_i hsz
                  simp at hv; obtain ⟨rfl, rfl⟩ := hv
                  rw [ev]
                  exact append_nil_yields g hE hT hS (by simpa using h0) (by omega)
                · cases hv
            · rename_i l n ex
              split at hv
              · rename_i sz' xs hs
                split at hv
                · rename_i hc2
                  obtain ⟨rfl, rfl, hsz⟩ := hc2
                  simp at hv; obtain ⟨rfl, rfl⟩ := hv
                  rw [ex] at hx
                  exact append_row_yields g hE hT hS hs hx (by omega)
                · cases hv
              · cases hv
            · cases hv
          · cases hv
        · cases h
  | _ => simp [opAO] at h
end
end Go.Ab
