/- Further operations over abstract values: constant texts as bytes, copy, arrays as slices and back, rows that are cut. No condition. -/
import Derived.Test.YtoadgajhkhejiaaAbRun8
set_option linter.unusedSimpArgs false
namespace Go.Ab
open Go Go.Lib
section
variable {P : Program} {M M' : Nat → Prop} {σ σ' : St} {ν ν' : Nat → Value} {w w' : World} {R : Ref → Value → Prop}
theorem run_mark {b o : Nat} {c : Array Value} {e : TypeId} {fr : Nat × Nat} (h : w.heap[b]? = some (.cells c e fr)) :
    ∃ fr', (markStringish ⟨b, o, none⟩).run P w = .ok () (putRow w b c e fr') := by
  have hsh : w.shape? b = some (e, c.size) := by unfold World.shape?; rw [h]
  obtain ⟨lo, hi⟩ := fr
  refine ⟨if lo == hi then (c.size, c.size + 1) else (min lo c.size, max hi (c.size + 1)), ?_⟩
  have hfr : w.freeze ⟨b, c.size, none⟩ 1 = putRow w b c e (if lo == hi then (c.size, c.size + 1) else (min lo c.size, max hi (c.size + 1))) := by
    obtain ⟨hb, hh⟩ := Array.getElem?_eq_some_iff.1 h
    unfold World.freeze putRow
    rw [if_neg (by decide)]
    congr 1
    apply Array.ext_getElem?
    intro i
    rw [Array.getElem?_setIfInBounds, Array.getElem?_modify]
    by_cases hi : b = i
    · subst hi; simp [hb, hh]
    · simp [hi]
  simp [markStringish, hsh]
  simpa using hfr
theorem strm_yields {t e : TypeId} {l sz : Nat} {xs : List AV} {x : Value} (g : Good M σ ν w) (ht : P.underlying t = some (.slice e)) (he : P.underlying e = some (.int .u8))
    (hs : σ[l]? = some (.row sz xs)) (h0 : 0 < xs.length) (hr : Rep M (RefOK σ ν) w (.osl l xs.length) x) : Yields P (convert t t x) M σ ν w (.sl sz xs) (σ.set l .dead) := by
  obtain ⟨a, len, cap, rfl, hR⟩ := hr.osl_inv
  have e1 := hR.s_row hs rfl
  rcases (g.ob l _ hs).row_inv with ⟨e3, rfl⟩ | ⟨b, o, cap2, c, el, fr, e3, hM, hh, hlen, hsz, hf, hrow⟩
  · simp at h0
  · rw [e3] at e1; simp at e1; obtain ⟨rfl, rfl, rfl⟩ := e1
    obtain ⟨fr', hmark⟩ := run_mark (P := P) (o := o) hh
    have hrun : (convert t t (.slice (some ⟨b, o, none⟩) xs.length cap)).run P w = .ok (.slice (some ⟨b, o, none⟩) xs.length cap) (putRow w b c el fr') := by
      simp [convert, run_under ht, run_under he, hmark]
    have hkeep : ∀ k, k < w.heap.size → blk (ν l) ≠ some k → (putRow w b c el fr').heap[k]? = w.heap[k]? := fun k _ hne => putRow_other (fun e => hne (by rw [e3, blk, e])) _ _ _
    obtain ⟨g', l'⟩ := g.update (ν' := ν) (M' := fun k => M k ∧ blk (ν l) ≠ some k) (w' := putRow w b c el fr') hs (by simp) .dead (fun _ _ => rfl) (by simp) hkeep
      (fun _ _ h => h.1) (fun _ h h' => ⟨h, h'⟩) (fun k h => by simpa using g.lt k h.1) (fun h => absurd rfl h) (fun _ _ h => h.set_dead hs) (.dead _)
    refine ⟨_, _, _, ν, hrun, g', l', ?_⟩
    refine .sl sz xs b o cap (fun i j => c[o + (i * sz + j)]?.getD undef) hlen (fun i j hi hj => ?_) (fun i j hi hj => ?_)
    · obtain ⟨q1, _⟩ := hrow i j hi hj
      have hlt := idx_lt (i := i) (k := cap) (by omega) q1
      refine ⟨q1, fun x => x.2 (by rw [e3]; rfl), ?_⟩
      rw [cell_of_row _ _ _ _ _ _ (putRow_same hh c el fr')]; simp [show o + (i * sz + j) < c.size by omega]
    · obtain ⟨q1, q2⟩ := hrow i j hi hj
      have hlt := idx_lt (i := i) (k := cap) (by omega) q1
      exact l'.rep g (q2 _ (by simp [show o + (i * sz + j) < c.size by omega]))
theorem copy_run {t t2 ty e : TypeId} {b o n cap m : Nat} {x : Value} {vs : List Value} {c : Array Value} {el : TypeId} {fr : Nat × Nat} (he : P.underlying t = some (.slice e)) (hn : szOf P e = some 1)
    (hk : ∀ w', (Builtin.lenOf x).run P w' = .ok m w') (hnew : (Builtin.firstCells 1 (Nat.min m n) x).run P w = .ok vs.toArray w) (hvl : vs.length = Nat.min m n) (h1 : ∀ v ∈ vs, v.oneCell' = true)
    (hh : w.heap[b]? = some (.cells c el fr)) (hs : o + n ≤ c.size) (hf : ∀ j, j < n → ¬ (fr.1 ≤ o + j ∧ o + j < fr.2)) :
    ∃ c', (Builtin.copy_ #[t, t2] ty #[.slice (some ⟨b, o, none⟩) n cap, x]).run P w = .ok (.int .i64 (Nat.min m n : Nat)) (putRow w b c' el fr) ∧ c'.toList = lsplice c.toList o vs := by
  have hle : vs.length ≤ n := by rw [hvl]; exact Nat.min_le_right _ _
  obtain ⟨c', hr, hc'⟩ := run_storeCells (P := P) b o el fr vs 0 c w hh (by omega) h1 (fun j hj => by
    have := hf j (by omega)
    rw [show o + 0 + j = o + j by omega]; exact this)
  refine ⟨c', ?_, by simpa using hc'⟩
  unfold Builtin.copy_
  simp only [List.getElem?_toArray, List.getElem?_cons_zero, List.getElem?_cons_succ, Sem.run_bind, run_under he, Result.andThen, hk, run_size hn, hnew, hr, Sem.run_pure, goInt]
theorem set_same {l : Nat} {o : Ob} (hs : σ[l]? = some o) : σ.set l o = σ := by
  apply List.ext_getElem?
  intro k
  by_cases hk : k = l
  · subst hk; rw [get_set_eq hs, hs]
  · rw [get_set_ne hk]
theorem copy_row_yields {t t2 ty e : TypeId} {l : Nat} {xs ys : List AV} {x sv : Value} (g : Good M σ ν w) (he : P.underlying t = some (.slice e)) (hn : szOf P e = some 1) (hx : SrcOK P M (RefOK σ ν) w 1 ys x)
    (hs : σ[l]? = some (.row 1 xs)) (hr : Rep M (RefOK σ ν) w (.osl l xs.length) sv) :
    Yields P (Builtin.copy_ #[t, t2] ty #[sv, x]) M σ ν w (.pl (.int .i64 (Nat.min ys.length xs.length : Nat))) (σ.set l (.row 1 (ys.take (Nat.min ys.length xs.length) ++ xs.drop (Nat.min ys.length xs.length)))) := by
  have hk1 : Nat.min ys.length xs.length ≤ ys.length := Nat.min_le_left _ _
  have hk2 : Nat.min ys.length xs.length ≤ xs.length := Nat.min_le_right _ _
  obtain ⟨vs, hvl, hel, h1, hfc⟩ := hx.part _ hk1
  rw [Nat.mul_one] at hvl
  obtain ⟨a, len, cap, rfl, hR⟩ := hr.osl_inv
  have e1 := hR.s_row hs rfl
  rcases (g.ob l _ hs).row_inv with ⟨e3, rfl⟩ | ⟨b, o, cap2, c, el, fr, e3, hM, hh, hlen, hsz, hf, hrow⟩
  · rw [e3] at e1; simp at e1; obtain ⟨rfl, rfl, rfl⟩ := e1
    have hk0 : Nat.min ys.length ([] : List AV).length = 0 := Nat.min_zero _
    have hk0' : Nat.min ys.length 0 = 0 := Nat.min_zero _
    rw [hk0] at hfc ⊢
    have : (ys.take 0 ++ ([] : List AV).drop 0) = [] := by simp
    rw [this, set_same hs]
    refine .same g (v := .int .i64 ((0 : Nat) : Int)) ?_ (.pl _)
    unfold Builtin.copy_
    simp only [List.getElem?_toArray, List.getElem?_cons_zero, List.getElem?_cons_succ, Sem.run_bind, run_under he, Result.andThen, hx.len, run_size hn, hk0', hfc, Sem.run_pure, goInt]
  · rw [e3] at e1; simp at e1; obtain ⟨rfl, rfl, rfl⟩ := e1
    obtain ⟨c', hrun, hc'⟩ := copy_run (t2 := t2) (ty := ty) (cap := cap) he hn hx.len hfc hvl h1 hh (n := xs.length) (by omega) (fun j hj => hf j (by omega))
    generalize hkk : Nat.min ys.length xs.length = k at *
    have hsl : o + vs.length ≤ c.toList.length := by simp; omega
    have hcl : c'.size = c.size := by rw [← Array.length_toList, hc', splice_length _ _ _ hsl, Array.length_toList]
    have hlen' : (ys.take k ++ xs.drop k).length = xs.length := by simp; omega
    have evo : ∀ r v, RefOK σ ν r v → RefOK (σ.set l (.row 1 (ys.take k ++ xs.drop k))) ν r v := fun r v h => h.set_row hs hlen'
    have hkeep : ∀ q, q < w.heap.size → blk (ν l) ≠ some q → (putRow w b c' el fr).heap[q]? = w.heap[q]? := fun q _ hne => putRow_other (fun e => hne (by rw [e3, blk, e])) _ _ _
    have hseal : ∀ q, q < w.heap.size → ¬ M q → ¬ M q ∧ (putRow w b c' el fr).heap[q]? = w.heap[q]? := fun q hq hm => ⟨hm, hkeep q hq (fun e => hm (by rw [e3, blk] at e; simp at e; exact e ▸ hM))⟩
    have hup := g.update (ν' := ν) (M' := M) (w' := putRow w b c' el fr) hs (by simp) (.row 1 (ys.take k ++ xs.drop k)) (fun _ _ => rfl) (by simp) hkeep (fun _ _ h => h) (fun _ h _ => h)
      (fun q h => by simpa using g.lt q h) (fun _ q h => .inl h) evo
      (by rw [e3]
          refine ObOK.row' _ hlen'.symm hM (putRow_same hh _ _ _) (by omega) (by omega) hf (fun i j hi hj => ?_)
          by_cases hik : i < k
          · have hi2 : i < (ys.take k).length := by simp; omega
            simp only [List.getElem_append_left hi2] at hj ⊢
            obtain ⟨q1, q2⟩ := hel i j hi2 hj
            refine ⟨q1, fun v hv => (q2 v ?_).mono hseal evo⟩
            rw [← Array.getElem?_toList, hc', splice_get _ _ _ _ hsl, if_pos (by omega)] at hv
            rw [← hv]; congr 1; omega
          · have hi2 : ¬ i < (ys.take k).length := by simp; omega
            have hik2 : (ys.take k).length = k := by simp; omega
            have hi3 : i < xs.length := by omega
            have hget : (ys.take k ++ xs.drop k)[i] = xs[i] := by
              rw [List.getElem_append_right (Nat.le_of_not_lt hi2)]
              simp only [List.getElem_drop, hik2]
              congr 1; omega
            simp only [hget] at hj ⊢
            obtain ⟨q1, q2⟩ := hrow i j hi3 hj
            refine ⟨q1, fun v hv => (q2 v ?_).mono hseal evo⟩
            rw [← Array.getElem?_toList, hc', splice_get _ _ _ _ hsl, if_neg (by omega), Array.getElem?_toList] at hv
            exact hv)
    exact ⟨_, _, M, ν, hrun, hup.1, hup.2, .pl _⟩
theorem copy_box_yields {t t2 ty e : TypeId} {l off n : Nat} {cs ys : List AV} {x sv : Value} (g : Good M σ ν w) (he : P.underlying t = some (.slice e)) (hn : szOf P e = some 1) (hx : SrcOK P M (RefOK σ ν) w 1 ys x)
    (hs : σ[l]? = some (.box cs)) (hr : Rep M (RefOK σ ν) w (.psl l off n) sv) (hb : off + n ≤ cs.length) (hone : ys.all AV.one = true) :
    Yields P (Builtin.copy_ #[t, t2] ty #[sv, x]) M σ ν w (.pl (.int .i64 (Nat.min ys.length n : Nat))) (σ.set l (.box (lsplice cs off (ys.take (Nat.min ys.length n))))) := by
  have hk1 : Nat.min ys.length n ≤ ys.length := Nat.min_le_left _ _
  have hk2 : Nat.min ys.length n ≤ n := Nat.min_le_right _ _
  obtain ⟨vs, hvl, hel, h1, hfc⟩ := hx.part _ hk1
  rw [Nat.mul_one] at hvl
  obtain ⟨b, o, rfl, hR⟩ := hr.psl_inv
  have e := hR.p_box hs
  obtain ⟨b', o', c, el, fr, e', hM, hh, hsz, hf, hrep⟩ := (g.ob l _ hs).box_inv
  rw [e'] at e; simp at e; obtain ⟨rfl, rfl⟩ := e
  obtain ⟨c', hrun, hc'⟩ := copy_run (t2 := t2) (ty := ty) (cap := n) he hn hx.len hfc hvl h1 hh (n := n) (o := o + off) (by omega) (fun j hj => by rw [Nat.add_assoc]; exact hf (off + j) (by omega))
  generalize hkk : Nat.min ys.length n = k at *
  have hsl : o + off + vs.length ≤ c.toList.length := by simp; omega
  have hcl : c'.size = c.size := by rw [← Array.length_toList, hc', splice_length _ _ _ hsl, Array.length_toList]
  have hkl : (ys.take k).length = k := by simp; omega
  have hlen' : (lsplice cs off (ys.take k)).length = cs.length := splice_length _ _ _ (by omega)
  have evo : ∀ r v, RefOK σ ν r v → RefOK (σ.set l (.box (lsplice cs off (ys.take k)))) ν r v := fun r v h => h.set_box hs
  have hkeep : ∀ q, q < w.heap.size → blk (ν l) ≠ some q → (putRow w b c' el fr).heap[q]? = w.heap[q]? := fun q _ hne => putRow_other (fun e => hne (by rw [e', blk, e])) _ _ _
  have hseal : ∀ q, q < w.heap.size → ¬ M q → ¬ M q ∧ (putRow w b c' el fr).heap[q]? = w.heap[q]? := fun q hq hm => ⟨hm, hkeep q hq (fun e => hm (by rw [e', blk] at e; simp at e; exact e ▸ hM))⟩
  have hup := g.update (ν' := ν) (M' := M) (w' := putRow w b c' el fr) hs (by simp) (.box (lsplice cs off (ys.take k))) (fun _ _ => rfl) (by simp) hkeep (fun _ _ h => h) (fun _ h _ => h)
    (fun q h => by simpa using g.lt q h) (fun _ q h => .inl h) evo
    (by rw [e']
        refine .box _ b o c' el fr hM (putRow_same hh _ _ _) (by omega) (fun j hj => hf j (by omega)) (fun j hj u hu => ?_)
        rw [← Array.getElem?_toList, hc', splice_get _ _ _ _ hsl] at hu
        have hgj := List.getElem?_eq_getElem hj
        rw [splice_get _ _ _ _ (by omega)] at hgj
        by_cases hin : off ≤ j ∧ j < off + (ys.take k).length
        · rw [if_pos hin] at hgj
          rw [if_pos (by omega)] at hu
          obtain ⟨hj2, hgj2⟩ := List.getElem?_eq_some_iff.1 hgj
          have hyo : ((ys.take k)[j - off]).one = true := List.all_eq_true.1 hone _ (List.mem_of_mem_take (List.getElem_mem hj2))
          have hcells := AV.one_cells hyo
          have := (hel (j - off) 0 hj2 (by rw [hcells]; simp)).2 u (by rw [Nat.mul_one, Nat.add_zero]; rw [← hu]; congr 1; omega)
          rw [← hgj2]
          simp only [hcells, List.getElem_cons_zero] at this
          exact this.mono hseal evo
        · rw [if_neg hin] at hgj
          rw [if_neg (by omega)] at hu
          obtain ⟨hj2, hgj2⟩ := List.getElem?_eq_some_iff.1 hgj
          rw [← hgj2]
          exact (hrep j hj2 u (by rw [← Array.getElem?_toList]; exact hu)).mono hseal evo)
  exact ⟨_, _, M, ν, hrun, hup.1, hup.2, .pl _⟩
theorem clear_row_yields {t ty e : TypeId} {l lo sz : Nat} {ag : Bool} {z xs : List AV} {sv : Value} (g : Good M σ ν w) (he : elemOf? P t = some (e, sz)) (hz : zcOf P e = some z)
    (hag : ag = false → sz = 1) (hone : z.all AV.one = true) (hzl : z.length = sz) (hs : σ[l]? = some (.row sz xs)) (hlo : lo < xs.length) (hr : Rep M (RefOK σ ν) w (.win sz l xs.length lo) sv) :
    Yields P (Builtin.clear_ #[t] ty #[sv]) M σ ν w (.tup []) (σ.set l (.row sz (xs.take lo ++ chunks sz ag (xs.length - lo) (repeatA z (xs.length - lo))))) := by
  obtain ⟨hu, hn, hpos⟩ := elemOf_inv he
  obtain ⟨zv, hzv, hzr⟩ := zc_reps hz
  obtain ⟨_, b, o, cap, rfl, hR⟩ := hr.win_inv
  have e1 := hR.s_row hs rfl
  rcases (g.ob l _ hs).row_inv with ⟨e3, rfl⟩ | ⟨b2, o2, cap2, c, el, fr, e3, hM, hh, hlen, hsz, hf, hrow⟩
  · simp at hlo
  · rw [e3] at e1
    simp at e1
    obtain ⟨⟨rfl, rfl⟩, rfl⟩ := e1
    have hvs : zv.cells.size = sz := ((hzr M (RefOK σ ν) w).1.trans Array.length_toList).symm.trans hzl
    have hreps := repeat_reps (hzr M (RefOK σ ν) w) (xs.length - lo)
    have hone2 : ∀ n, (repeatA z n).all AV.one = true := by
      intro n
      induction n with
      | zero => rfl
      | succ n ih => simp only [repeatA, List.all_append, hone, ih, Bool.and_self]
    have hel := chunks_elems hag (xs.length - lo) (repeatA z (xs.length - lo)) _ hreps (by rw [repeatA_length, hzl]) (hone2 _)
    have h1 := hreps.one (hone2 _)
    have hvl : (Builtin.zeroCells zv.cells (xs.length - lo)).toList.length = (xs.length - lo) * sz := by rw [Array.length_toList, size_zeroCells, hvs]
    have hzc : ((Array.range ((xs.length - lo) * zv.cells.size)).map (zv.cells[· % zv.cells.size]!)) = Builtin.zeroCells zv.cells (xs.length - lo) := rfl
    rw [hzc] at hel h1
    generalize hvv : (Builtin.zeroCells zv.cells (xs.length - lo)).toList = vs at *
    have hmul : xs.length * sz = lo * sz + (xs.length - lo) * sz := by rw [← Nat.add_mul]; congr 1; omega
    have hcapm : xs.length * sz ≤ cap * sz := Nat.mul_le_mul_right _ hlen
    obtain ⟨c', hst, hc'⟩ := run_storeCells (P := P) b (o + lo * sz) el fr vs 0 c w hh (by omega) h1 (fun j hj => by
      have := hf (lo * sz + j) (by omega)
      rw [show o + lo * sz + 0 + j = o + (lo * sz + j) by omega]; exact this)
    simp only [Nat.add_zero] at hc'
    have hrun : (Builtin.clear_ #[t] ty #[.slice (some ⟨b, o + lo * sz, none⟩) (xs.length - lo) (cap - lo)]).run P w = .ok (.tuple #[]) (putRow w b c' el fr) := by
      have hne : xs.length - lo ≠ 0 := by omega
      obtain ⟨q, hq⟩ : ∃ q, xs.length - lo = q + 1 := ⟨xs.length - lo - 1, by omega⟩
      rw [hq] at hvv ⊢
      unfold Builtin.clear_
      simp only [List.getElem?_toArray, List.getElem?_cons_zero, Sem.run_bind, run_under hu, Result.andThen, hzv, hvv, hst, Sem.run_pure]
    have hsl : o + lo * sz + vs.length ≤ c.toList.length := by simp; omega
    have hcl : c'.size = c.size := by rw [← Array.length_toList, hc', splice_length _ _ _ hsl, Array.length_toList]
    have hchl := chunks_length sz ag (xs.length - lo) (repeatA z (xs.length - lo))
    have hlen' : (xs.take lo ++ chunks sz ag (xs.length - lo) (repeatA z (xs.length - lo))).length = xs.length := by rw [List.length_append, hchl, List.length_take]; omega
    have evo : ∀ r v, RefOK σ ν r v → RefOK (σ.set l (.row sz (xs.take lo ++ chunks sz ag (xs.length - lo) (repeatA z (xs.length - lo))))) ν r v := fun r v h => h.set_row hs hlen'
    have hkeep : ∀ q, q < w.heap.size → blk (ν l) ≠ some q → (putRow w b c' el fr).heap[q]? = w.heap[q]? := fun q _ hne => putRow_other (fun e => hne (by rw [e3, blk, e])) _ _ _
    have hseal : ∀ q, q < w.heap.size → ¬ M q → ¬ M q ∧ (putRow w b c' el fr).heap[q]? = w.heap[q]? := fun q hq hm => ⟨hm, hkeep q hq (fun e => hm (by rw [e3, blk] at e; simp at e; exact e ▸ hM))⟩
    have hup := g.update (ν' := ν) (M' := M) (w' := putRow w b c' el fr) hs (by simp) (.row sz (xs.take lo ++ chunks sz ag (xs.length - lo) (repeatA z (xs.length - lo)))) (fun _ _ => rfl) (by simp) hkeep (fun _ _ h => h) (fun _ h _ => h)
      (fun q h => by simpa using g.lt q h) (fun _ q h => .inl h) evo
      (by rw [e3]
          refine ObOK.row' _ hlen'.symm hM (putRow_same hh _ _ _) (by omega) (by omega) hf (fun i j hi hj => ?_)
          by_cases hik : i < lo
          · have hi2 : i < (xs.take lo).length := by rw [List.length_take]; omega
            have hi3 : i < xs.length := by omega
            have hget : (xs.take lo ++ chunks sz ag (xs.length - lo) (repeatA z (xs.length - lo)))[i] = xs[i] := by
              rw [List.getElem_append_left hi2]; simp
            simp only [hget] at hj ⊢
            obtain ⟨q1, q2⟩ := hrow i j hi3 hj
            refine ⟨q1, fun v hv => (q2 v ?_).mono hseal evo⟩
            have := idx_lt hik q1
            rw [← Array.getElem?_toList, hc', splice_get _ _ _ _ hsl, if_neg (by omega), Array.getElem?_toList] at hv
            exact hv
          · have hi2 : (xs.take lo).length = lo := by rw [List.length_take]; omega
            have hi3 : i - lo < (chunks sz ag (xs.length - lo) (repeatA z (xs.length - lo))).length := by rw [hchl]; omega
            have hget : (xs.take lo ++ chunks sz ag (xs.length - lo) (repeatA z (xs.length - lo)))[i] = (chunks sz ag (xs.length - lo) (repeatA z (xs.length - lo)))[i - lo] := by
              rw [List.getElem_append_right (by omega)]
              simp only [hi2]
            simp only [hget] at hj ⊢
            obtain ⟨q1, q2⟩ := hel (i - lo) j hi3 hj
            refine ⟨q1, fun v hv => (q2 v ?_).mono hseal evo⟩
            have q3 : i * sz = (i - lo) * sz + lo * sz := by rw [← Nat.add_mul]; congr 1; omega
            have q4 := idx_lt (by rw [hchl] at hi3; exact hi3) q1
            rw [← Array.getElem?_toList, hc', splice_get _ _ _ _ hsl, if_pos (by omega)] at hv
            rw [← hv]; congr 1; omega)
    exact ⟨_, _, M, ν, hrun, hup.1, hup.2, .tup [] [] rfl (fun j hj => by simp at hj)⟩
theorem Good.cut {l sz : Nat} {xs ys : List AV} {v : Value} (g : Good M σ ν w) (hs : σ[l]? = some (.row sz xs)) (hb : ∀ b, blk v = some b → blk (ν l) = some b)
    (ob : ∀ (σ' : St) (ν' : Nat → Value), (∀ r v, RefOK σ ν r v → RefOK σ' ν' r v) → ObOK M (RefOK σ' ν') w (.row sz ys) v) :
    ∃ ν', Good M (σ.set l .dead ++ [.row sz ys]) ν' w ∧ Later M σ ν w M (σ.set l .dead ++ [.row sz ys]) ν' w ∧ ν' σ.length = v := by
  let ν' : Nat → Value := fun k => if k = σ.length then v else ν k
  have hnew : ν' σ.length = v := by simp [ν']
  have hνo : ∀ k, k < σ.length → ν' k = ν k := fun k hk => by simp [ν', Nat.ne_of_lt hk]
  have hlen : (σ.set l .dead).length = σ.length := by simp
  have evo1 : ∀ r v, RefOK σ ν r v → RefOK (σ.set l .dead) ν r v := fun r v h => h.set_dead hs
  have evo2 : ∀ r v, RefOK (σ.set l .dead) ν r v → RefOK (σ.set l .dead ++ [.row sz ys]) ν' r v := fun r v h =>
    RefOK.ext (fun k o' hk => by
      have hk2 := (List.getElem?_eq_some_iff.1 hk).1
      exact ⟨by rw [List.getElem?_append_left hk2]; exact hk, hνo k (by omega)⟩) h
  have evo : ∀ r v, RefOK σ ν r v → RefOK (σ.set l .dead ++ [.row sz ys]) ν' r v := fun r v h => evo2 r v (evo1 r v h)
  have hl : live σ l := ⟨_, hs, by simp⟩
  have hcase : ∀ k, live (σ.set l .dead ++ [.row sz ys]) k → (k < σ.length ∧ k ≠ l ∧ live σ k) ∨ k = σ.length := by
    rintro k ⟨o', ho, hod⟩
    by_cases hk : k < σ.length
    · left
      rw [List.getElem?_append_left (by omega)] at ho
      have hkl : k ≠ l := by
        rintro rfl
        rw [get_set_eq hs] at ho
        simp at ho; exact hod ho.symm
      rw [get_set_ne hkl] at ho
      exact ⟨hk, hkl, o', ho, hod⟩
    · right
      have := (List.getElem?_eq_some_iff.1 ho).1
      simp at this; omega
  refine ⟨ν', ⟨?_, g.lt, ?_⟩, ⟨Nat.le_refl _, fun _ _ _ => rfl, fun _ _ h => h, fun _ _ h _ => h, ?_, evo, rfl, rfl⟩, hnew⟩
  · intro k o ho
    by_cases hk : k < σ.length
    · rw [List.getElem?_append_left (by omega)] at ho
      rw [hνo k hk]
      by_cases hkl : k = l
      · subst hkl
        rw [get_set_eq hs] at ho
        simp at ho; subst ho; exact .dead _
      · rw [get_set_ne hkl] at ho
        exact (g.ob k o ho).mono (fun b _ hm => ⟨hm, rfl⟩) evo fun b _ _ hm => ⟨hm, rfl⟩
    · have hk2 : k = σ.length := by
        have := (List.getElem?_eq_some_iff.1 ho).1
        simp at this; omega
      subst hk2
      rw [List.getElem?_append_right (by omega)] at ho
      simp at ho; subst ho
      rw [hnew]
      exact ob _ _ evo
  · intro k k' b h1 h2 e1 e2
    rcases hcase k h1 with ⟨hk, hkl, hlk⟩ | hk <;> rcases hcase k' h2 with ⟨hk', hkl', hlk'⟩ | hk'
    · rw [hνo k hk] at e1; rw [hνo k' hk'] at e2
      exact g.apart k k' b hlk hlk' e1 e2
    · rw [hνo k hk] at e1; subst hk'; rw [hnew] at e2
      exact absurd (g.apart k l b hlk hl e1 (hb b e2)) hkl
    · rw [hνo k' hk'] at e2; subst hk; rw [hnew] at e1
      exact absurd (g.apart k' l b hlk' hl e2 (hb b e1)) hkl'
    · omega
  · rintro b hb' ⟨k, hk, e'⟩
    rcases hcase k hk with ⟨h, hkl, hlk⟩ | h
    · rw [hνo k h] at e'; exact ⟨k, hlk, e'⟩
    · subst h; rw [hnew] at e'; exact ⟨l, hl, hb b e'⟩
theorem slca_rep {cs : List AV} {b o len : Nat} (h : Rep M R w (.rp cs) (.pointer (some ⟨b, o, none⟩))) (hl : len ≤ cs.length) (hone : (cs.take len).all AV.one = true) :
    Rep M R w (.sl 1 (cs.take len)) (.slice (some ⟨b, o, none⟩) len len) := by
  obtain ⟨b', o', f, e, hc⟩ := h.rp_inv
  simp at e; obtain ⟨rfl, rfl⟩ := e
  have hlen : (cs.take len).length = len := by simp; omega
  have hcells : ∀ i (hi : i < (cs.take len).length), ((cs.take len)[i]).cells = [cs[i]'(by omega)] := fun i hi => by
    have := AV.one_cells (List.all_eq_true.1 hone _ (List.getElem_mem hi))
    rw [this]; simp
  have := Rep.sl (M := M) (R := R) (w := w) 1 (cs.take len) b o len (fun i _ => f i) (by omega)
    (fun i j hi hj => by
      rw [hcells i hi] at hj
      simp at hj; subst hj
      refine ⟨by omega, ?_⟩
      have := hc.1 i (by omega)
      simpa using this)
    (fun i j hi hj => by
      have hj0 : j = 0 := by rw [hcells i hi] at hj; simpa using hj
      subst hj0
      simp only [hcells i hi, List.getElem_cons_zero]
      exact hc.2 i (by omega))
  rw [hlen] at this
  exact this
theorem appz_yields {t t2 ty e : TypeId} {sz n : Nat} {ag : Bool} {z : List AV} {k k2 : IntKind} (g : Good M σ ν w) (he : elemOf? P t = some (e, sz)) (hz : zcOf P e = some z)
    (hag : ag = false → sz = 1) (hone : z.all AV.one = true) (hzl : z.length = sz) (hap : appOK P e sz = true) (ht2 : P.underlying t2 = some (.int k2)) (h0 : 0 < n) (hc : n ≤ 4294967296) :
    Yields P (Builtin.append_ #[t, t2] ty #[.slice none 0 0, .int k n]) M σ ν w (.osl σ.length n) (σ ++ [.row sz (chunks sz ag n (repeatA z n))]) := by
  obtain ⟨hu, hsz, hpos⟩ := elemOf_inv he
  unfold appOK at hap
  cases hi : P.info? e with
  | none => simp [hi] at hap
  | some i =>
    cases hzv : i.zero with
    | none => simp [hi, hzv] at hap
    | some zv =>
      simp [hi, hzv] at hap
      have hcells : zv.cells.toList.map cval = z := by simpa [zcOf, hi, hzv] using hz
      have hfit : ¬ (281474976710656 < Builtin.nextslicecap n 0 * i.bytes) := by
        have : n * i.bytes ≤ 4294967296 * 32768 := Nat.mul_le_mul hc hap.1
        have := growslice_fits (need := n) (old := 0) (bytes := i.bytes) h0 (by omega)
        omega
      have hb2 : ¬ (281474976710656 < (n : Int) * (i.bytes : Int)) := by
        have : n * i.bytes ≤ 4294967296 * 32768 := Nat.mul_le_mul hc hap.1
        have h2 : ((n * i.bytes : Nat) : Int) ≤ 281474976710656 := by omega
        rw [Int.natCast_mul] at h2; omega
      have hw : IntKind.i64.wrap (n : Int) = n := by rw [IntKind.wrap_i64]; omega
      have hneg : ¬ ((n : Int) < 0) := by omega
      have hmax : ¬ (9223372036854775807 < (n : Int)) := by omega
      have hn0 : ¬ (n = 0) := by omega
      have hs0 : ¬ (sz = 0) := by omega
      have hge := grownCap_ge w n 0 e
      have hrun : (Builtin.append_ #[t, t2] ty #[.slice none 0 0, .int k n]).run P w = .ok (.slice (some ⟨w.heap.size, 0, none⟩) n (grownCap w n 0 e))
          ((w.drew).alloc (.cells (Builtin.zeroCells zv.cells n ++ Builtin.zeroCells zv.cells (grownCap w n 0 e - n)) e)) := by
        simp [Builtin.append_, run_under hu, run_size hsz, run_under ht2, asInt, asIntOf, hw, hneg, hb2, hn0, hmax, run_info hi, hfit, Question.forced, zeroValue, hzv, newRow, grownCap, Builtin.firstCells]
        intro h; exact absurd h (Nat.mul_ne_zero hn0 hs0)
      have hr : Reps M (RefOK σ ν) w z zv.cells.toList := by rw [← hcells]; exact cval_reps zv.cells.toList
      have hreps := repeat_reps hr n
      have hone2 : ∀ n, (repeatA z n).all AV.one = true := by
        intro n
        induction n with
        | zero => rfl
        | succ n ih => simp only [repeatA, List.all_append, hone, ih, Bool.and_self]
      have hel := chunks_elems hag n (repeatA z n) _ hreps (by rw [repeatA_length, hzl]) (hone2 n)
      have hg' : Good M σ ν w.drew := g.grow (Nat.le_refl _) fun _ _ => rfl
      have hl0 : Later M σ ν w M σ ν w.drew := .grow (Nat.le_refl _) fun _ _ => rfl
      have hlen : (chunks sz ag n (repeatA z n)).length = n := chunks_length _ _ _ _
      have hel2 : Elems M (RefOK σ ν) w.drew sz (chunks sz ag n (repeatA z n)) (Builtin.zeroCells zv.cells n ++ Builtin.zeroCells zv.cells (grownCap w n 0 e - n)).toList := by
        have := hel.more (zs := (Builtin.zeroCells zv.cells (grownCap w n 0 e - n)).toList) (by rw [hlen]; simp [hap.2])
        have h3 := Elems.mono (w := w) (M := M) (R := RefOK σ ν) (M' := M) (w' := w.drew) (R' := RefOK σ ν) (fun b _ hm => ⟨hm, rfl⟩) (fun _ _ h => h) this
        simpa [Builtin.zeroCells] using h3
      obtain ⟨M', ν', g', l', r'⟩ := hg'.newRow sz (chunks sz ag n (repeatA z n)) e _ (grownCap w n 0 e) (by omega)
        (by simp only [Array.size_append, size_zeroCells, hap.2]; rw [← Nat.add_mul]; apply Nat.mul_le_mul_right; omega) hel2
      rw [hlen] at r'
      exact ⟨_, _, M', ν', hrun, g', hl0.trans l', r'⟩
end
end Go.Ab
