/- The base of an abstract layer over the model: values without addresses (slices as lists), a store of the few objects that a call may still write, and what it means that they stand for concrete values in a world. No condition. -/
import Derived.Orders
import Derived.Laws.Cells
import Derived.Laws.Rows
import Derived.KernelRfl
namespace Go.Ab
open Go
inductive AV where
  | any
  | pl (v : Value)
  | nils
  | sl (sz : Nat) (xs : List AV)
  | rp (cs : List AV)
  | ptr (l off : Nat)
  | osl (l n : Nat)
  | ep (l n i off : Nat)
  | psl (l off n : Nat)
  | zsl
  | win (sz l n lo : Nat)
  | agg (cs : List AV)
  | tup (vs : List AV)
  | fn (f : FuncId) (fs cs : List AV)
instance : Inhabited AV := ⟨.any⟩
def AV.cells : AV → List AV
  | .agg cs => cs
  | v => [v]
inductive Ob where
  | dead
  | box (cs : List AV)
  | row (sz : Nat) (xs : List AV)
  | glo (g : Nat) (vs : List Value)
abbrev St := List Ob
inductive Ref where
  | p (l : Nat)
  | s (l n : Nat)
  | e (l n i : Nat)
inductive Rep (M : Nat → Prop) (R : Ref → Value → Prop) (w : World) : AV → Value → Prop
  | any (v : Value) : Rep M R w .any v
  | pl (v : Value) : Rep M R w (.pl v) v
  | nils : Rep M R w .nils (.slice none 0 0)
  | sl0 (sz : Nat) (a : Option Addr) (cap : Nat) : Rep M R w (.sl sz []) (.slice a 0 cap)
  | sl (sz : Nat) (xs : List AV) (b o cap : Nat) (f : Nat → Nat → Value) (hcap : xs.length ≤ cap)
      (hc : ∀ i j (hi : i < xs.length), j < (xs[i]).cells.length → j < sz ∧ ¬ M b ∧ w.cell? ⟨b, o + (i * sz + j), none⟩ = some (f i j))
      (hr : ∀ i j (hi : i < xs.length) (hj : j < (xs[i]).cells.length), Rep M R w ((xs[i]).cells[j]) (f i j)) :
      Rep M R w (.sl sz xs) (.slice (some ⟨b, o, none⟩) xs.length cap)
  | rp (cs : List AV) (b o : Nat) (f : Nat → Value)
      (hc : ∀ j, j < cs.length → ¬ M b ∧ w.cell? ⟨b, o + j, none⟩ = some (f j))
      (hr : ∀ j (hj : j < cs.length), Rep M R w (cs[j]) (f j)) :
      Rep M R w (.rp cs) (.pointer (some ⟨b, o, none⟩))
  | ptr (l off b o : Nat) (h : R (.p l) (.pointer (some ⟨b, o, none⟩))) : Rep M R w (.ptr l off) (.pointer (some ⟨b, o + off, none⟩))
  | osl (l n : Nat) (a : Option Addr) (len cap : Nat) (h : R (.s l n) (.slice a len cap)) : Rep M R w (.osl l n) (.slice a len cap)
  | ep (l n i off b o : Nat) (h : R (.e l n i) (.pointer (some ⟨b, o, none⟩))) : Rep M R w (.ep l n i off) (.pointer (some ⟨b, o + off, none⟩))
  | psl (l off n b o : Nat) (h : R (.p l) (.pointer (some ⟨b, o, none⟩))) : Rep M R w (.psl l off n) (.slice (some ⟨b, o + off, none⟩) n n)
  | zsl (a : Option Addr) : Rep M R w .zsl (.slice a 0 0)
  | win (sz l n lo b o cap : Nat) (hl : lo < n) (h : R (.s l n) (.slice (some ⟨b, o, none⟩) n cap)) : Rep M R w (.win sz l n lo) (.slice (some ⟨b, o + lo * sz, none⟩) (n - lo) (cap - lo))
  | agg (cs : List AV) (vs : List Value) (hl : cs.length = vs.length)
      (hr : ∀ j (hj : j < cs.length) (hj' : j < vs.length), Rep M R w (cs[j]) (vs[j])) : Rep M R w (.agg cs) (.agg vs.toArray)
  | tup (cs : List AV) (vs : List Value) (hl : cs.length = vs.length)
      (hr : ∀ j (hj : j < cs.length) (hj' : j < vs.length), Rep M R w (cs[j]) (vs[j])) : Rep M R w (.tup cs) (.tuple vs.toArray)
  | fn (g : FuncId) (fs cs : List AV) (us vs : List Value) (hl : fs.length = us.length) (hl' : cs.length = vs.length)
      (hr : ∀ j (hj : j < fs.length) (hj' : j < us.length), Rep M R w (fs[j]) (us[j]))
      (hr' : ∀ j (hj : j < cs.length) (hj' : j < vs.length), Rep M R w (cs[j]) (vs[j])) : Rep M R w (.fn g fs cs) (.func (.func g) us.toArray vs.toArray)
def Reps (M : Nat → Prop) (R : Ref → Value → Prop) (w : World) (cs : List AV) (vs : List Value) : Prop :=
  cs.length = vs.length ∧ ∀ j (hj : j < cs.length) (hj' : j < vs.length), Rep M R w (cs[j]) (vs[j])
section
variable {M M' : Nat → Prop} {R R' : Ref → Value → Prop} {w w' : World}
theorem cell_keep {b o : Nat} {v : Value} (h : w.cell? ⟨b, o, none⟩ = some v) (hk : b < w.heap.size → w'.heap[b]? = w.heap[b]?) :
    w'.cell? ⟨b, o, none⟩ = some v := by
  have hb := block_lt_of_cell h
  have := hk hb
  unfold World.cell? at *
  simp only [this]
  exact h
theorem lt_of_cell {b o : Nat} {v : Value} (h : w.cell? ⟨b, o, none⟩ = some v) : b < w.heap.size := block_lt_of_cell h
theorem Rep.mono (h1 : ∀ b, b < w.heap.size → ¬ M b → ¬ M' b ∧ w'.heap[b]? = w.heap[b]?) (h2 : ∀ r v, R r v → R' r v) {a : AV} {v : Value}
    (h : Rep M R w a v) : Rep M' R' w' a v := by
  induction h with
  | any v => exact .any v
  | pl v => exact .pl v
  | nils => exact .nils
  | sl0 sz a cap => exact .sl0 sz a cap
  | sl sz xs b o cap f hcap hc _ ih =>
    refine .sl sz xs b o cap f hcap (fun i j hi hj => ?_) (fun i j hi hj => ih i j hi hj)
    obtain ⟨a1, a2, a3⟩ := hc i j hi hj
    have hb := h1 b (lt_of_cell a3) a2
    exact ⟨a1, hb.1, cell_keep a3 fun _ => hb.2⟩
  | rp cs b o f hc _ ih =>
    refine .rp cs b o f (fun j hj => ?_) (fun j hj => ih j hj)
    obtain ⟨a2, a3⟩ := hc j hj
    have hb := h1 b (lt_of_cell a3) a2
    exact ⟨hb.1, cell_keep a3 fun _ => hb.2⟩
  | ptr l off b o h => exact .ptr l off b o (h2 _ _ h)
  | osl l n a len cap h => exact .osl l n a len cap (h2 _ _ h)
  | ep l n i off b o h => exact .ep l n i off b o (h2 _ _ h)
  | psl l off n b o h => exact .psl l off n b o (h2 _ _ h)
  | zsl a => exact .zsl a
  | win sz l n lo b o cap hl h => exact .win sz l n lo b o cap hl (h2 _ _ h)
  | agg cs vs hl _ ih => exact .agg cs vs hl ih
  | tup cs vs hl _ ih => exact .tup cs vs hl ih
  | fn g fs cs us vs hl hl' _ _ ih ih' => exact .fn g fs cs us vs hl hl' ih ih'
theorem Reps.mono (h1 : ∀ b, b < w.heap.size → ¬ M b → ¬ M' b ∧ w'.heap[b]? = w.heap[b]?) (h2 : ∀ r v, R r v → R' r v) {a : List AV} {v : List Value}
    (h : Reps M R w a v) : Reps M' R' w' a v := ⟨h.1, fun j hj hj' => (h.2 j hj hj').mono h1 h2⟩
theorem Reps.nil : Reps M R w [] [] := ⟨rfl, fun j hj => by simp at hj⟩
theorem Reps.cons {a : AV} {v : Value} {as : List AV} {vs : List Value} (h : Rep M R w a v) (hs : Reps M R w as vs) : Reps M R w (a :: as) (v :: vs) := by
  refine ⟨by simp [hs.1], fun j hj hj' => ?_⟩
  cases j with
  | zero => exact h
  | succ j => exact hs.2 j (by simpa using hj) (by simpa using hj')
theorem Reps.head {a : AV} {v : Value} {as : List AV} {vs : List Value} (h : Reps M R w (a :: as) (v :: vs)) : Rep M R w a v := h.2 0 (by simp) (by simp)
theorem Reps.tail {a : AV} {v : Value} {as : List AV} {vs : List Value} (h : Reps M R w (a :: as) (v :: vs)) : Reps M R w as vs :=
  ⟨by simpa using h.1, fun j hj hj' => h.2 (j + 1) (by simpa using hj) (by simpa using hj')⟩
theorem Reps.append {a b : List AV} {u v : List Value} (h : Reps M R w a u) (h' : Reps M R w b v) : Reps M R w (a ++ b) (u ++ v) := by
  refine ⟨by simp [h.1, h'.1], fun j hj hj' => ?_⟩
  by_cases hja : j < a.length
  · have hju : j < u.length := by rw [← h.1]; exact hja
    rw [List.getElem_append_left hja, List.getElem_append_left hju]
    exact h.2 j hja hju
  · have hju : ¬ j < u.length := by rw [← h.1]; exact hja
    rw [List.getElem_append_right (Nat.le_of_not_lt hja), List.getElem_append_right (Nat.le_of_not_lt hju)]
    have hl := h.1
    simp only [hl]
    exact h'.2 _ _ _
theorem Reps.take {a : List AV} {u : List Value} (n : Nat) (h : Reps M R w a u) : Reps M R w (a.take n) (u.take n) := by
  refine ⟨by simp [h.1], fun j hj hj' => ?_⟩
  simp only [List.getElem_take]
  exact h.2 j _ _
theorem Reps.drop {a : List AV} {u : List Value} (n : Nat) (h : Reps M R w a u) : Reps M R w (a.drop n) (u.drop n) := by
  refine ⟨by simp [h.1], fun j hj hj' => ?_⟩
  simp only [List.getElem_drop]
  exact h.2 _ _ _
theorem Reps.get {a : List AV} {u : List Value} (h : Reps M R w a u) {j : Nat} {x : AV} (hx : a[j]? = some x) : ∃ v, u[j]? = some v ∧ Rep M R w x v := by
  obtain ⟨hj, rfl⟩ := List.getElem?_eq_some_iff.1 hx
  have hj' : j < u.length := by rw [← h.1]; exact hj
  exact ⟨u[j], by simp [hj'], h.2 j hj hj'⟩
theorem Rep.agg_inv {cs : List AV} {v : Value} (h : Rep M R w (.agg cs) v) : ∃ vs : List Value, v = .agg vs.toArray ∧ Reps M R w cs vs := by
  cases h with
  | agg cs vs hl hr => exact ⟨vs, rfl, hl, hr⟩
theorem Rep.tup_inv {cs : List AV} {v : Value} (h : Rep M R w (.tup cs) v) : ∃ vs : List Value, v = .tuple vs.toArray ∧ Reps M R w cs vs := by
  cases h with
  | tup cs vs hl hr => exact ⟨vs, rfl, hl, hr⟩
theorem Rep.pl_inv {u v : Value} (h : Rep M R w (.pl u) v) : v = u := by cases h; rfl
theorem Rep.of_agg {cs : List AV} {vs : List Value} (h : Reps M R w cs vs) : Rep M R w (.agg cs) (.agg vs.toArray) := .agg cs vs h.1 h.2
theorem Rep.of_tup {cs : List AV} {vs : List Value} (h : Reps M R w cs vs) : Rep M R w (.tup cs) (.tuple vs.toArray) := .tup cs vs h.1 h.2
end
def RefOK (σ : St) (ν : Nat → Value) : Ref → Value → Prop
  | .p l, v => match σ[l]? with
    | some (.box _) => v = ν l
    | some .dead => True
    | _ => False
  | .s l n, v => match σ[l]? with
    | some (.row _ xs) => n ≤ xs.length ∧ (n = xs.length → v = ν l)
    | some .dead => True
    | _ => False
  | .e l n i, v => match σ[l]? with
    | some (.row sz xs) => n ≤ xs.length ∧ (n = xs.length → ∃ b o len cap, ν l = .slice (some ⟨b, o, none⟩) len cap ∧ v = .pointer (some ⟨b, o + i * sz, none⟩))
    | some .dead => True
    | _ => False
inductive ObOK (M : Nat → Prop) (R : Ref → Value → Prop) (w : World) : Ob → Value → Prop
  | dead (v : Value) : ObOK M R w .dead v
  | box (cs : List AV) (b o : Nat) (c : Array Value) (e : TypeId) (fr : Nat × Nat) (hM : M b) (hh : w.heap[b]? = some (.cells c e fr))
      (hs : o + cs.length ≤ c.size) (hf : ∀ j, j < cs.length → ¬ (fr.1 ≤ o + j ∧ o + j < fr.2))
      (hr : ∀ j (hj : j < cs.length) v, c[o + j]? = some v → Rep M R w (cs[j]) v) : ObOK M R w (.box cs) (.pointer (some ⟨b, o, none⟩))
  | glo (g : Nat) (vs : List Value) (v : Value) (hv2 : ∀ a n c, v ≠ .slice a n c) (hv3 : ∀ a, v ≠ .pointer a)
      (hc : ∀ j u, vs[j]? = some u → ¬ M g ∧ w.cell? ⟨g, j, none⟩ = some u) : ObOK M R w (.glo g vs) v
  | row0 (sz : Nat) : ObOK M R w (.row sz []) (.slice none 0 0)
  | row (sz : Nat) (xs : List AV) (b o cap : Nat) (c : Array Value) (e : TypeId) (fr : Nat × Nat) (hM : M b) (hh : w.heap[b]? = some (.cells c e fr))
      (hl : xs.length ≤ cap) (hs : o + cap * sz ≤ c.size) (hf : ∀ j, j < cap * sz → ¬ (fr.1 ≤ o + j ∧ o + j < fr.2))
      (hr : ∀ i j (hi : i < xs.length) (hj : j < (xs[i]).cells.length), j < sz ∧ ∀ v, c[o + (i * sz + j)]? = some v → Rep M R w ((xs[i]).cells[j]) v) :
      ObOK M R w (.row sz xs) (.slice (some ⟨b, o, none⟩) xs.length cap)
def blk : Value → Option Nat
  | .pointer (some a) => some a.block
  | .slice (some a) _ _ => some a.block
  | _ => none
def live (σ : St) (l : Nat) : Prop := ∃ o, σ[l]? = some o ∧ o ≠ .dead
def Own (σ : St) (ν : Nat → Value) (b : Nat) : Prop := ∃ l, live σ l ∧ blk (ν l) = some b
structure Good (M : Nat → Prop) (σ : St) (ν : Nat → Value) (w : World) : Prop where
  ob : ∀ l o, σ[l]? = some o → ObOK M (RefOK σ ν) w o (ν l)
  lt : ∀ b, M b → b < w.heap.size
  apart : ∀ l l' b, live σ l → live σ l' → blk (ν l) = some b → blk (ν l') = some b → l = l'
structure Later (M : Nat → Prop) (σ : St) (ν : Nat → Value) (w : World) (M' : Nat → Prop) (σ' : St) (ν' : Nat → Value) (w' : World) : Prop where
  size : w.heap.size ≤ w'.heap.size
  keep : ∀ b, b < w.heap.size → ¬ Own σ ν b → w'.heap[b]? = w.heap[b]?
  mute : ∀ b, b < w.heap.size → M' b → M b
  outer : ∀ b, b < w.heap.size → M b → ¬ Own σ ν b → M' b
  own : ∀ b, b < w.heap.size → Own σ' ν' b → Own σ ν b
  evo : ∀ r v, RefOK σ ν r v → RefOK σ' ν' r v
  out : w'.os = w.os ∧ w'.output = w.output := by exact ⟨rfl, rfl⟩
section
variable {M M' M'' : Nat → Prop} {σ σ' σ'' : St} {ν ν' ν'' : Nat → Value} {w w' w'' : World}
theorem Later.refl : Later M σ ν w M σ ν w := ⟨Nat.le_refl _, fun _ _ _ => rfl, fun _ _ h => h, fun _ _ h _ => h, fun _ _ h => h, fun _ _ h => h, rfl, rfl⟩
theorem Later.trans (h : Later M σ ν w M' σ' ν' w') (h' : Later M' σ' ν' w' M'' σ'' ν'' w'') : Later M σ ν w M'' σ'' ν'' w'' where
  size := Nat.le_trans h.size h'.size
  keep b hb ho := by
    have ho' : ¬ Own σ' ν' b := fun x => ho (h.own b hb x)
    rw [h'.keep b (Nat.lt_of_lt_of_le hb h.size) ho', h.keep b hb ho]
  mute b hb x := h.mute b hb (h'.mute b (Nat.lt_of_lt_of_le hb h.size) x)
  outer b hb x ho := h'.outer b (Nat.lt_of_lt_of_le hb h.size) (h.outer b hb x ho) fun y => ho (h.own b hb y)
  own b hb x := h.own b hb (h'.own b (Nat.lt_of_lt_of_le hb h.size) x)
  evo r v x := h'.evo r v (h.evo r v x)
  out := ⟨h'.out.1.trans h.out.1, h'.out.2.trans h.out.2⟩
theorem blk_none {v : Value} (hv2 : ∀ a n c, v ≠ .slice a n c) (hv3 : ∀ a, v ≠ .pointer a) : blk v = none := by
  cases v <;> first | rfl | (exact absurd rfl (hv2 _ _ _)) | (exact absurd rfl (hv3 _))
theorem ObOK.inM {R : Ref → Value → Prop} {o : Ob} {v : Value} (h : ObOK M R w o v) (hd : o ≠ .dead) {b : Nat} (hb : blk v = some b) : M b := by
  cases h with
  | dead => exact absurd rfl hd
  | glo g vs v hv2 hv3 hc => rw [blk_none hv2 hv3] at hb; cases hb
  | box cs b o c e fr hM => simp [blk] at hb; exact hb ▸ hM
  | row0 => simp [blk] at hb
  | row sz xs b o cap c e fr hM => simp [blk] at hb; exact hb ▸ hM
theorem Good.M_of_own (g : Good M σ ν w) {b : Nat} (h : Own σ ν b) : M b := by
  obtain ⟨l, ⟨o, ho, hd⟩, hb⟩ := h
  exact (g.ob l o ho).inM hd hb
theorem Later.sealed (g : Good M σ ν w) (h : Later M σ ν w M' σ' ν' w') : ∀ b, b < w.heap.size → ¬ M b → ¬ M' b ∧ w'.heap[b]? = w.heap[b]? :=
  fun b hb hm => ⟨fun x => hm (h.mute b hb x), h.keep b hb fun x => hm (g.M_of_own x)⟩
theorem Later.rep (g : Good M σ ν w) (h : Later M σ ν w M' σ' ν' w') {a : AV} {v : Value} (hr : Rep M (RefOK σ ν) w a v) : Rep M' (RefOK σ' ν') w' a v :=
  hr.mono (h.sealed g) h.evo
theorem Later.reps (g : Good M σ ν w) (h : Later M σ ν w M' σ' ν' w') {a : List AV} {v : List Value} (hr : Reps M (RefOK σ ν) w a v) : Reps M' (RefOK σ' ν') w' a v :=
  hr.mono (h.sealed g) h.evo
theorem ObOK.mono {R R' : Ref → Value → Prop} {o : Ob} {v : Value} (h : ObOK M R w o v)
    (h1 : ∀ b, b < w.heap.size → ¬ M b → ¬ M' b ∧ w'.heap[b]? = w.heap[b]?) (h2 : ∀ r v, R r v → R' r v)
    (hb : ∀ b, blk v = some b → o ≠ .dead → M b → M' b ∧ w'.heap[b]? = w.heap[b]?) : ObOK M' R' w' o v := by
  cases h with
  | dead => exact .dead _
  | glo g vs v hv2 hv3 hc =>
    refine .glo g vs v hv2 hv3 fun j u hj => ?_
    obtain ⟨a2, a3⟩ := hc j u hj
    have hb := h1 g (lt_of_cell a3) a2
    exact ⟨hb.1, cell_keep a3 fun _ => hb.2⟩
  | box cs b o c e fr hM hh hs hf hr =>
    obtain ⟨x, y⟩ := hb b rfl (by simp) hM
    exact .box cs b o c e fr x (y.trans hh) hs hf fun j hj v hv => (hr j hj v hv).mono h1 h2
  | row0 => exact .row0 _
  | row sz xs b o cap c e fr hM hh hl hs hf hr =>
    obtain ⟨x, y⟩ := hb b rfl (by simp) hM
    exact .row sz xs b o cap c e fr x (y.trans hh) hl hs hf fun i j hi hj => ⟨(hr i j hi hj).1, fun v hv => ((hr i j hi hj).2 v hv).mono h1 h2⟩
theorem ObOK.lt {R : Ref → Value → Prop} {o : Ob} {v : Value} (h : ObOK M R w o v) (hd : o ≠ .dead) {b : Nat} (hb : blk v = some b) : b < w.heap.size := by
  cases h with
  | dead => exact absurd rfl hd
  | glo g vs v hv2 hv3 hc => rw [blk_none hv2 hv3] at hb; cases hb
  | box cs b' o c e fr hM hh => simp [blk] at hb; subst hb; exact (Array.getElem?_eq_some_iff.1 hh).1
  | row0 => simp [blk] at hb
  | row sz xs b' o cap c e fr hM hh => simp [blk] at hb; subst hb; exact (Array.getElem?_eq_some_iff.1 hh).1
theorem Good.grow (g : Good M σ ν w) (hs : w.heap.size ≤ w'.heap.size) (hk : ∀ b, b < w.heap.size → w'.heap[b]? = w.heap[b]?) : Good M σ ν w' where
  ob l o ho := (g.ob l o ho).mono (fun b hb hm => ⟨hm, hk b hb⟩) (fun _ _ h => h) fun b hb hd hm => ⟨hm, hk b ((g.ob l o ho).lt hd hb)⟩
  lt b hb := Nat.lt_of_lt_of_le (g.lt b hb) hs
  apart := g.apart
theorem Good.own_lt (g : Good M σ ν w) {b : Nat} (h : Own σ ν b) : b < w.heap.size := by
  obtain ⟨l, ⟨o, ho, hd⟩, hb⟩ := h
  exact (g.ob l o ho).lt hd hb
theorem Later.grow (hs : w.heap.size ≤ w'.heap.size) (hk : ∀ b, b < w.heap.size → w'.heap[b]? = w.heap[b]?) (out : w'.os = w.os ∧ w'.output = w.output := by exact ⟨rfl, rfl⟩) : Later M σ ν w M σ ν w' :=
  ⟨hs, fun b hb _ => hk b hb, fun _ _ h => h, fun _ _ h _ => h, fun _ _ h => h, fun _ _ h => h, out⟩
end
end Go.Ab
