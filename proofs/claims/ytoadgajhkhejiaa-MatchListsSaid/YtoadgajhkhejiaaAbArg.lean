/- What the readings of arguments come to as abstract values. No condition. -/
import Derived.Test.YtoadgajhkhejiaaAbLaw
import Derived.OpenShut
namespace Go.Ab
open Go Go.ChangeShapes Go.WideShapes
abbrev noM : Nat → Prop := fun _ => False
def Reads (P : Program) (t : TypeId) (f : Nat) (Q : List AV → Prop) : Prop :=
  ∀ (H : Type) (enc : TypeId × Value → H) (W : World) (cs : List Value) (x : DataW H × List MemPlace), DataW.trod enc P W 0 (fun _ => true) true f t cs = some x →
    ∃ xs, Reps noM noR W xs cs ∧ Q xs
section
variable {P : Program} {t : TypeId} {W : World}
theorem reps_nil : Reps noM noR W [] [] := ⟨rfl, fun j h => by simp at h⟩
theorem reps_one {x : AV} {v : Value} (h : Rep noM noR W x v) : Reps noM noR W [x] [v] :=
  ⟨rfl, fun j h1 h2 => by
    match j, h1, h2 with
    | 0, _, _ => exact h⟩
theorem reps_append {a b : List AV} {c d : List Value} (h : Reps noM noR W a c) (h' : Reps noM noR W b d) : Reps noM noR W (a ++ b) (c ++ d) := by
  refine ⟨by simp [h.1, h'.1], fun j h1 h2 => ?_⟩
  by_cases hj : j < a.length
  · rw [List.getElem_append_left hj, List.getElem_append_left (by have := h.1; omega)]
    exact h.2 j hj _
  · have e := h.1
    simp only [List.length_append] at h1 h2
    rw [List.getElem_append_right (by omega), List.getElem_append_right (by omega)]
    have := h'.2 (j - a.length) (by omega) (by omega)
    simpa [e] using this
theorem Reads.mono {f : Nat} {Q Q' : List AV → Prop} (h : Reads P t f Q) (hq : ∀ xs, Q xs → Q' xs) : Reads P t f Q' := by
  intro H enc W cs x hx
  obtain ⟨xs, h1, h2⟩ := h H enc W cs x hx
  exact ⟨xs, h1, hq _ h2⟩
theorem Reads.zero {Q : List AV → Prop} : Reads P t 0 Q := by
  intro H enc W cs x hx
  simp [DataW.trod] at hx
def QInt (k : IntKind) : List AV → Prop := fun xs => ∃ n, (Lit.int k n).wf = true ∧ xs = [.pl (.int k n)]
def QBool : List AV → Prop := fun xs => ∃ b, xs = [.pl (.bool b)]
def QText : List AV → Prop := fun xs => ∃ s : ByteArray, s.size ≤ maxLen ∧ xs = [.pl (.string s)]
theorem Reads.int {k : IntKind} (h : P.underlying t = some (.int k)) (f : Nat) : Reads P t f (QInt k) := by
  intro H enc W cs x hx
  obtain ⟨n, rfl, _, hw⟩ := DataW.trod_int h hx
  exact ⟨_, reps_one (.pl _), n, hw, rfl⟩
theorem Reads.bool (h : P.underlying t = some .bool) (f : Nat) : Reads P t f QBool := by
  intro H enc W cs x hx
  obtain ⟨n, rfl, _⟩ := DataW.trod_bool h hx
  exact ⟨_, reps_one (.pl _), n, rfl⟩
theorem Reads.text (h : P.underlying t = some .string) (f : Nat) : Reads P t f QText := by
  intro H enc W cs x hx
  obtain ⟨s, rfl, _, hs⟩ := DataW.trod_string h hx
  exact ⟨_, reps_one (.pl _), s, hs, rfl⟩
def QStr : List (List AV → Prop) → List AV → Prop
  | [], xs => xs = []
  | Q :: Qs, xs => ∃ a b, xs = a ++ b ∧ Q a ∧ QStr Qs b
def laidF (P : Program) : Nat → List Field → Option Nat
  | o, [] => some o
  | o, f :: fs => if f.offset = o then laidF P (o + P.cellsOf f.type) fs else none
theorem laidF_le : ∀ {l : List Field} {o E : Nat}, laidF P o l = some E → o ≤ E
  | [], o, E, h => by simp [laidF] at h; omega
  | f :: l, o, E, h => by
    simp only [laidF] at h
    split at h
    · have := laidF_le h; omega
    · simp at h
theorem drop_take_add {α : Type} (cs : List α) (o s E : Nat) (h : o + s ≤ E) : (cs.drop o).take (E - o) = (cs.drop o).take s ++ (cs.drop (o + s)).take (E - (o + s)) := by
  have : E - o = s + (E - (o + s)) := by omega
  rw [this, List.take_add, List.drop_drop]
theorem reads_fields {H : Type} {enc : TypeId × Value → H} {cs : List Value} {n : Nat} : ∀ (l : List Field) (Qs : List (List AV → Prop)) (o E : Nat), laidF P o l = some E → E ≤ cs.length → l.length = Qs.length →
    (∀ p ∈ l.zip Qs, Reads P p.1.type n p.2) → (∀ g ∈ l, ∃ y, DataW.trod enc P W 0 (fun _ => true) true n g.type ((cs.drop g.offset).take (P.cellsOf g.type)) = some y) →
    ∃ xs, Reps noM noR W xs ((cs.drop o).take (E - o)) ∧ QStr Qs xs
  | [], [], o, E, h, _, _, _, _ => by
    simp [laidF] at h
    subst h
    exact ⟨[], by simpa using reps_nil, rfl⟩
  | [], _ :: _, _, _, _, _, h, _, _ => by simp at h
  | _ :: _, [], _, _, _, _, h, _, _ => by simp at h
  | g :: l, Q :: Qs, o, E, h, hE, hl, hr, hg => by
    simp only [laidF] at h
    split at h
    · rename_i ho
      have hle := laidF_le h
      obtain ⟨y, hy⟩ := hg g List.mem_cons_self
      obtain ⟨a, ha, hQ⟩ := hr (g, Q) (by simp) H enc W _ _ hy
      obtain ⟨b, hb, hQs⟩ := reads_fields l Qs _ E h hE (by simpa using hl) (fun p hp => hr p (by simp [hp])) (fun g' hg' => hg g' (by simp [hg']))
      refine ⟨a ++ b, ?_, a, b, rfl, hQ, hQs⟩
      rw [drop_take_add cs o (P.cellsOf g.type) E hle]
      rw [ho] at ha
      exact reps_append ha hb
    · simp at h
theorem Reads.struct {fs : Array Field} {Qs : List (List AV → Prop)} {f : Nat} (h : P.underlying t = some (.struct fs)) (hl : laidF P 0 fs.toList = some (P.cellsOf t)) (hq : fs.toList.length = Qs.length)
    (hr : ∀ p ∈ fs.toList.zip Qs, Reads P p.1.type f p.2) : Reads P t (f + 1) (QStr Qs) := by
  intro H enc W cs x hx
  obtain ⟨xs, n, hn, _, hlen, hxl, hget⟩ := DataW.trod_struct h hx
  obtain rfl : f = n := by omega
  obtain ⟨ys, h1, h2⟩ := reads_fields (W := W) (enc := enc) (cs := cs) fs.toList Qs 0 (P.cellsOf t) hl (by omega) hq hr (fun g hg => by
    obtain ⟨i, hi, rfl⟩ := List.getElem_of_mem hg
    have hi' : i < fs.size := by simpa using hi
    have := hget i (fs[i]) (by simp [hi'])
    rw [List.getElem?_eq_getElem (by omega)] at this
    exact ⟨_, by simpa using this⟩)
  refine ⟨ys, ?_, h2⟩
  have : (cs.drop 0).take (P.cellsOf t - 0) = cs := by simp [← hlen]
  rwa [this] at h1
theorem Reads.array {n : Nat} {e : TypeId} {Q : List AV → Prop} {f : Nat} (h : P.underlying t = some (.array n e)) (hc : n * P.cellsOf e = P.cellsOf t) (hr : Reads P e f Q) : Reads P t (f + 1) (QStr (List.replicate n Q)) := by
  intro H enc W cs x hx
  obtain ⟨xs, m, hm, _, hlen, hxl, hget⟩ := DataW.trod_array h hx
  obtain rfl : f = m := by omega
  have key : ∀ k, k ≤ n → ∃ xs, Reps noM noR W xs ((cs.drop ((n - k) * P.cellsOf e)).take (n * P.cellsOf e - (n - k) * P.cellsOf e)) ∧ QStr (List.replicate k Q) xs := by
    intro k
    induction k with
    | zero => intro _; exact ⟨[], by simpa using reps_nil, rfl⟩
    | succ k ih =>
      intro hk
      obtain ⟨b, hb, hQb⟩ := ih (by omega)
      have h1 := hget (n - (k + 1)) (by omega)
      rw [List.getElem?_eq_getElem (by omega)] at h1
      obtain ⟨a, ha, hQa⟩ := hr H enc W _ _ h1
      refine ⟨a ++ b, ?_, a, b, rfl, hQa, hQb⟩
      have e1 : (n - (k + 1)) * P.cellsOf e + P.cellsOf e = (n - k) * P.cellsOf e := by
        have : n - k = (n - (k + 1)) + 1 := by omega
        rw [this, Nat.add_mul, Nat.one_mul]
      have e2 : (n - k) * P.cellsOf e ≤ n * P.cellsOf e := Nat.mul_le_mul_right _ (by omega)
      rw [drop_take_add cs ((n - (k + 1)) * P.cellsOf e) (P.cellsOf e) (n * P.cellsOf e) (by omega), e1]
      exact reps_append ha hb
  obtain ⟨ys, h1, h2⟩ := key n (Nat.le_refl _)
  refine ⟨ys, ?_, h2⟩
  have : (cs.drop ((n - n) * P.cellsOf e)).take (n * P.cellsOf e - (n - n) * P.cellsOf e) = cs := by simp [hc, ← hlen]
  rwa [this] at h1
def wrapC (ag : Bool) (y : List AV) : AV := if ag then .agg y else y.headD .any
def QSlice (sz : Nat) (ag : Bool) (Q : List AV → Prop) : List AV → Prop := fun xs =>
  xs = [.nils] ∨ ∃ ys : List (List AV), (∀ y ∈ ys, Q y) ∧ ys.length ≤ maxLen ∧ xs = [.sl sz (ys.map (wrapC ag))]
theorem Reads.slice {e : TypeId} {Q : List AV → Prop} {f sz : Nat} (ag : Bool) (h : P.underlying t = some (.slice e)) (hsz : P.cellsOf e = sz) (hpos : 0 < sz) (hr : Reads P e f Q)
    (hQ : ∀ y, Q y → y.length = sz → (wrapC ag y).cells = y) : Reads P t (f + 1) (QSlice sz ag Q) := by
  subst hsz
  intro H enc W cs x hx
  rcases DataW.trod_slice h hx with ⟨rfl, _⟩ | ⟨a, len, cap, elems, rest, n, hn, rfl, _, _, hlc, hcm, hel, hget, _, _⟩
  · exact ⟨[.nils], reps_one .nils, .inl rfl⟩
  · obtain rfl : f = n := by omega
    by_cases h0 : len = 0
    · subst h0
      exact ⟨[.sl _ []], reps_one (.sl0 _ _ _), .inr ⟨[], by simp, by simp, rfl⟩⟩
    have hcell : ∀ i, i < len → ∃ ci : List Value, ci.length = P.cellsOf e ∧ (∀ j, j < P.cellsOf e → W.cell? ((a.add (i * P.cellsOf e)).add j) = ci[j]?) ∧ ∃ y, Reps noM noR W y ci ∧ Q y := by
      intro i hi
      have h1 := hget i hi
      rw [List.getElem?_eq_getElem (by omega)] at h1
      obtain ⟨ci, h2, h3⟩ := Option.bind_eq_some_iff.1 h1
      obtain ⟨_, h4, h5⟩ := World.cells?_some h2
      obtain ⟨y, h6, h7⟩ := hr H enc W _ _ h3
      exact ⟨ci, h4, h5, y, h6, h7⟩
    have hspot : a.spot = none := by
      obtain ⟨ci, h4, h5, _⟩ := hcell 0 (by omega)
      have := h5 0 hpos
      rw [Nat.zero_mul] at this
      simp only [Addr.add, if_true] at this
      rw [List.getElem?_eq_getElem (by omega)] at this
      cases hs : a.spot with
      | none => rfl
      | some s =>
        exfalso
        simp only [World.cell?, hs, Option.isSome_some, if_true] at this
        split at this <;> simp at this
    obtain ⟨b, o, sp⟩ := a
    simp only at hspot
    subst hspot
    have hadd : ∀ k j, ((⟨b, o, none⟩ : Addr).add k).add j = ⟨b, o + (k + j), none⟩ := by
      intro k j
      unfold Addr.add
      split <;> split <;> simp_all <;> omega
    let g : Nat → List AV := fun i => if hi : i < len then Classical.choose (Classical.choose_spec (hcell i hi)).2.2 else []
    have hg : ∀ i (hi : i < len), Reps noM noR W (g i) (Classical.choose (hcell i hi)) ∧ Q (g i) := by
      intro i hi
      simp only [g, dif_pos hi]
      exact Classical.choose_spec (Classical.choose_spec (hcell i hi)).2.2
    have hc : ∀ i (hi : i < len), (Classical.choose (hcell i hi)).length = P.cellsOf e ∧ ∀ j, j < P.cellsOf e → W.cell? ⟨b, o + (i * P.cellsOf e + j), none⟩ = (Classical.choose (hcell i hi))[j]? := by
      intro i hi
      have := Classical.choose_spec (hcell i hi)
      exact ⟨this.1, fun j hj => by rw [← hadd]; exact this.2.1 j hj⟩
    have hw : ∀ i (hi : i < len), (wrapC ag (g i)).cells = g i := fun i hi => hQ _ (hg i hi).2 (by rw [(hg i hi).1.1, (hc i hi).1])
    refine ⟨[.sl (P.cellsOf e) (((List.range len).map g).map (wrapC ag))], reps_one ?_, .inr ⟨(List.range len).map g, ?_, by simp; omega, rfl⟩⟩
    · have hl : (((List.range len).map g).map (wrapC ag)).length = len := by simp
      have hi' : ∀ i (hi : i < (((List.range len).map g).map (wrapC ag)).length), (((List.range len).map g).map (wrapC ag))[i] = wrapC ag (g i) := by intro i hi; simp
      have := Rep.sl (M := noM) (R := noR) (w := W) (P.cellsOf e) (((List.range len).map g).map (wrapC ag)) b o cap (fun i j => (W.cell? ⟨b, o + (i * P.cellsOf e + j), none⟩).getD .nilFunc) (by rw [hl]; exact hlc)
        (fun i j hi hj => by
          have hi2 : i < len := by rw [hl] at hi; exact hi
          rw [hi', hw i hi2, (hg i hi2).1.1, (hc i hi2).1] at hj
          refine ⟨hj, id, ?_⟩
          rw [(hc i hi2).2 j hj, List.getElem?_eq_getElem (by rw [(hc i hi2).1]; exact hj)]
          rfl)
        (fun i j hi hj => by
          have hi2 : i < len := by rw [hl] at hi; exact hi
          have hj2 : j < P.cellsOf e := by rw [hi', hw i hi2, (hg i hi2).1.1, (hc i hi2).1] at hj; exact hj
          have h1 := (hg i hi2).1.2 j (by rw [(hg i hi2).1.1, (hc i hi2).1]; exact hj2) (by rw [(hc i hi2).1]; exact hj2)
          simp only [(hc i hi2).2 j hj2, List.getElem?_eq_getElem (show j < (Classical.choose (hcell i hi2)).length by rw [(hc i hi2).1]; exact hj2), Option.getD_some]
          have e1 : ((((List.range len).map g).map (wrapC ag))[i]).cells = g i := by rw [hi', hw i hi2]
          simp only [e1]
          exact h1)
      rw [hl] at this
      exact this
    · intro y hy
      simp only [List.mem_map, List.mem_range] at hy
      obtain ⟨i, hi, rfl⟩ := hy
      exact (hg i hi).2
theorem Reads.arg {Q : List AV → Prop} {H : Type} {enc : TypeId × Value → H} {v : Value} {d : DataW H} {ps : List MemPlace} (hr : ∀ f, Reads P t f Q) (hv : v.cells.toList = [v]) (h : DataW.Trod enc P W 0 (fun _ => true) true t v d ps) :
    ∃ x, Rep noM noR W x v ∧ Q [x] := by
  obtain ⟨f, hf⟩ := h
  rw [hv] at hf
  obtain ⟨xs, h1, h2⟩ := hr f H enc W _ _ hf
  match xs, h1 with
  | [x], h1 => exact ⟨x, h1.2 0 (by simp) (by simp), h2⟩
  | [], h1 => exact absurd h1.1 (by simp)
  | _ :: _ :: _, h1 => exact absurd h1.1 (by simp)
end
end Go.Ab
