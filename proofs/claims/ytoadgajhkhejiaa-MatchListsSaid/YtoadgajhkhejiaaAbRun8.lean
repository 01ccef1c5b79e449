/- Conversions between strings and bytes, and new slices of noughts, over abstract values. No condition. -/
import Derived.Test.YtoadgajhkhejiaaAbComp
import Derived.Lib.ConvBytes
import Derived.Laws.BytesString
import Derived.Laws.MakeOwn
set_option linter.unusedSimpArgs false
namespace Go.Ab
open Go Go.Lib
section
variable {P : Program} {M M' : Nat → Prop} {σ σ' : St} {ν ν' : Nat → Value} {w w' : World} {R : Ref → Value → Prop}
theorem s2b_yields {src dst e : TypeId} (s : ByteArray) (g : Good M σ ν w) (hs : P.underlying src = some .string) (hd : P.underlying dst = some (.slice e)) (he : P.underlying e = some (.int .u8)) :
    Yields P (convert src dst (.string s)) M σ ν w (.sl 1 (bytesA s)) σ := by
  have hsz : w.heap.size ≤ (bytesWorld w e s).heap.size := by rw [bytesWorld_size]; omega
  have hk : ∀ b, b < w.heap.size → (bytesWorld w e s).heap[b]? = w.heap[b]? := fun b hb => bytesWorld_at_old w e s b hb
  have hout : (bytesWorld w e s).os = w.os ∧ (bytesWorld w e s).output = w.output := by
    unfold bytesWorld World.freeze
    rw [if_neg (by decide)]
    exact ⟨rfl, rfl⟩
  refine ⟨_, bytesWorld w e s, M, ν, run_convert_string_bytes w src dst e s hs hd he, g.grow hsz hk, .grow hsz hk hout, ?_⟩
  have hlen : (bytesA s).length = s.size := by simp [bytesA]
  have hb : ∀ i (hi : i < (bytesA s).length), (bytesA s)[i] = .pl (.int .u8 ((s.data.toList.getD i 0).toNat)) := by
    intro i hi
    have hi2 : i < s.data.toList.length := by simpa [bytesA] using hi
    simp [bytesA, List.getD, List.getElem?_eq_getElem hi2]
  have := Rep.sl (M := M) (R := RefOK σ ν) (w := bytesWorld w e s) 1 (bytesA s) w.heap.size 0 (grownCap w s.size 0 e) (fun i _ => .int .u8 ((s.data.toList.getD i 0).toNat))
    (by rw [hlen]; exact grownCap_ge w s.size 0 e)
    (fun i j hi hj => by
      rw [hb i hi] at hj
      simp [AV.cells] at hj
      subst hj
      refine ⟨by omega, fun h => absurd (g.lt _ h) (Nat.lt_irrefl _), ?_⟩
      have := bytesWorld_cell w e s i (by omega)
      simpa using this)
    (fun i j hi hj => by
      have hj0 : j = 0 := by rw [hb i hi] at hj; simpa [AV.cells] using hj
      subst hj0
      simp only [hb i hi, AV.cells, List.getElem_cons_zero]
      exact .pl _)
  rw [hlen] at this
  exact this
theorem byteL_map : ∀ {ys : List AV} {ns : List Int}, byteL ys = some ns → ys = ns.map fun n => .pl (.int .u8 n)
  | [], ns, h => by simp [byteL] at h; subst h; rfl
  | y :: ys, ns, h => by
    unfold byteL at h
    split at h
    · rename_i h'; cases h'
    · rename_i n r h'
      simp only [List.cons.injEq] at h'
      obtain ⟨rfl, rfl⟩ := h'
      obtain ⟨ms, hm, rfl⟩ := opt_map_some h
      rw [byteL_map hm]; rfl
    · cases h
theorem textOf_push : ∀ (ns : List Int) (s : ByteArray), ns.foldl (fun r n => r.push (UInt8.ofNat n.toNat)) s = ⟨s.data ++ (ns.map fun n => UInt8.ofNat n.toNat).toArray⟩
  | [], s => by simp
  | n :: ns, s => by
    rw [List.foldl_cons, textOf_push ns]
    congr 1
    apply Array.ext'
    simp [ByteArray.push]
theorem b2s_same {src dst e : TypeId} {y : AV} {ys : List AV} {ns : List Int} {x : Value} (g : Good M σ ν w) (hs : P.underlying src = some (.slice e)) (hd : P.underlying dst = some .string) (he : P.underlying e = some (.int .u8))
    (h : srcA σ 1 y = some ys) (hb : byteL ys = some ns) (hr : Rep M (RefOK σ ν) w y x) (hx : ∃ a l c, x = .slice a l c) : (convert src dst x).run P w = .ok (.string (textOf ns)) w := by
  have hk := srcA_ok (P := P) g h hr
  obtain ⟨a, l, c, rfl⟩ := hx
  obtain ⟨vs, hvl, hel, _, hfc⟩ := hk.cells
  have hl : l = ys.length := by
    have := hk.len w
    simp [Builtin.lenOf] at this
    omega
  have hys := byteL_map hb
  have hnl : ys.length = ns.length := by rw [hys]; simp
  have hvs : vs = ns.map (Value.int .u8) := by
    apply List.ext_getElem
    · rw [hvl, hnl]; simp
    · intro i h1 h2
      have hi : i < ys.length := by rw [hvl] at h1; omega
      have hin : i < ns.length := by omega
      have e1 : ys[i] = .pl (.int .u8 ns[i]) := by simp [hys]
      have := (hel i 0 hi (by rw [e1]; simp [AV.cells])).2 vs[i] (by simp [h1])
      simp only [e1, AV.cells, List.getElem_cons_zero] at this
      rw [this.pl_inv]; simp
  cases a with
  | none =>
    have hz : ns = [] := by
      have := hfc w rfl
      simp [Builtin.firstCells] at this
      subst this
      simpa using hvs.symm
    subst hz
    simp only [convert, Sem.run_bind, run_under hs, run_under hd, run_under he, Result.andThen]
    rfl
  | some a =>
    have hload : (loadCells a l).run P w = .ok (ns.map (Value.int .u8)).toArray w := by
      have := hfc w rfl
      simp only [Builtin.firstCells, Nat.mul_one] at this
      rw [hl, ← hvs]; exact this
    have := run_bytesToString (P := P) w a l c ns hload
    simp only [convert, Sem.run_bind, run_under hs, run_under hd, run_under he, Result.andThen]
    rw [this, textOf_push]
    simp [textOf]
theorem make_yields {t e : TypeId} {sz : Nat} {ag : Bool} {z : List AV} {kl kc : IntKind} {l c : Nat} (g : Good M σ ν w) (he : elemOf? P t = some (e, sz)) (hz : zcOf P e = some z)
    (hag : ag = false → sz = 1) (hone : z.all AV.one = true) (hzl : z.length = sz) (hap : appOK P e sz = true) (hlc : l ≤ c) (hc : c ≤ 4294967296) :
    Yields P (Instr.makeSlice t (.int kl l) (.int kc c)) M σ ν w (.osl σ.length l) (σ ++ [.row sz ((chunks sz ag c (repeatA z c)).take l)]) := by
  obtain ⟨hu, hsz, hpos⟩ := elemOf_inv he
  unfold appOK at hap
  cases hi : P.info? e with
  | none => simp [hi] at hap
  | some i =>
    cases hzv : i.zero with
    | none => simp [hi, hzv] at hap
    | some zv =>
      simp [hi, hzv] at hap
      have hisz : i.size = sz := by simpa [szOf, hi] using hsz
      have hcells : zv.cells.toList.map cval = z := by simpa [zcOf, hi, hzv] using hz
      have hr : Reps M (RefOK σ ν) w z zv.cells.toList := by rw [← hcells]; exact cval_reps zv.cells.toList
      have hrun := run_make (P := P) w t e i zv hu hi hzv kl kc l c (by omega) (by omega) (by
          have h1 : i.bytes * c ≤ 32768 * 4294967296 := Nat.mul_le_mul hap.1 hc
          have h2 : ((i.bytes * c : Nat) : Int) ≤ 281474976710656 := by omega
          rwa [Int.natCast_mul] at h2) (by omega)
      simp only [Int.toNat_natCast] at hrun
      have hreps := repeat_reps hr c
      have hms : (madeCells zv.cells (c * i.size)) = ((Array.range (c * zv.cells.size)).map (zv.cells[· % zv.cells.size]!)) := by
        unfold madeCells; rw [hisz, hap.2]
      rw [← hms] at hreps
      have hone2 : ∀ n, (repeatA z n).all AV.one = true := by
        intro n
        induction n with
        | zero => rfl
        | succ n ih => simp only [repeatA, List.all_append, hone, ih, Bool.and_self]
      have hel := chunks_elems hag c (repeatA z c) _ hreps (by rw [repeatA_length, hzl]) (hone2 c)
      have hlen : ((chunks sz ag c (repeatA z c)).take l).length = l := by rw [List.length_take, chunks_length]; omega
      have hel2 : Elems M (RefOK σ ν) w sz ((chunks sz ag c (repeatA z c)).take l) (madeCells zv.cells (c * i.size)).toList := by
        intro a b ha hb
        have ha' : a < (chunks sz ag c (repeatA z c)).length := by rw [chunks_length]; omega
        have e1 : ((chunks sz ag c (repeatA z c)).take l)[a] = (chunks sz ag c (repeatA z c))[a] := by simp
        simp only [e1] at hb ⊢
        exact hel a b ha' hb
      obtain ⟨M', ν', g', l', r'⟩ := g.newRow sz ((chunks sz ag c (repeatA z c)).take l) e (madeCells zv.cells (c * i.size)) c (by omega) (by rw [size_madeCells, hisz]; exact Nat.le_refl _) hel2
      rw [hlen] at r'
      exact ⟨_, _, M', ν', hrun, g', l', r'⟩
end
end Go.Ab
