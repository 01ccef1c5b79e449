/- Matchers laid as bytes, by the program and by the document. No condition. -/
import Derived.Test.YtmkmhhjkdaklbaaGreatXVi5
import Derived.Test.YtmkmhhjkdaklbaaGreatProg
import Derived.Test.YtmkmhhjkdaklbaaGreatAbStep
import Derived.Test.YtmkmhhjkdaklbaaGreatXPPar3
import Derived.Test.YtmkmhhjkdaklbaaGreatAbArg
set_option linter.unusedSimpArgs false
set_option linter.unusedVariables false
namespace Go.Proofs.YtmkmhhjkdaklbaaGreat
open Go Go.Ab Go.Cod
set_option maxRecDepth 100000
theorem txtB_len (s : ByteArray) (h : s.size ≤ 1000000) : (txtB s).length ≤ 10 + s.size := by
 have h10 := putN_len10 (n := s.size) (by omega)
 rw [txtB, List.length_append, size_list]
 omega
theorem listB_at {M : List Mtr} (h : listB M = true) : M.length ≤ 5 ∧ ∀ x ∈ M, (1 ≤ x.1 ∧ x.1 ≤ 4) ∧ x.2.1.size ≤ 12 ∧ x.2.2.size ≤ 40 := by
 unfold listB at h
 simp only [Bool.and_eq_true, decide_eq_true_eq] at h
 refine ⟨h.1, fun x hx => ?_⟩
 obtain ⟨i, hi, rfl⟩ := List.getElem_of_mem hx
 have h2 := List.all_eq_true.1 h.2 i (List.mem_range.2 hi)
 unfold okL isM at h2
 simp only [Bool.and_eq_true] at h2
 have e : M.getD i noM3 = M[i] := by rw [List.getD_eq_getElem?_getD, List.getElem?_eq_getElem hi]; rfl
 rw [e] at h2
 exact isB_kind h2.1
def preL (M : List Mtr) (i : Nat) : Byt := putN M.length ++ laidMany putM (M.take i)
theorem preL_succ (M : List Mtr) (i : Nat) (h : i < M.length) : preL M (i + 1) = preL M i ++ putM M[i] := by
 unfold preL laidMany
 rw [List.take_succ_eq_append_getElem h, List.flatMap_append, List.append_assoc]
 simp
theorem preL_all (M : List Mtr) : preL M M.length = putL M := by unfold preL putL laidRow; rw [List.take_length]
theorem preL_len {M : List Mtr} (h : listB M = true) : ∀ i, i ≤ M.length → (preL M i).length ≤ 10 + 100 * i
 | 0, _ => by
   have := (listB_at h).1
   unfold preL laidMany
   simp only [List.take_zero, List.flatMap_nil, List.append_nil]
   have := putN_len10 (n := M.length) (by omega)
   omega
 | i + 1, hi => by
   have ih := preL_len h i (by omega)
   have hx := (listB_at h).2 M[i] (List.getElem_mem (by omega))
   have h1 := txtB_len (M[i]).2.1 (by omega)
   have h2 := txtB_len (M[i]).2.2 (by omega)
   rw [preL_succ M i (by omega), List.length_append]
   unfold putM
   simp only [List.length_cons, List.length_append]
   omega
def bytesL (M : List Mtr) : Byt := if listB M then putL M else []
theorem kind_bc {k : Int} (h : 1 ≤ k ∧ k ≤ 4) : IntKind.u8.wrap k = ((k.toNat.toUInt8.toNat : Nat) : Int) := by
 obtain ⟨n, rfl⟩ := Int.eq_ofNat_of_zero_le (show 0 ≤ k by omega)
 have : n < 256 := by omega
 rw [wrap8N, Nat.mod_eq_of_lt this, Int.toNat_natCast, toNat_toUInt8 this]
section
variable (σ : St)
theorem mbytes_ans (M : List Mtr) : Ans Tryz.prog 69 [.sl 3 (mvs3 M)] σ (.sl 1 (byv (bytesL M))) σ := by
 unfold bytesL
 cases hL : listB M with
 | false =>
   have : Ans Tryz.prog 69 [.sl 3 (mvs3 M)] σ .nils σ := by
    refine Ans.of_run t69 ?_
    simp -implicitDefEqProofs only [c69, r69, go_sem]
    refine CO.intro (list_any σ M) ?_
    rw [hL]
    simp -implicitDefEqProofs only [go_sem]
    exact Fini.ret rfl
   exact this.subR (.nils 1)
 | true =>
   obtain ⟨h5, hM⟩ := listB_at hL
   have hpl := preL_len hL
   have hw := wrapUN (n := M.length) (by omega)
   have e00 : preL M 0 = putN M.length := by simp [preL, laidMany]
   refine Ans.of_run' t69 (fun hbel _ => ?_)
   simp -implicitDefEqProofs only [c69, r69, go_sem]
   refine CO.intro (list_any σ M) ?_
   rw [hL]
   simp -implicitDefEqProofs only [go_sem, mvs3_len, hw]
   refine CO.intro (put_ans σ M.length (by omega)) ?_
   simp -implicitDefEqProofs only [go_sem, mvs3_len]
   refine Go.Ab.L.count M.length (fun i => mkE 37 [(3, .osl σ.length (preL M i).length), (13, .sl 3 (mvs3 M)), (14, I M.length), (15, I i)]) (fun i => σ ++ [.row 1 (byv (preL M i))]) ?_ ?_ (by rw [e00]; rfl) (by rw [e00])
   · intro i hi J hJ
     have hx := mvs3_get M i hi
     have hxm := hM M[i] (List.getElem_mem hi)
     have hp := hpl (i + 1) (by omega)
     rw [preL_succ M i hi] at hJ hp
     generalize M[i] = x at hx hxm hJ hp
     obtain ⟨k, nm, v⟩ := x
     simp only at hxm
     generalize preL M i = pre at hJ hp ⊢
     have hkb := kind_bc hxm.1
     have hin := wrap_succ (i := i) (by omega)
     have h1 := txtB_len nm (by omega)
     have h2 := txtB_len v (by omega)
     unfold putM at hJ hp
     simp only [List.length_append, List.length_cons] at hp
     have l1 : pre.length + 1 ≤ 4294967296 := by omega
     have l2 : pre.length + 1 + (txtB nm).length ≤ 4294967296 := by omega
     have l3 : pre.length + 1 + (txtB nm).length + (txtB v).length ≤ 4294967296 := by omega
     simp -implicitDefEqProofs only [mkE, go_sem, mvs3_len, nat_lt hi, dec_lt hi, hx, mv3, hkb, g0, s0, byv_len, l1, List.length_singleton]
     refine CO.intro (puttext_ans _ nm (by omega)) ?_
     simp -implicitDefEqProofs only [go_sem, g0, s0, byv_len, byv_all', bc, l1, l2, List.length_append, List.length_singleton]
     refine CO.intro (puttext_ans _ v (by omega)) ?_
     simp -implicitDefEqProofs only [go_sem, g0, s0, byv_len, byv_all', bc, l1, l2, l3, List.length_append, List.length_singleton, hin]
     have e : pre ++ k.toNat.toUInt8 :: (txtB nm ++ txtB v) = pre ++ [k.toNat.toUInt8] ++ txtB nm ++ txtB v := by simp
     simp only at hJ
     rw [e] at hJ
     simp only [byv_append, List.length_append, List.length_singleton] at hJ
     exact hJ
   · intro J
     have d0 : decide ((M.length : Int) < M.length) = false := by simp
     simp -implicitDefEqProofs only [mkE, go_sem, d0, g0, s0, byv_len]
     exact Fini.trim2 (σ' := σ) (by rw [preL_all]; rfl) rfl (Nat.le_refl _) (by first | exact bel_byv _ _ | (rw [preL_all]; exact bel_byv _ _)) hbel
theorem dbytes_own (M : List Mtr) (hs : ∀ x ∈ M, x.2.1.size ≤ 100000) (hL : listB M = true) : Ans Tryz.prog 73 [.sl 3 (mvs3 M)] σ (.osl σ.length (putL M).length) (σ ++ [.row 1 (byv (putL M))]) := by
 obtain ⟨h5, hM⟩ := listB_at hL
 have hpl := preL_len hL
 have hw := wrapUN (n := M.length) (by omega)
 have e00 : preL M 0 = putN M.length := by simp [preL, laidMany]
 refine Ans.of_run' t73 (fun hbel _ => ?_)
 simp -implicitDefEqProofs only [c73, r73, go_sem]
 refine CO.intro (dlist_ans σ M hs) ?_
 rw [hL]
 simp -implicitDefEqProofs only [go_sem, mvs3_len, hw]
 refine CO.intro (dput_ans σ M.length (by omega)) ?_
 simp -implicitDefEqProofs only [go_sem, mvs3_len]
 refine Go.Ab.L.count M.length (fun i => mkE 43 [(0, .sl 3 (mvs3 M)), (3, .osl σ.length (preL M i).length), (4, I i)]) (fun i => σ ++ [.row 1 (byv (preL M i))]) ?_ ?_ (by rw [e00]; rfl) (by rw [e00])
 · intro i hi J hJ
   have hx := mvs3_get M i hi
   have hxm := hM M[i] (List.getElem_mem hi)
   have hp := hpl (i + 1) (by omega)
   rw [preL_succ M i hi] at hJ hp
   generalize M[i] = x at hx hxm hJ hp
   obtain ⟨k, nm, v⟩ := x
   simp only at hxm
   generalize preL M i = pre at hJ hp ⊢
   have hkb := kind_bc hxm.1
   have hin := wrap_succ (i := i) (by omega)
   have h1 := txtB_len nm (by omega)
   have h2 := txtB_len v (by omega)
   unfold putM at hJ hp
   simp only [List.length_append, List.length_cons] at hp
   have l1 : pre.length + 1 ≤ 4294967296 := by omega
   have l2 : pre.length + 1 + (txtB nm).length ≤ 4294967296 := by omega
   have l3 : pre.length + 1 + (txtB nm).length + (txtB v).length ≤ 4294967296 := by omega
   simp -implicitDefEqProofs only [mkE, go_sem, mvs3_len, nat_lt hi, dec_lt hi, hx, mv3, hkb, g0, s0, byv_len, l1, List.length_singleton]
   refine CD.intro (dputtext_ans _ nm (by omega)) ?_
   simp -implicitDefEqProofs only [go_sem, mvs3_len, nat_lt hi, hx, mv3, g0, s0, byv_len, byv_all', bc, l1, l2, List.length_append, List.length_singleton]
   refine CD.intro (dputtext_ans _ v (by omega)) ?_
   simp -implicitDefEqProofs only [go_sem, g0, s0, byv_len, byv_all', bc, l1, l2, l3, List.length_append, List.length_singleton, hin]
   have e : pre ++ k.toNat.toUInt8 :: (txtB nm ++ txtB v) = pre ++ [k.toNat.toUInt8] ++ txtB nm ++ txtB v := by simp
   simp only at hJ
   rw [e] at hJ
   simp only [byv_append, List.length_append, List.length_singleton] at hJ
   exact hJ
 · intro J
   have d0 : decide ((M.length : Int) < M.length) = false := by simp
   simp -implicitDefEqProofs only [mkE, go_sem, d0, mvs3_len, g0, s0, byv_len]
   exact Fini.ret3 (n := 0) rfl (by rw [preL_all]; rfl) (by rw [preL_all])
theorem dbytes_ans (M : List Mtr) (hs : ∀ x ∈ M, x.2.1.size ≤ 100000) : Ans Tryz.prog 73 [.sl 3 (mvs3 M)] σ (.sl 1 (byv (bytesL M))) σ := by
 unfold bytesL
 cases hL : listB M with
 | false =>
   have : Ans Tryz.prog 73 [.sl 3 (mvs3 M)] σ .nils σ := by
    refine Ans.of_run t73 ?_
    simp -implicitDefEqProofs only [c73, r73, go_sem]
    refine CO.intro (dlist_ans σ M hs) ?_
    rw [hL]
    simp -implicitDefEqProofs only [go_sem]
    exact Fini.ret rfl
   exact this.subR (.nils 1)
 | true => exact (dbytes_own σ M hs hL).shut (by rw [byv_len]) (bel_byv _ _)
end
end Go.Proofs.YtmkmhhjkdaklbaaGreat
namespace Go.Proofs.YtmkmhhjkdaklbaaGreat
open Go Go.Ab Go.Cod
set_option maxRecDepth 100000
def okV (u : Nat) : Bool := decide (bitsF u = u)
def valR : Rd Nat := onlyR wordR okV
def putV (u : Nat) : Byt := wrdB (bitsF u)
theorem val_fits : Fits valR putV (fun u => u < 2 ^ 64 ∧ bitsF u = u) := by
 have h := only_fits word_fits okV
 refine ⟨fun a t ho => ?_, fun b a t hr => ?_⟩
 · have := h.fwd a t ⟨ho.1, by unfold okV; exact decide_eq_true ho.2⟩
   unfold putV; rw [ho.2]; exact this
 · obtain ⟨⟨h1, h2⟩, h3⟩ := h.bwd b a t hr
   have h2 : bitsF a = a := by unfold okV at h2; exact of_decide_eq_true h2
   exact ⟨⟨h1, h2⟩, by unfold putV; rw [h2]; exact h3⟩
theorem ends_val : EndsR valR := val_fits.ends
abbrev Bnd := Bool × Nat × Nat
def bnd0 : Rd Bnd
 | [] => none
 | c :: t => if c = 0 then (seqR valR valR t).map (fun p => ((false, p.1.1, p.1.2), p.2)) else if c = 1 then some ((true, 0, 0), t) else none
def bandR : Rd Bnd := onlyR bnd0 (fun x => mayB x.1 x.2.1 x.2.2)
def putBd (x : Bnd) : Byt := if x.1 then [1] else 0 :: (putV x.2.1 ++ putV x.2.2)
def bndOk (x : Bnd) : Prop := if x.1 then x.2.1 = 0 ∧ x.2.2 = 0 else (x.2.1 < 2 ^ 64 ∧ bitsF x.2.1 = x.2.1) ∧ (x.2.2 < 2 ^ 64 ∧ bitsF x.2.2 = x.2.2)
theorem bnd0_fits : Fits bnd0 putBd bndOk where
 fwd x t h := by
  obtain ⟨any, lo, hi⟩ := x
  cases any with
  | true =>
    obtain ⟨rfl, rfl⟩ : lo = 0 ∧ hi = 0 := h
    rfl
  | false =>
    have h : (lo < 2 ^ 64 ∧ bitsF lo = lo) ∧ (hi < 2 ^ 64 ∧ bitsF hi = hi) := h
    have h2 := (seq_fits val_fits val_fits).fwd (lo, hi) t h
    simp only at h2
    simp only [putBd, Bool.false_eq_true, if_false, bnd0, List.cons_append, if_true, h2, Option.map_some]
 bwd b x t hr := by
  cases b with
  | nil => cases hr
  | cons c u =>
    simp only [bnd0] at hr
    split at hr
    · rename_i hc
      cases h1 : seqR valR valR u with
      | none => simp [h1] at hr
      | some p =>
        simp only [h1, Option.map_some, Option.some.injEq, Prod.mk.injEq] at hr
        obtain ⟨rfl, rfl⟩ := hr
        obtain ⟨h2, h3⟩ := (seq_fits val_fits val_fits).bwd _ _ _ h1
        refine ⟨h2, ?_⟩
        rw [h3, hc]; rfl
    · split at hr
      · rename_i hc
        simp only [Option.some.injEq, Prod.mk.injEq] at hr
        obtain ⟨rfl, rfl⟩ := hr
        exact ⟨⟨rfl, rfl⟩, by rw [hc]; rfl⟩
      · cases hr
def bMay (x : Bnd) : Bool := mayB x.1 x.2.1 x.2.2
def bSz (x : Bnd) : Prop := x.2.1 < 2 ^ 64 ∧ x.2.2 < 2 ^ 64
theorem nan_of_leF {a b : Nat} (h : leF a b = true) : nanF a = false ∧ nanF b = false := by
 unfold leF Ieee.Format.order at h
 unfold nanF Ieee.Format.order
 generalize FloatKind.f64.format.read a = x at *
 generalize FloatKind.f64.format.read b = y at *
 cases x with
 | nan s m => simp [Ieee.Datum.order] at h
 | infinity s =>
   cases y with
   | nan t n => simp [Ieee.Datum.order] at h
   | infinity t => cases s <;> cases t <;> simp [Ieee.Datum.order] at h ⊢
   | number t n j => cases s <;> simp [Ieee.Datum.order] at h ⊢
 | number s m i =>
   cases y with
   | nan t n => simp [Ieee.Datum.order] at h
   | infinity t => cases t <;> simp [Ieee.Datum.order] at h ⊢
   | number t n j => simp [Ieee.Datum.order]
theorem bitsF_not {a : Nat} (h : nanF a = false) : bitsF a = a := by unfold bitsF; rw [h]; rfl
theorem bitsF_zero {a : Nat} (h : bitsF a = 0) : a = 0 := by
 unfold bitsF at h
 split at h
 · cases h
 · exact h
theorem may_ok {x : Bnd} (h : bMay x = true) (w : bSz x) : bndOk x := by
 obtain ⟨any, lo, hi⟩ := x
 unfold bMay mayB at h
 cases any with
 | true =>
   simp only [if_true, Bool.and_eq_true, beq_iff_eq] at h
   exact ⟨bitsF_zero (Int.ofNat.inj h.1), bitsF_zero (Int.ofNat.inj h.2)⟩
 | false =>
   obtain ⟨h1, h2⟩ := nan_of_leF h
   exact ⟨⟨w.1, bitsF_not h1⟩, ⟨w.2, bitsF_not h2⟩⟩
theorem ok_sz {x : Bnd} (h : bndOk x) : bSz x := by
 obtain ⟨any, lo, hi⟩ := x
 cases any with
 | true =>
   obtain ⟨rfl, rfl⟩ : lo = 0 ∧ hi = 0 := h
   exact ⟨by decide, by decide⟩
 | false =>
   have h : (lo < 2 ^ 64 ∧ bitsF lo = lo) ∧ (hi < 2 ^ 64 ∧ bitsF hi = hi) := h
   exact ⟨h.1.1, h.2.1⟩
theorem band_fits : Fits bandR putBd (fun x => bMay x = true ∧ bSz x) :=
 (only_fits bnd0_fits bMay).weaken fun x => ⟨fun h => ⟨h.2, ok_sz h.1⟩, fun h => ⟨may_ok h.1 h.2, h.1⟩⟩
theorem ends_band : EndsR bandR := band_fits.ends
def mkRu (x : List Mtr × List Mtr × Bnd × List ByteArray) : RuM := ⟨x.1, x.2.1, x.2.2.1.1, x.2.2.1.2.1, x.2.2.1.2.2, x.2.2.2⟩
def ruR0 : Rd RuM := dressR (seqR listR (seqR listR (seqR bandR (rowR 4 (textR 12))))) mkRu
def ruR : Rd RuM := onlyR ruR0 ruIs
def putR (r : RuM) : Byt := putL r.src ++ (putL r.tgt ++ (putBd (r.any, r.lo, r.hi) ++ laidRow txtB r.eq))
def ruSz (r : RuM) : Prop := r.lo < 2 ^ 64 ∧ r.hi < 2 ^ 64
theorem ru0_fits : Fits ruR0 putR (fun r => listB r.src = true ∧ listB r.tgt = true ∧ (mayB r.any r.lo r.hi = true ∧ ruSz r) ∧ (r.eq.length ≤ 4 ∧ ∀ a ∈ r.eq, a.size ≤ 12)) :=
 dress_fits (seq_fits listB_fits (seq_fits listB_fits (seq_fits band_fits (row_fits (by decide) (text_fits (by decide)))))) (g := fun r => (r.src, r.tgt, (r.any, r.lo, r.hi), r.eq))
  (fun _ h => ⟨h, rfl⟩) (fun _ h => ⟨h, rfl⟩)
theorem nameB_size {s : ByteArray} (h : nameB s = true) : s.size ≤ 12 := by
 unfold nameB at h
 simp only [Bool.and_eq_true, decide_eq_true_eq] at h
 exact h.1.1.2
theorem eqB_at {e : List ByteArray} (h : eqB e = true) : e.length ≤ 4 ∧ ∀ a ∈ e, a.size ≤ 12 := by
 unfold eqB at h
 simp only [Bool.and_eq_true, decide_eq_true_eq] at h
 refine ⟨h.1, fun a ha => ?_⟩
 obtain ⟨i, hi, rfl⟩ := List.getElem_of_mem ha
 have h2 := List.all_eq_true.1 h.2 i (List.mem_range.2 hi)
 unfold eqOk at h2
 simp only [Bool.and_eq_true] at h2
 have e2 : e.getD i ⟨#[]⟩ = e[i] := by rw [List.getD_eq_getElem?_getD, List.getElem?_eq_getElem hi]; rfl
 rw [e2] at h2
 exact nameB_size h2.1
theorem ruIs_all {r : RuM} (h : ruIs r = true) : listB r.src = true ∧ listB r.tgt = true ∧ mayB r.any r.lo r.hi = true ∧ (r.eq.length ≤ 4 ∧ ∀ a ∈ r.eq, a.size ≤ 12) := by
 unfold ruIs at h
 simp only [Bool.and_eq_true] at h
 exact ⟨h.2.2.1, h.2.2.2.1, h.2.2.2.2.1, eqB_at h.2.2.2.2.2⟩
theorem ru_fits : Fits ruR putR (fun r => ruIs r = true ∧ ruSz r) :=
 (only_fits ru0_fits ruIs).weaken fun r => ⟨fun h => ⟨h.2, h.1.2.2.1.2⟩, fun h => ⟨⟨(ruIs_all h.1).1, (ruIs_all h.1).2.1, ⟨(ruIs_all h.1).2.2.1, h.2⟩, (ruIs_all h.1).2.2.2⟩, h.1⟩⟩
theorem steps_val {α : Type} {b : Byt} {rd : Rd α} {st st' : Nat × Bool → α × (Nat × Bool)} (h : StepsR b rd st) (h2 : ∀ q, (st' q).2 = (st q).2) (h3 : ∀ q, (st q).2.2 = false → st' q = st q) : StepsR b rd st' where
 some_ a x t ha hr := by
  have := h.some_ a x t ha hr
  rw [h3 _ (by rw [this]), this]
 none_ a ha hr := by rw [h2]; exact h.none_ a ha hr
 bad a := by rw [h2]; exact h.bad a
 inb q hq := by rw [h2]; exact h.inb q hq
def valS (b : Byt) (q : Nat × Bool) : Nat × (Nat × Bool) := (if okV (runR wordR 0 b q).1 then (runR wordR 0 b q).1 else 0, took (runR wordR 0 b q).2 0 (okV (runR wordR 0 b q).1))
theorem steps_value (b : Byt) : StepsR b valR (valS b) := by
 refine steps_val (steps_only (steps_run b wordR 0) okV) (fun q => rfl) fun q h => ?_
 unfold onlySt took at h
 unfold valS onlySt
 simp only at h ⊢
 cases ho : okV (runR wordR 0 b q).1 with
 | true => rfl
 | false => rw [ho] at h; simp at h
def bnd0S (b : Byt) (q : Nat × Bool) : Bnd × (Nat × Bool) :=
 if (runR byteR 0 b q).1 = 0 then ((false, (valS b (runR byteR 0 b q).2).1, (valS b (valS b (runR byteR 0 b q).2).2).1), (valS b (valS b (runR byteR 0 b q).2).2).2)
 else if (runR byteR 0 b q).1 = 1 then ((true, 0, 0), (runR byteR 0 b q).2) else ((false, 0, 0), took (runR byteR 0 b q).2 0 false)
theorem steps_bnd0 (b : Byt) : StepsR b bnd0 (bnd0S b) where
 some_ a x t ha hr := by
  cases hd : b.drop a with
  | nil => rw [hd] at hr; cases hr
  | cons c u =>
    have h1 : byteR (b.drop a) = some (c, u) := by rw [hd]; rfl
    obtain ⟨e1, e2, e3⟩ := ends_byte.drop ha h1
    rw [hd] at hr
    simp only [bnd0] at hr
    unfold bnd0S
    simp only [runR_some h1]
    split at hr
    · rename_i hc
      rw [if_pos hc]
      cases h2 : seqR valR valR u with
      | none => simp [h2] at hr
      | some p =>
        simp only [h2, Option.map_some, Option.some.injEq, Prod.mk.injEq] at hr
        obtain ⟨rfl, rfl⟩ := hr
        have := (steps_seq (steps_value b) (steps_value b) ends_val).some_ (b.length - u.length) p.1 p.2 (by omega) (by rw [e1]; exact h2)
        unfold seqSt at this
        simp only [Prod.ext_iff] at this ⊢
        simp only [this, and_self]
    · rename_i hc
      rw [if_neg hc]
      split at hr
      · rename_i hc
        rw [if_pos hc]
        simp only [Option.some.injEq, Prod.mk.injEq] at hr
        obtain ⟨rfl, rfl⟩ := hr
        rfl
      · cases hr
 none_ a ha hr := by
  cases hd : b.drop a with
  | nil =>
    have h1 : byteR (b.drop a) = none := by rw [hd]; rfl
    unfold bnd0S
    simp only [runR_none h1, if_true]
    exact bad_eta (steps_value b).bad _ ((steps_value b).bad a)
  | cons c u =>
    have h1 : byteR (b.drop a) = some (c, u) := by rw [hd]; rfl
    obtain ⟨e1, e2, e3⟩ := ends_byte.drop ha h1
    rw [hd] at hr
    simp only [bnd0] at hr
    unfold bnd0S
    simp only [runR_some h1]
    split at hr
    · rename_i hc
      rw [if_pos hc]
      cases h2 : seqR valR valR u with
      | some p => simp [h2] at hr
      | none =>
        exact (steps_seq (steps_value b) (steps_value b) ends_val).none_ (b.length - u.length) (by omega) (by rw [e1]; exact h2)
    · rename_i hc
      rw [if_neg hc]
      split at hr
      · cases hr
      · rename_i hc
        rw [if_neg hc]
        rfl
 bad a := by
  unfold bnd0S
  simp only [runR_bad, if_true]
  exact bad_eta (steps_value b).bad _ ((steps_value b).bad a)
 inb q hq := by
  have h1 := run_inb byteR 0 b q hq
  unfold bnd0S
  split
  · exact (steps_value b).inb _ ((steps_value b).inb _ h1)
  · split
    · exact h1
    · exact took_inb b _ _ h1
def bandS (b : Byt) : Nat × Bool → Bnd × (Nat × Bool) := onlySt (bnd0S b) bMay
theorem steps_band (b : Byt) : StepsR b bandR (bandS b) := steps_only (steps_bnd0 b) _
def ruS (b : Byt) : Nat × Bool → RuM × (Nat × Bool) :=
 onlySt (dressSt (seqSt (runR listR [] b) (seqSt (runR listR [] b) (seqSt (runR bandR (false, 0, 0) b) (rowSt 4 b (runR (textR 12) ⟨#[]⟩ b))))) mkRu) ruIs
theorem steps_ru (b : Byt) : StepsR b ruR (ruS b) :=
 steps_only (steps_dress (steps_seq (steps_run b listR []) (steps_seq (steps_run b listR []) (steps_seq (steps_run b bandR _) (steps_row (steps_run b (textR 12) _) (ends_text 12) 4) ends_band) ends_list) ends_list) mkRu) ruIs
end Go.Proofs.YtmkmhhjkdaklbaaGreat
namespace Go.Proofs.YtmkmhhjkdaklbaaGreat
open Go Go.Ab
set_option maxRecDepth 100000
def c17 : ACode :=
 (.seq (.ops [⟨some 2, none, .prim (.allocm [.nils, .nils, .pl (.bool false), .pl (.float .f64 0), .pl (.float .f64 0), .nils])⟩,
 ⟨some 3, none, .prim (.mov (.const (.int .i64 0)))⟩,
 ⟨some 4, none, .prim (.mov (.const (.bool false)))⟩])
 (.seq (.ops [⟨some 9, none, .prim (.mov (.tmp 0))⟩,
 ⟨some 10, none, .call (.func 54) [(.tmp 9)]⟩,
 ⟨some 5, none, .prim (.mov (.tmp 10))⟩])
 (.seq (.ops [⟨some 11, none, .prim (.mov (.tmp 5))⟩,
 ⟨some 12, none, .call (.func 55) [(.tmp 11), (.func 56)]⟩,
 ⟨some 13, none, .prim (.mov (.tmp 5))⟩,
 ⟨some 14, none, .call (.func 55) [(.tmp 13), (.func 56)]⟩,
 ⟨some 15, none, .prim (.mov (.tmp 5))⟩,
 ⟨some 16, none, .call (.func 57) [(.tmp 15), (.func 58)]⟩,
 ⟨some 17, none, .prim (.build [.nils, .nils, .pl (.bool false), .pl (.float .f64 0), .pl (.float .f64 0), .nils] [(0, 1, (.tmp 12)), (1, 1, (.tmp 14)), (2, 3, (.tmp 16))])⟩,
 ⟨some 6, none, .prim (.allocm [.nils, .nils, .pl (.bool false), .pl (.float .f64 0), .pl (.float .f64 0), .nils])⟩,
 ⟨none, none, .prim (.store 6 (.tmp 6) (.tmp 17))⟩])
 (.seq (.seq (.ops [⟨some 18, none, .prim (.mov (.tmp 5))⟩,
 ⟨some 19, none, .call (.func 59) [(.tmp 18), (.const (.int .u64 4))]⟩,
 ⟨some 20, none, .prim (.mov (.const (.int .u64 0)))⟩])
 (.block 0 (.loop [0, 1, 3, 4, 7, 8, 9, 10, 11, 12, 13, 14, 15, 16, 17, 18, 21, 22, 23, 24, 25, 26, 27, 28, 29, 30, 31, 32, 33, 34, 35, 36, 37, 38, 39, 40, 41, 42, 43] (.seq (.ops [⟨some 21, none, .prim (.bin false .lss (.tmp 20) (.tmp 19))⟩])
 (.seq (.cond (.tmp 21)
 .skip
 (.exit 0))
 (.seq (.block 1 (.draw [⟨⟨some 22, none, .prim (.fadr 5 (.tmp 6))⟩, [], false, 0, 1⟩,
 ⟨⟨some 23, none, .prim (.load 1 false (.tmp 22))⟩, [0], false, 0, 1⟩,
 ⟨⟨some 24, none, .prim (.mov (.tmp 5))⟩, [], false, 0, 0⟩,
 ⟨⟨some 25, none, .call (.func 60) [(.tmp 24), (.const (.int .i64 12))]⟩, [2], true, 0, 0⟩,
 ⟨⟨some 26, none, .prim (.bsl false 1 false 1 [.pl (.string .empty)] [(0, 1, (.tmp 25))])⟩, [2, 3], false, 1, 1⟩,
 ⟨⟨some 27, none, .prim (.app 1 (.tmp 23) (.tmp 26))⟩, [0, 1, 2, 3, 4], true, 0, 0⟩,
 ⟨⟨some 28, none, .prim (.fadr 5 (.tmp 6))⟩, (List.range 6), false, 2, 2⟩,
 ⟨⟨none, none, .prim (.store 1 (.tmp 28) (.tmp 27))⟩, (List.range 7), true, 0, 0⟩]))
 (.ops [⟨some 29, none, .prim (.bin false .add (.tmp 20) (.const (.int .u64 1)))⟩,
 ⟨some 20, none, .prim (.mov (.tmp 29))⟩])))))))
 (.seq (.ghost (.shutc 6 5 1) (.ops [⟨some 30, none, .prim (.mov (.tmp 5))⟩,
 ⟨some 31, none, .prim (.load 6 true (.tmp 6))⟩,
 ⟨some 32, none, .call (.func 51) [(.tmp 31)]⟩,
 ⟨some 33, none, .call (.func 61) [(.tmp 30), (.tmp 32)]⟩]))
 (.seq (.ops [⟨some 35, none, .prim (.mov (.tmp 5))⟩,
 ⟨some 36, none, .call (.func 62) [(.tmp 35)]⟩,
 ⟨some 34, none, .prim (.mov (.tmp 36))⟩,
 ⟨some 37, none, .prim (.extr 0 (.tmp 34))⟩,
 ⟨some 38, none, .prim (.extr 1 (.tmp 34))⟩,
 ⟨some 7, none, .prim (.mov (.tmp 37))⟩,
 ⟨some 8, none, .prim (.mov (.tmp 38))⟩])
 (.seq (.seq (.ops [⟨some 39, none, .prim (.mov (.tmp 8))⟩,
 ⟨some 40, none, .prim (.un .not (.tmp 39))⟩])
 (.cond (.tmp 40)
 (.seq (.ops [⟨some 41, none, .prim (.build [.nils, .nils, .pl (.bool false), .pl (.float .f64 0), .pl (.float .f64 0), .nils] [])⟩,
 ⟨none, none, .prim (.store 6 (.tmp 2) (.tmp 41))⟩,
 ⟨some 3, none, .prim (.mov (.const (.int .i64 0)))⟩,
 ⟨some 4, none, .prim (.mov (.const (.bool false)))⟩])
 .ret)
 .skip))
 (.seq (.ops [⟨some 42, none, .prim (.load 6 true (.tmp 6))⟩,
 ⟨some 43, none, .prim (.mov (.tmp 7))⟩,
 ⟨none, none, .prim (.store 6 (.tmp 2) (.tmp 42))⟩,
 ⟨some 3, none, .prim (.mov (.tmp 43))⟩,
 ⟨some 4, none, .prim (.mov (.const (.bool true)))⟩])
 .ret))))))))
def o17 : List Tmp := [2, 6]
def r17 : List RV := [.cell 2 6 true, .tmp 3, .tmp 4]
theorem t17 : Text Tryz.prog 17 o17 c17 r17 44 := ⟨⟨Tryz.f17, _, by kernel_rfl, by kernel_rfl, rfl, by kernel_rfl, by kernel_rfl, rfl⟩, by kernel_rfl⟩
def c19 : ACode :=
 (.seq (.ops [⟨some 1, none, .prim (.boxr (.tmp 0))⟩,
 ⟨some 2, none, .prim (.mov (.const (.slice none 0 0)))⟩])
 (.seq (.seq (.ops [⟨some 6, none, .prim (.load 6 true (.tmp 1))⟩,
 ⟨some 7, none, .call (.func 51) [(.tmp 6)]⟩,
 ⟨some 8, none, .prim (.un .not (.tmp 7))⟩])
 (.cond (.tmp 8)
 (.seq (.ops [⟨some 2, none, .prim (.mov (.const (.slice none 0 0)))⟩])
 (.ghost (.shut 2) .ret))
 .skip))
 (.seq (.draw [⟨⟨some 9, none, .prim (.fadr 0 (.tmp 1))⟩, [], false, 0, 0⟩,
 ⟨⟨some 10, none, .prim (.load 1 false (.tmp 9))⟩, [0], false, 0, 0⟩,
 ⟨⟨some 11, none, .call (.func 69) [(.tmp 10)]⟩, [0, 1], true, 0, 0⟩,
 ⟨⟨some 12, none, .prim (.fadr 1 (.tmp 1))⟩, [], false, 0, 1⟩,
 ⟨⟨some 13, none, .prim (.load 1 false (.tmp 12))⟩, [3], false, 0, 1⟩,
 ⟨⟨some 14, none, .call (.func 69) [(.tmp 13)]⟩, [0, 1, 2, 3, 4], true, 0, 0⟩,
 ⟨⟨some 15, none, .prim (.fadr 2 (.tmp 1))⟩, [], false, 0, 2⟩,
 ⟨⟨some 16, none, .prim (.load 3 true (.tmp 15))⟩, [6], false, 0, 2⟩,
 ⟨⟨some 17, none, .call (.func 70) [(.tmp 16)]⟩, (List.range 8), true, 0, 0⟩,
 ⟨⟨some 18, none, .prim (.fadr 5 (.tmp 1))⟩, [], false, 0, 3⟩,
 ⟨⟨some 19, none, .prim (.load 1 false (.tmp 18))⟩, [9], false, 0, 3⟩,
 ⟨⟨some 20, none, .prim (.lenv (.tmp 19))⟩, [9, 10], false, 0, 3⟩,
 ⟨⟨some 21, none, .prim (.convi .u64 (.tmp 20))⟩, [9, 10, 11], false, 0, 3⟩,
 ⟨⟨some 22, none, .call (.func 71) [(.tmp 21)]⟩, (List.range 13), true, 0, 0⟩,
 ⟨⟨some 23, none, .prim (.bsl false 1 false 4 [.nils] [(0, 1, (.tmp 11)), (1, 1, (.tmp 14)), (2, 1, (.tmp 17)), (3, 1, (.tmp 22))])⟩, (List.range 14), false, 4, 4⟩,
 ⟨⟨some 24, none, .call (.func 68) [(.tmp 23)]⟩, (List.range 15), true, 0, 0⟩,
 ⟨⟨some 3, none, .prim (.mov (.tmp 24))⟩, (List.range 16), false, 5, 5⟩])
 (.seq (.seq (.ops [⟨some 25, none, .prim (.fadr 5 (.tmp 1))⟩,
 ⟨some 26, none, .prim (.load 1 false (.tmp 25))⟩,
 ⟨some 27, none, .prim (.lenv (.tmp 26))⟩,
 ⟨some 28, none, .prim (.mov (.const (.int .i64 0)))⟩])
 (.block 0 (.loop [0, 1, 2, 4, 5, 6, 7, 8, 9, 10, 11, 12, 13, 14, 15, 16, 17, 18, 19, 20, 21, 22, 23, 24, 25, 29, 30, 31, 32, 33, 34, 35, 36, 37] (.seq (.ops [⟨some 29, none, .prim (.bin false .lss (.tmp 28) (.tmp 27))⟩])
 (.seq (.cond (.tmp 29)
 .skip
 (.exit 0))
 (.seq (.block 1 (.seq (.ops [⟨some 30, none, .prim (.iadrs 1 (.tmp 26) (.tmp 28))⟩,
 ⟨some 31, none, .prim (.load 1 false (.tmp 30))⟩,
 ⟨some 5, none, .prim (.mov (.tmp 31))⟩])
 (.ops [⟨some 32, none, .prim (.mov (.tmp 3))⟩,
 ⟨some 33, none, .prim (.mov (.tmp 5))⟩,
 ⟨some 34, none, .call (.func 72) [(.tmp 33)]⟩,
 ⟨some 35, none, .prim (.app 1 (.tmp 32) (.tmp 34))⟩,
 ⟨some 3, none, .prim (.mov (.tmp 35))⟩])))
 (.ops [⟨some 36, none, .prim (.bin false .add (.tmp 28) (.const (.int .i64 1)))⟩,
 ⟨some 28, none, .prim (.mov (.tmp 36))⟩])))))))
 (.seq (.ops [⟨some 37, none, .prim (.mov (.tmp 3))⟩,
 ⟨some 2, none, .prim (.mov (.tmp 37))⟩])
 (.ghost (.shut 2) .ret))))))
def o19 : List Tmp := []
def r19 : List RV := [.tmp 2]
theorem t19 : Text Tryz.prog 19 o19 c19 r19 38 := ⟨⟨Tryz.f19, _, by kernel_rfl, by kernel_rfl, rfl, by kernel_rfl, by kernel_rfl, rfl⟩, by kernel_rfl⟩
def c55 : ACode :=
 (.seq (.ops [⟨some 4, none, .prim (.mov (.const (.slice none 0 0)))⟩])
 (.seq (.ops [⟨some 10, none, .prim (.mov (.tmp 1))⟩,
 ⟨some 11, none, .prim (.mov (.tmp 0))⟩,
 ⟨some 12, none, .call (.func 112) [(.tmp 11)]⟩,
 ⟨some 13, none, .call (.tmp 10) [(.tmp 12)]⟩,
 ⟨some 9, none, .prim (.mov (.tmp 13))⟩,
 ⟨some 14, none, .prim (.extr 0 (.tmp 9))⟩,
 ⟨some 15, none, .prim (.extr 1 (.tmp 9))⟩,
 ⟨some 16, none, .prim (.extr 2 (.tmp 9))⟩,
 ⟨some 5, none, .prim (.mov (.tmp 14))⟩,
 ⟨some 6, none, .prim (.mov (.tmp 15))⟩,
 ⟨some 7, none, .prim (.mov (.tmp 16))⟩])
 (.seq (.seq (.ops [⟨some 17, none, .prim (.mov (.tmp 0))⟩,
 ⟨some 18, none, .prim (.mov (.tmp 6))⟩,
 ⟨some 19, none, .prim (.mov (.tmp 7))⟩,
 ⟨some 20, none, .call (.func 113) [(.tmp 17), (.tmp 18), (.tmp 19)]⟩,
 ⟨some 21, none, .prim (.un .not (.tmp 20))⟩])
 (.cond (.tmp 21)
 (.seq (.ops [⟨some 8, none, .prim (.mov (.const (.slice none 0 0)))⟩])
 (.seq (.ops [⟨some 22, none, .prim (.mov (.tmp 8))⟩,
 ⟨some 4, none, .prim (.mov (.tmp 22))⟩])
 .ret))
 .skip))
 (.seq (.ops [⟨some 23, none, .prim (.mov (.tmp 5))⟩,
 ⟨some 4, none, .prim (.mov (.tmp 23))⟩])
 .ret))))
def o55 : List Tmp := []
def r55 : List RV := [.tmp 4]
theorem t55 : Text Tryz.prog 55 o55 c55 r55 24 := ⟨⟨Tryz.f55, _, by kernel_rfl, by kernel_rfl, rfl, by kernel_rfl, by kernel_rfl, rfl⟩, by kernel_rfl⟩
def c57 : ACode :=
 (.seq (.ops [⟨some 4, none, .prim (.allocm [.pl (.bool false), .pl (.float .f64 0), .pl (.float .f64 0)])⟩])
 (.seq (.ops [⟨some 10, none, .prim (.mov (.tmp 1))⟩,
 ⟨some 11, none, .prim (.mov (.tmp 0))⟩,
 ⟨some 12, none, .call (.func 112) [(.tmp 11)]⟩,
 ⟨some 13, none, .call (.tmp 10) [(.tmp 12)]⟩,
 ⟨some 9, none, .prim (.mov (.tmp 13))⟩,
 ⟨some 14, none, .prim (.extr 0 (.tmp 9))⟩,
 ⟨some 15, none, .prim (.extr 1 (.tmp 9))⟩,
 ⟨some 16, none, .prim (.extr 2 (.tmp 9))⟩,
 ⟨some 5, none, .fresh 3 5 (.tmp 14)⟩,
 ⟨some 6, none, .prim (.mov (.tmp 15))⟩,
 ⟨some 7, none, .prim (.mov (.tmp 16))⟩])
 (.seq (.seq (.ops [⟨some 17, none, .prim (.mov (.tmp 0))⟩,
 ⟨some 18, none, .prim (.mov (.tmp 6))⟩,
 ⟨some 19, none, .prim (.mov (.tmp 7))⟩,
 ⟨some 20, none, .call (.func 113) [(.tmp 17), (.tmp 18), (.tmp 19)]⟩,
 ⟨some 21, none, .prim (.un .not (.tmp 20))⟩])
 (.cond (.tmp 21)
 (.seq (.ops [⟨some 8, none, .prim (.allocm [.pl (.bool false), .pl (.float .f64 0), .pl (.float .f64 0)])⟩])
 (.seq (.ops [⟨some 22, none, .prim (.load 3 true (.tmp 8))⟩,
 ⟨none, none, .prim (.store 3 (.tmp 4) (.tmp 22))⟩])
 .ret))
 .skip))
 (.seq (.ops [⟨some 23, none, .prim (.load 3 true (.tmp 5))⟩,
 ⟨none, none, .prim (.store 3 (.tmp 4) (.tmp 23))⟩])
 .ret))))
def o57 : List Tmp := [4]
def r57 : List RV := [.cell 4 3 true]
theorem t57 : Text Tryz.prog 57 o57 c57 r57 24 := ⟨⟨Tryz.f57, _, by kernel_rfl, by kernel_rfl, rfl, by kernel_rfl, by kernel_rfl, rfl⟩, by kernel_rfl⟩
def c58 : ACode :=
 (.seq (.ops [⟨some 2, none, .prim (.allocm [.pl (.bool false), .pl (.float .f64 0), .pl (.float .f64 0)])⟩,
 ⟨some 3, none, .prim (.mov (.const (.int .i64 0)))⟩,
 ⟨some 4, none, .prim (.mov (.const (.bool false)))⟩])
 (.seq (.ops [⟨some 9, none, .prim (.mov (.tmp 0))⟩,
 ⟨some 10, none, .call (.func 54) [(.tmp 9)]⟩,
 ⟨some 5, none, .prim (.mov (.tmp 10))⟩])
 (.seq (.ops [⟨some 6, none, .prim (.allocm [.pl (.bool false), .pl (.float .f64 0), .pl (.float .f64 0)])⟩])
 (.seq (.seq (.ops [⟨some 11, none, .prim (.mov (.tmp 5))⟩,
 ⟨some 12, none, .call (.func 83) [(.tmp 11)]⟩])
 (.block 0 (.seq (.ops [⟨some 16, none, .prim (.bin false .eql (.tmp 12) (.const (.int .u8 0)))⟩,
 ⟨some 15, none, .prim (.mov (.tmp 16))⟩])
 (.cond (.tmp 15)
 (.ops [⟨some 17, none, .prim (.mov (.tmp 5))⟩,
 ⟨some 18, none, .call (.func 114) [(.tmp 17)]⟩,
 ⟨some 19, none, .prim (.mov (.tmp 5))⟩,
 ⟨some 20, none, .call (.func 114) [(.tmp 19)]⟩,
 ⟨some 21, none, .prim (.fadr 1 (.tmp 6))⟩,
 ⟨none, none, .prim (.store 1 (.tmp 21) (.tmp 18))⟩,
 ⟨some 22, none, .prim (.fadr 2 (.tmp 6))⟩,
 ⟨none, none, .prim (.store 1 (.tmp 22) (.tmp 20))⟩])
 (.seq (.ops [⟨some 24, none, .prim (.bin false .eql (.tmp 12) (.const (.int .u8 1)))⟩,
 ⟨some 23, none, .prim (.mov (.tmp 24))⟩])
 (.cond (.tmp 23)
 (.ops [⟨some 25, none, .prim (.fadr 0 (.tmp 6))⟩,
 ⟨none, none, .prim (.store 1 (.tmp 25) (.const (.bool true)))⟩])
 (.ops [⟨some 13, none, .prim (.mov (.tmp 5))⟩,
 ⟨some 14, none, .call (.func 61) [(.tmp 13), (.const (.bool false))]⟩])))))))
 (.seq (.ops [⟨some 26, none, .prim (.mov (.tmp 5))⟩,
 ⟨some 27, none, .prim (.load 3 true (.tmp 6))⟩,
 ⟨some 28, none, .call (.func 107) [(.tmp 27)]⟩,
 ⟨some 29, none, .call (.func 61) [(.tmp 26), (.tmp 28)]⟩])
 (.seq (.ops [⟨some 31, none, .prim (.mov (.tmp 5))⟩,
 ⟨some 32, none, .call (.func 62) [(.tmp 31)]⟩,
 ⟨some 30, none, .prim (.mov (.tmp 32))⟩,
 ⟨some 33, none, .prim (.extr 0 (.tmp 30))⟩,
 ⟨some 34, none, .prim (.extr 1 (.tmp 30))⟩,
 ⟨some 7, none, .prim (.mov (.tmp 33))⟩,
 ⟨some 8, none, .prim (.mov (.tmp 34))⟩])
 (.seq (.seq (.ops [⟨some 35, none, .prim (.mov (.tmp 8))⟩,
 ⟨some 36, none, .prim (.un .not (.tmp 35))⟩])
 (.cond (.tmp 36)
 (.seq (.ops [⟨some 37, none, .prim (.build [.pl (.bool false), .pl (.float .f64 0), .pl (.float .f64 0)] [])⟩,
 ⟨none, none, .prim (.store 3 (.tmp 2) (.tmp 37))⟩,
 ⟨some 3, none, .prim (.mov (.const (.int .i64 0)))⟩,
 ⟨some 4, none, .prim (.mov (.const (.bool false)))⟩])
 .ret)
 .skip))
 (.seq (.ops [⟨some 38, none, .prim (.load 3 true (.tmp 6))⟩,
 ⟨some 39, none, .prim (.mov (.tmp 7))⟩,
 ⟨none, none, .prim (.store 3 (.tmp 2) (.tmp 38))⟩,
 ⟨some 3, none, .prim (.mov (.tmp 39))⟩,
 ⟨some 4, none, .prim (.mov (.const (.bool true)))⟩])
 .ret))))))))
def o58 : List Tmp := [2, 6]
def r58 : List RV := [.cell 2 3 true, .tmp 3, .tmp 4]
theorem t58 : Text Tryz.prog 58 o58 c58 r58 40 := ⟨⟨Tryz.f58, _, by kernel_rfl, by kernel_rfl, rfl, by kernel_rfl, by kernel_rfl, rfl⟩, by kernel_rfl⟩
def c68 : ACode :=
 (.seq (.ops [⟨some 2, none, .prim (.mov (.const (.slice none 0 0)))⟩])
 (.seq (.ops [⟨some 3, none, .prim (.mov (.const (.int .i64 0)))⟩])
 (.seq (.seq (.ops [⟨some 9, none, .prim (.mov (.tmp 0))⟩,
 ⟨some 10, none, .prim (.lenv (.tmp 9))⟩,
 ⟨some 11, none, .prim (.mov (.const (.int .i64 0)))⟩])
 (.block 0 (.loop [1, 2, 4, 5, 6, 7, 8, 12, 13, 14, 15, 16, 17, 18, 19, 20, 21, 22, 23, 24, 25, 26, 27, 28, 29, 30, 31, 32, 33, 34, 35] (.seq (.ops [⟨some 12, none, .prim (.bin false .lss (.tmp 11) (.tmp 10))⟩])
 (.seq (.cond (.tmp 12)
 .skip
 (.exit 0))
 (.seq (.block 1 (.seq (.ops [⟨some 13, none, .prim (.iadrs 1 (.tmp 9) (.tmp 11))⟩,
 ⟨some 14, none, .prim (.load 1 false (.tmp 13))⟩,
 ⟨some 5, none, .prim (.mov (.tmp 14))⟩])
 (.seq (.ops [⟨some 15, none, .prim (.mov (.tmp 3))⟩,
 ⟨some 16, none, .prim (.mov (.tmp 5))⟩,
 ⟨some 17, none, .prim (.lenv (.tmp 16))⟩,
 ⟨some 18, none, .prim (.bin false .add (.tmp 15) (.tmp 17))⟩,
 ⟨some 3, none, .prim (.mov (.tmp 18))⟩])
 (.seq (.ops [⟨some 19, none, .prim (.mov (.tmp 3))⟩,
 ⟨some 20, none, .prim (.bin false .lss (.tmp 19) (.const (.int .i64 0)))⟩])
 (.cond (.tmp 20)
 (.ops [⟨some 21, none, .prim (.bad)⟩,
 ⟨none, none, .prim (.bad)⟩])
 .skip)))))
 (.ops [⟨some 22, none, .prim (.bin false .add (.tmp 11) (.const (.int .i64 1)))⟩,
 ⟨some 11, none, .prim (.mov (.tmp 22))⟩])))))))
 (.seq (.ops [⟨some 23, none, .prim (.mov (.tmp 3))⟩,
 ⟨some 24, none, .call (.func 122) [(.const (.slice none 0 0)), (.tmp 23)]⟩,
 ⟨some 6, none, .prim (.mov (.tmp 24))⟩])
 (.seq (.seq (.ops [⟨some 25, none, .prim (.mov (.tmp 0))⟩,
 ⟨some 26, none, .prim (.lenv (.tmp 25))⟩,
 ⟨some 27, none, .prim (.mov (.const (.int .i64 0)))⟩])
 (.block 2 (.loop [0, 1, 2, 3, 4, 5, 7, 8, 9, 10, 11, 12, 13, 14, 15, 16, 17, 18, 19, 20, 21, 22, 23, 24, 28, 29, 30, 31, 32, 33, 34, 35] (.seq (.ops [⟨some 28, none, .prim (.bin false .lss (.tmp 27) (.tmp 26))⟩])
 (.seq (.cond (.tmp 28)
 .skip
 (.exit 2))
 (.seq (.block 3 (.seq (.ops [⟨some 29, none, .prim (.iadrs 1 (.tmp 25) (.tmp 27))⟩,
 ⟨some 30, none, .prim (.load 1 false (.tmp 29))⟩,
 ⟨some 8, none, .prim (.mov (.tmp 30))⟩])
 (.ops [⟨some 31, none, .prim (.mov (.tmp 6))⟩,
 ⟨some 32, none, .prim (.mov (.tmp 8))⟩,
 ⟨some 33, none, .prim (.app 1 (.tmp 31) (.tmp 32))⟩,
 ⟨some 6, none, .prim (.mov (.tmp 33))⟩])))
 (.ops [⟨some 34, none, .prim (.bin false .add (.tmp 27) (.const (.int .i64 1)))⟩,
 ⟨some 27, none, .prim (.mov (.tmp 34))⟩])))))))
 (.seq (.ops [⟨some 35, none, .prim (.mov (.tmp 6))⟩,
 ⟨some 2, none, .prim (.mov (.tmp 35))⟩])
 .ret))))))
def o68 : List Tmp := []
def r68 : List RV := [.tmp 2]
theorem t68 : Text Tryz.prog 68 o68 c68 r68 36 := ⟨⟨Tryz.f68, _, by kernel_rfl, by kernel_rfl, rfl, by kernel_rfl, by kernel_rfl, rfl⟩, by kernel_rfl⟩
def c70 : ACode :=
 (.seq (.ops [⟨some 1, none, .prim (.boxr (.tmp 0))⟩,
 ⟨some 2, none, .prim (.mov (.const (.slice none 0 0)))⟩])
 (.seq (.seq (.ops [⟨some 3, none, .prim (.fadr 0 (.tmp 1))⟩,
 ⟨some 4, none, .prim (.load 1 false (.tmp 3))⟩])
 (.cond (.tmp 4)
 (.seq (.ops [⟨some 5, none, .prim (.bsl false 1 false 1 [.pl (.int .u8 0)] [(0, 1, (.const (.int .u8 1)))])⟩,
 ⟨some 2, none, .prim (.mov (.tmp 5))⟩])
 (.ghost (.shut 2) .ret))
 .skip))
 (.seq (.draw [⟨⟨some 6, none, .prim (.bsl false 1 false 1 [.pl (.int .u8 0)] [(0, 1, (.const (.int .u8 0)))])⟩, [], false, 0, 4⟩,
 ⟨⟨some 7, none, .prim (.fadr 1 (.tmp 1))⟩, [], false, 0, 0⟩,
 ⟨⟨some 8, none, .prim (.load 1 false (.tmp 7))⟩, [1], false, 0, 0⟩,
 ⟨⟨some 9, none, .call (.func 94) [(.tmp 8)]⟩, [1, 2], true, 0, 0⟩,
 ⟨⟨some 10, none, .call (.func 93) [(.tmp 9)]⟩, [1, 2, 3], true, 0, 0⟩,
 ⟨⟨some 11, none, .prim (.fadr 2 (.tmp 1))⟩, [], false, 0, 2⟩,
 ⟨⟨some 12, none, .prim (.load 1 false (.tmp 11))⟩, [5], false, 0, 2⟩,
 ⟨⟨some 13, none, .call (.func 94) [(.tmp 12)]⟩, [1, 2, 3, 4, 5, 6], true, 0, 0⟩,
 ⟨⟨some 14, none, .call (.func 93) [(.tmp 13)]⟩, [1, 2, 3, 4, 5, 6, 7], true, 0, 0⟩,
 ⟨⟨some 15, none, .prim (.bsl false 1 false 3 [.nils] [(0, 1, (.tmp 6)), (1, 1, (.tmp 10)), (2, 1, (.tmp 14))])⟩, (List.range 9), false, 4, 4⟩,
 ⟨⟨some 16, none, .call (.func 68) [(.tmp 15)]⟩, (List.range 10), true, 0, 0⟩,
 ⟨⟨some 2, none, .prim (.mov (.tmp 16))⟩, (List.range 11), false, 5, 5⟩])
 (.ghost (.shut 2) .ret))))
def o70 : List Tmp := []
def r70 : List RV := [.tmp 2]
theorem t70 : Text Tryz.prog 70 o70 c70 r70 17 := ⟨⟨Tryz.f70, _, by kernel_rfl, by kernel_rfl, rfl, by kernel_rfl, by kernel_rfl, rfl⟩, by kernel_rfl⟩
def c93 : ACode :=
 (.seq (.ops [⟨some 2, none, .prim (.mov (.const (.slice none 0 0)))⟩])
 (.seq (.ops [⟨some 5, none, .prim (.mks 1 false [.pl (.int .u8 0)] (.const (.int .i64 8)) (.const (.int .i64 8)))⟩,
 ⟨some 3, none, .prim (.mov (.tmp 5))⟩])
 (.seq (.seq (.ops [⟨some 6, none, .prim (.mov (.tmp 3))⟩,
 ⟨some 7, none, .prim (.lenv (.tmp 6))⟩,
 ⟨some 8, none, .prim (.mov (.const (.int .i64 0)))⟩])
 (.block 0 (.loop [1, 2, 4, 5, 6, 9, 10, 11, 12, 13, 14, 15, 16, 17, 18, 19, 20, 21] (.seq (.ops [⟨some 9, none, .prim (.bin false .lss (.tmp 8) (.tmp 7))⟩])
 (.seq (.cond (.tmp 9)
 .skip
 (.exit 0))
 (.seq (.block 1 (.seq (.ops [⟨some 10, none, .prim (.mov (.tmp 8))⟩,
 ⟨some 4, none, .prim (.mov (.tmp 10))⟩])
 (.ops [⟨some 11, none, .prim (.mov (.tmp 3))⟩,
 ⟨some 12, none, .prim (.mov (.tmp 4))⟩,
 ⟨some 13, none, .prim (.mov (.tmp 0))⟩,
 ⟨some 14, none, .prim (.mov (.tmp 4))⟩,
 ⟨some 15, none, .prim (.bin false .mul (.const (.int .i64 8)) (.tmp 14))⟩,
 ⟨some 16, none, .prim (.bin false .sub (.const (.int .i64 56)) (.tmp 15))⟩,
 ⟨some 17, none, .prim (.bin false .shr (.tmp 13) (.tmp 16))⟩,
 ⟨some 18, none, .prim (.convi .u8 (.tmp 17))⟩,
 ⟨some 19, none, .prim (.iadrs 1 (.tmp 11) (.tmp 12))⟩,
 ⟨none, none, .prim (.store 1 (.tmp 19) (.tmp 18))⟩])))
 (.ops [⟨some 20, none, .prim (.bin false .add (.tmp 8) (.const (.int .i64 1)))⟩,
 ⟨some 8, none, .prim (.mov (.tmp 20))⟩])))))))
 (.seq (.ops [⟨some 21, none, .prim (.mov (.tmp 3))⟩,
 ⟨some 2, none, .prim (.mov (.tmp 21))⟩])
 (.ghost (.shut 2) .ret)))))
def o93 : List Tmp := []
def r93 : List RV := [.tmp 2]
theorem t93 : Text Tryz.prog 93 o93 c93 r93 22 := ⟨⟨Tryz.f93, _, by kernel_rfl, by kernel_rfl, rfl, by kernel_rfl, by kernel_rfl, rfl⟩, by kernel_rfl⟩
def c114 : ACode :=
 (.seq (.ops [⟨some 2, none, .prim (.mov (.const (.float Go.FloatKind.f64 0)))⟩])
 (.seq (.ops [⟨some 6, none, .prim (.mov (.tmp 0))⟩,
 ⟨some 7, none, .call (.func 140) [(.tmp 6)]⟩,
 ⟨some 8, none, .call (.func 139) [(.tmp 7)]⟩,
 ⟨some 5, none, .prim (.mov (.tmp 8))⟩,
 ⟨some 9, none, .prim (.extr 0 (.tmp 5))⟩,
 ⟨some 10, none, .prim (.extr 1 (.tmp 5))⟩,
 ⟨some 3, none, .prim (.mov (.tmp 9))⟩,
 ⟨some 4, none, .prim (.mov (.tmp 10))⟩])
 (.seq (.ops [⟨some 11, none, .prim (.mov (.tmp 0))⟩,
 ⟨some 12, none, .prim (.mov (.tmp 4))⟩,
 ⟨some 13, none, .call (.func 61) [(.tmp 11), (.tmp 12)]⟩])
 (.seq (.ops [⟨some 14, none, .prim (.mov (.tmp 3))⟩,
 ⟨some 2, none, .prim (.mov (.tmp 14))⟩])
 .ret))))
def o114 : List Tmp := []
def r114 : List RV := [.tmp 2]
theorem t114 : Text Tryz.prog 114 o114 c114 r114 15 := ⟨⟨Tryz.f114, _, by kernel_rfl, by kernel_rfl, rfl, by kernel_rfl, by kernel_rfl, rfl⟩, by kernel_rfl⟩
def c122 : ACode :=
 (.seq (.ops [⟨some 4, none, .prim (.mov (.const (.slice none 0 0)))⟩])
 (.seq (.seq (.ops [⟨some 5, none, .prim (.mov (.tmp 1))⟩,
 ⟨some 6, none, .prim (.bin false .lss (.tmp 5) (.const (.int .i64 0)))⟩])
 (.cond (.tmp 6)
 (.ops [⟨some 7, none, .prim (.bad)⟩,
 ⟨none, none, .prim (.bad)⟩])
 .skip))
 (.seq (.seq (.ops [⟨some 8, none, .prim (.mov (.tmp 1))⟩,
 ⟨some 9, none, .prim (.mov (.tmp 0))⟩,
 ⟨some 10, none, .prim (.capn (.tmp 9))⟩,
 ⟨some 11, none, .prim (.mov (.tmp 0))⟩,
 ⟨some 12, none, .prim (.lenv (.tmp 11))⟩,
 ⟨some 13, none, .prim (.bin false .sub (.tmp 10) (.tmp 12))⟩,
 ⟨some 14, none, .prim (.bin false .sub (.tmp 8) (.tmp 13))⟩,
 ⟨some 1, none, .prim (.mov (.tmp 14))⟩])
 (.seq (.ops [⟨some 15, none, .prim (.mov (.tmp 1))⟩,
 ⟨some 16, none, .prim (.bin false .gtr (.tmp 15) (.const (.int .i64 0)))⟩])
 (.cond (.tmp 16)
 (.ops [⟨some 17, none, .prim (.mov (.tmp 0))⟩,
 ⟨some 18, none, .prim (.mov (.tmp 0))⟩,
 ⟨some 19, none, .prim (.capn (.tmp 18))⟩,
 ⟨some 20, none, .prim (.slco 1 (.tmp 17) none (some (.tmp 19)))⟩,
 ⟨some 21, none, .prim (.mov (.tmp 1))⟩,
 ⟨some 22, none, .prim (.appz 1 false [.pl (.int .u8 0)] (.tmp 20) (.tmp 21))⟩,
 ⟨some 23, none, .prim (.mov (.tmp 0))⟩,
 ⟨some 24, none, .prim (.lenv (.tmp 23))⟩,
 ⟨some 25, none, .prim (.slco 1 (.tmp 22) none (some (.tmp 24)))⟩,
 ⟨some 0, none, .prim (.mov (.tmp 25))⟩])
 .skip)))
 (.seq (.ops [⟨some 26, none, .prim (.mov (.tmp 0))⟩,
 ⟨some 4, none, .prim (.mov (.tmp 26))⟩])
 .ret))))
def o122 : List Tmp := [20, 25]
def r122 : List RV := [.tmp 4]
theorem t122 : Text Tryz.prog 122 o122 c122 r122 27 := ⟨⟨Tryz.f122, _, by kernel_rfl, by kernel_rfl, rfl, by kernel_rfl, by kernel_rfl, rfl⟩, by kernel_rfl⟩
def c139 : ACode :=
 (.seq (.ops [⟨some 2, none, .prim (.mov (.const (.float Go.FloatKind.f64 0)))⟩,
 ⟨some 3, none, .prim (.mov (.const (.bool false)))⟩])
 (.seq (.ops [⟨some 5, none, .prim (.mov (.tmp 0))⟩,
 ⟨some 6, none, .call (.func 151) [(.tmp 5)]⟩,
 ⟨some 4, none, .prim (.mov (.tmp 6))⟩])
 (.seq (.seq (.ops [⟨some 7, none, .prim (.mov (.tmp 4))⟩,
 ⟨some 8, none, .call (.func 94) [(.tmp 7)]⟩,
 ⟨some 9, none, .prim (.mov (.tmp 0))⟩,
 ⟨some 10, none, .prim (.bin false .neq (.tmp 8) (.tmp 9))⟩])
 (.cond (.tmp 10)
 (.seq (.ops [⟨some 2, none, .prim (.mov (.const (.float Go.FloatKind.f64 0)))⟩,
 ⟨some 3, none, .prim (.mov (.const (.bool false)))⟩])
 .ret)
 .skip))
 (.seq (.ops [⟨some 11, none, .prim (.mov (.tmp 4))⟩,
 ⟨some 2, none, .prim (.mov (.tmp 11))⟩,
 ⟨some 3, none, .prim (.mov (.const (.bool true)))⟩])
 .ret))))
def o139 : List Tmp := []
def r139 : List RV := [.tmp 2, .tmp 3]
theorem t139 : Text Tryz.prog 139 o139 c139 r139 12 := ⟨⟨Tryz.f139, _, by kernel_rfl, by kernel_rfl, rfl, by kernel_rfl, by kernel_rfl, rfl⟩, by kernel_rfl⟩
def c140 : ACode :=
 (.seq (.ops [⟨some 2, none, .prim (.mov (.const (.int .u64 0)))⟩])
 (.seq (.ops [⟨some 6, none, .prim (.mov (.tmp 0))⟩,
 ⟨some 7, none, .call (.func 112) [(.tmp 6)]⟩,
 ⟨some 8, none, .call (.func 158) [(.tmp 7)]⟩,
 ⟨some 5, none, .prim (.mov (.tmp 8))⟩,
 ⟨some 9, none, .prim (.extr 0 (.tmp 5))⟩,
 ⟨some 10, none, .prim (.extr 1 (.tmp 5))⟩,
 ⟨some 3, none, .prim (.mov (.tmp 9))⟩,
 ⟨some 4, none, .prim (.mov (.tmp 10))⟩])
 (.seq (.seq (.ops [⟨some 11, none, .prim (.mov (.tmp 0))⟩,
 ⟨some 12, none, .prim (.mov (.tmp 4))⟩,
 ⟨some 13, none, .call (.func 113) [(.tmp 11), (.const (.int .i64 8)), (.tmp 12)]⟩,
 ⟨some 14, none, .prim (.un .not (.tmp 13))⟩])
 (.cond (.tmp 14)
 (.seq (.ops [⟨some 2, none, .prim (.mov (.const (.int .u64 0)))⟩])
 .ret)
 .skip))
 (.seq (.ops [⟨some 15, none, .prim (.mov (.tmp 3))⟩,
 ⟨some 2, none, .prim (.mov (.tmp 15))⟩])
 .ret))))
def o140 : List Tmp := []
def r140 : List RV := [.tmp 2]
theorem t140 : Text Tryz.prog 140 o140 c140 r140 16 := ⟨⟨Tryz.f140, _, by kernel_rfl, by kernel_rfl, rfl, by kernel_rfl, by kernel_rfl, rfl⟩, by kernel_rfl⟩
def c158 : ACode :=
 (.seq (.ops [⟨some 2, none, .prim (.mov (.const (.int .u64 0)))⟩,
 ⟨some 3, none, .prim (.mov (.const (.bool false)))⟩])
 (.seq (.seq (.ops [⟨some 7, none, .prim (.mov (.tmp 0))⟩,
 ⟨some 8, none, .prim (.lenv (.tmp 7))⟩,
 ⟨some 9, none, .prim (.bin false .lss (.tmp 8) (.const (.int .i64 8)))⟩])
 (.cond (.tmp 9)
 (.seq (.ops [⟨some 2, none, .prim (.mov (.const (.int .u64 0)))⟩,
 ⟨some 3, none, .prim (.mov (.const (.bool false)))⟩])
 .ret)
 .skip))
 (.seq (.ops [⟨some 4, none, .prim (.mov (.const (.int .u64 0)))⟩])
 (.seq (.seq (.ops [⟨some 10, none, .prim (.mov (.tmp 0))⟩,
 ⟨some 11, none, .prim (.slcv 1 (.tmp 10) none (some (.const (.int .i64 8))))⟩,
 ⟨some 12, none, .prim (.lenv (.tmp 11))⟩,
 ⟨some 13, none, .prim (.mov (.const (.int .i64 0)))⟩])
 (.block 0 (.loop [0, 1, 2, 3, 5, 6, 7, 8, 9, 10, 14, 15, 16, 17, 18, 19, 20, 21, 22, 23] (.seq (.ops [⟨some 14, none, .prim (.bin false .lss (.tmp 13) (.tmp 12))⟩])
 (.seq (.cond (.tmp 14)
 .skip
 (.exit 0))
 (.seq (.block 1 (.seq (.ops [⟨some 15, none, .prim (.iadrs 1 (.tmp 11) (.tmp 13))⟩,
 ⟨some 16, none, .prim (.load 1 false (.tmp 15))⟩,
 ⟨some 6, none, .prim (.mov (.tmp 16))⟩])
 (.ops [⟨some 17, none, .prim (.mov (.tmp 4))⟩,
 ⟨some 18, none, .prim (.bin false .shl (.tmp 17) (.const (.int .u64 8)))⟩,
 ⟨some 19, none, .prim (.mov (.tmp 6))⟩,
 ⟨some 20, none, .prim (.convi .u64 (.tmp 19))⟩,
 ⟨some 21, none, .prim (.bin false .or (.tmp 18) (.tmp 20))⟩,
 ⟨some 4, none, .prim (.mov (.tmp 21))⟩])))
 (.ops [⟨some 22, none, .prim (.bin false .add (.tmp 13) (.const (.int .i64 1)))⟩,
 ⟨some 13, none, .prim (.mov (.tmp 22))⟩])))))))
 (.seq (.ops [⟨some 23, none, .prim (.mov (.tmp 4))⟩,
 ⟨some 2, none, .prim (.mov (.tmp 23))⟩,
 ⟨some 3, none, .prim (.mov (.const (.bool true)))⟩])
 .ret)))))
def o158 : List Tmp := []
def r158 : List RV := [.tmp 2, .tmp 3]
theorem t158 : Text Tryz.prog 158 o158 c158 r158 24 := ⟨⟨Tryz.f158, _, by kernel_rfl, by kernel_rfl, rfl, by kernel_rfl, by kernel_rfl, rfl⟩, by kernel_rfl⟩
end Go.Proofs.YtmkmhhjkdaklbaaGreat
namespace Go.Ab
open Go
section
variable {P : Program} {f : FuncId} {args : List AV} {σ : St}
theorem Ans.shutAt {sz n l : Nat} {xs : List AV} {ex : St} (h : Ans P f args σ (.osl l n) (σ ++ ex)) (hl : σ.length ≤ l) (hget : (σ ++ ex)[l]? = some (.row sz xs)) (hn : n = xs.length) (hb : Bel σ.length (.sl sz xs)) : Ans P f args σ (.sl sz xs) σ := by
 intro M ν w vs g hvs
 have hs : sealV (σ ++ ex) (.osl l n) = some (.sl sz xs, (σ ++ ex).set l .dead) := by
  simp only [sealV, hget, hn, if_true]
 have ht : ((σ ++ ex).set l .dead).take σ.length = σ := by
  rw [List.set_append_right _ _ hl, List.take_left]
 have key : ∀ v w', After M σ ν w (.osl l n) (σ ++ ex) v w' → After M σ ν w (.sl sz xs) σ v w' := by
  rintro v w' ⟨M', ν', g', l', r1⟩
  obtain ⟨M2, g2, l2, r2⟩ := sealV_ok g' hs r1
  have hbo : ∀ o ∈ ((σ ++ ex).set l .dead).take σ.length, BelO σ.length o := by rw [ht]; exact g.bel
  have g3 := g2.take hbo
  have l3 := (l'.trans l2).take (m := σ.length) (Nat.le_refl _)
  have r3 := r2.take hb
  rw [ht] at g3 l3 r3
  exact ⟨M2, ν', g3, l3, r3⟩
 rcases h M ν w vs g hvs with ⟨h1, h2⟩ | ⟨v, w', h1, h2⟩
 · exact .inl ⟨h1, h2.mono fun e w' ⟨v, he, h3⟩ => ⟨v, he, key v w' h3⟩⟩
 · exact .inr ⟨v, w', h1, key v w' h2⟩
end
end Go.Ab
namespace Go.Proofs.YtmkmhhjkdaklbaaGreat
open Go Go.Ab Go.Cod
set_option maxRecDepth 100000
abbrev Zb : AV := .pl (.int .u8 0)
abbrev bsv (bs : List Byt) : List AV := bs.map fun b => .sl 1 (byv b)
theorem bsv_len (bs : List Byt) : (bsv bs).length = bs.length := List.length_map ..
theorem bsv_get (bs : List Byt) (i : Nat) (h : i < bs.length) : (bsv bs)[i]? = some (.sl 1 (byv bs[i])) := by simp [h]
theorem flat_succ (bs : List Byt) (i : Nat) (h : i < bs.length) : (bs.take (i + 1)).flatten = (bs.take i).flatten ++ bs[i] := by
 rw [List.take_succ_eq_append_getElem h, List.flatten_append]; simp
theorem flat_le (bs : List Byt) (i : Nat) : ((bs.take i).flatten).length ≤ bs.flatten.length := by
 have : bs.flatten = (bs.take i).flatten ++ (bs.drop i).flatten := by rw [← List.flatten_append, List.take_append_drop]
 rw [this, List.length_append]; omega
section
variable (σ : St)
theorem grow_ans (n : Nat) (h : 0 < n) (hn : n ≤ 1000000) : Ans Tryz.prog 122 [.nils, I n] σ (.osl (σ.length + 1) 0) (σ ++ [.dead, .row 1 []]) := by
 have d0 : decide ((n : Int) < 0) = false := by simp
 have w1 : IntKind.i64.wrap (n : Int) = n := wrapI (by omega)
 have d1 : decide ((0 : Int) < n) = true := by simp; omega
 have hz : ((n : Int) = 0) = False := eq_false (by omega)
 have hp : ((0 : Int) < n) = True := eq_true (by omega)
 have hle : ((n : Int) ≤ 4294967296) = True := eq_true (by omega)
 have hc : (chunks 1 false n (repeatA [Zb] n)).length = n := chunks_length _ _ _ _
 have z0 : Int.toNat 0 = 0 := rfl
 refine Ans.of_run t122 ?_
 simp -implicitDefEqProofs only [c122, r122, go_sem, d0]
 have z0 : Int.toNat 0 = 0 := rfl
 have z1 : Int.toNat ((n : Nat) : Int) = n := Int.toNat_natCast n
 have w0 : IntKind.i64.wrap 0 = 0 := rfl
 simp -implicitDefEqProofs only [go_sem, d0, Int.sub_zero, w1, d1, w0, hz, hp, hle, z0, z1, g0, s0, hc, List.take_zero, List.drop_zero, Int.natCast_nonneg, Int.le_refl, Nat.sub_zero, List.length_append, List.length_cons, List.length_nil, List.append_assoc, List.cons_append, List.nil_append]
 exact Fini.ret rfl
theorem concat_ans (bs : List Byt) (hl : bs.length ≤ 100) (h0 : 0 < bs.flatten.length) (h1 : bs.flatten.length ≤ 1000000) :
  Ans Tryz.prog 68 [.sl 1 (bsv bs)] σ (.osl (σ.length + 1) bs.flatten.length) (σ ++ [.dead, .row 1 (byv bs.flatten)]) := by
 refine Ans.of_run t68 ?_
 simp -implicitDefEqProofs only [c68, r68, go_sem, bsv_len]
 refine Go.Ab.L.count bs.length (fun i => mkE 36 [(0, .sl 1 (bsv bs)), (3, I ((bs.take i).flatten.length : Nat)), (9, .sl 1 (bsv bs)), (10, I bs.length), (11, I i)]) (fun _ => σ) ?_ ?_ rfl rfl
 · intro i hi J hJ
   have hf := flat_le bs (i + 1)
   rw [flat_succ bs i hi] at hJ hf
   have hx := bsv_get bs i hi
   rw [List.length_append] at hJ hf
   generalize bs[i] = c at hJ hf hx
   generalize (bs.take i).flatten.length = t at hJ hf ⊢
   have ha : IntKind.i64.wrap ((t : Int) + (c.length : Int)) = ((t + c.length : Nat) : Int) := by rw [wrapN (by omega) (by omega)]; omega
   have d0 : decide (((t + c.length : Nat) : Int) < 0) = false := by simp; omega
   have hin := wrap_succ (i := i) (by omega)
   simp -implicitDefEqProofs only [mkE, go_sem, bsv_len, nat_lt hi, dec_lt hi, hx, byv_len, ha, d0, hin]
   exact hJ
 · intro J
   have d0 : decide ((bs.length : Int) < bs.length) = false := by simp
   simp -implicitDefEqProofs only [mkE, go_sem, bsv_len, d0, List.take_length]
   refine CO.intro (grow_ans σ bs.flatten.length h0 h1) ?_
   simp -implicitDefEqProofs only [go_sem, bsv_len]
   refine Go.Ab.L.count bs.length (fun i => mkE 36 [(6, .osl (σ.length + 1) (bs.take i).flatten.length), (25, .sl 1 (bsv bs)), (26, I bs.length), (27, I i)]) (fun i => σ ++ [.dead, .row 1 (byv (bs.take i).flatten)]) ?_ ?_ rfl rfl
   · intro i hi J hJ
     have hf := flat_le bs (i + 1)
     rw [flat_succ bs i hi] at hJ hf
     have hx := bsv_get bs i hi
     rw [List.length_append] at hJ hf
     generalize bs[i] = c at hJ hf hx
     generalize (bs.take i).flatten = t at hJ hf ⊢
     have hle : t.length + c.length ≤ 4294967296 := by omega
     have hin := wrap_succ (i := i) (by omega)
     simp -implicitDefEqProofs only [mkE, go_sem, bsv_len, nat_lt hi, dec_lt hi, hx, byv_len, byv_all', bc, hin, g1, s1, hle]
     simp only [byv_append] at hJ
     exact hJ
   · intro J
     simp -implicitDefEqProofs only [mkE, go_sem, bsv_len, d0, List.take_length]
     exact Fini.ret rfl
theorem concat_sl (bs : List Byt) (hl : bs.length ≤ 100) (h0 : 0 < bs.flatten.length) (h1 : bs.flatten.length ≤ 1000000) :
  Ans Tryz.prog 68 [.sl 1 (bsv bs)] σ (.sl 1 (byv bs.flatten)) σ :=
 (concat_ans σ bs hl h0 h1).shutAt (by omega) (by rw [List.getElem?_append_right (by omega)]; simp) (by rw [byv_len]) (bel_byv _ _)
end
end Go.Proofs.YtmkmhhjkdaklbaaGreat
namespace Go.Proofs.YtmkmhhjkdaklbaaGreat
open Go Go.Ab Go.Cod
set_option maxRecDepth 100000
theorem fill_set (l z : List AV) (i : Nat) (h : i < l.length) (hz : l.length = z.length) : (l.take i ++ z.drop i).set i l[i] = l.take (i + 1) ++ z.drop (i + 1) := by
 have h1 : (l.take i).length = i := by rw [List.length_take]; omega
 rw [List.set_append_right _ _ (by omega), h1, Nat.sub_self, List.drop_eq_getElem_cons (by omega), List.set_cons_zero, List.take_succ_eq_append_getElem h, List.append_assoc]
 rfl
def fillW (n i : Nat) : List AV := (byv (wrdB n)).take i ++ (List.replicate 8 Zb).drop i
theorem wrdB_len (n : Nat) : (wrdB n).length = 8 := rfl
theorem fillW_len (n i : Nat) (h : i ≤ 8) : (fillW n i).length = 8 := by
 unfold fillW
 rw [List.length_append, List.length_take, List.length_drop, byv_len, wrdB_len, List.length_replicate]
 omega
theorem fillW_set (n i : Nat) (h : i < 8) : (fillW n i).set i (bc (n / 2 ^ (56 - 8 * i)).toUInt8) = fillW n (i + 1) := by
 have e : (byv (wrdB n))[i]'(by rw [byv_len, wrdB_len]; exact h) = bc (n / 2 ^ (56 - 8 * i)).toUInt8 := by
  match i, h with
  | 0, _ => rfl
  | 1, _ => rfl
  | 2, _ => rfl
  | 3, _ => rfl
  | 4, _ => rfl
  | 5, _ => rfl
  | 6, _ => rfl
  | 7, _ => show bc n.toUInt8 = bc (n / 2 ^ 0).toUInt8; rw [Nat.pow_zero, Nat.div_one]
 have := fill_set (byv (wrdB n)) (List.replicate 8 Zb) i (by rw [byv_len, wrdB_len]; exact h) (by rw [byv_len, wrdB_len, List.length_replicate])
 rw [e] at this
 exact this
theorem fillW_get (n i : Nat) (h : i < 8) : (fillW n i)[i]? = some Zb := by
 unfold fillW
 have h1 : ((byv (wrdB n)).take i).length = i := by rw [List.length_take, byv_len, wrdB_len]; omega
 rw [List.getElem?_append_right (by omega), h1, Nat.sub_self, List.getElem?_drop, List.getElem?_replicate, if_pos (by omega)]
theorem mks8 : (chunks 1 false (8 : Int).toNat (repeatA [Zb] (8 : Int).toNat)).take (8 : Int).toNat = List.replicate 8 Zb := rfl
theorem shrN (n k : Nat) (h : k ≤ 64) : ((n : Int).fdiv (2 ^ min ((k : Nat) : Int).toNat 64)) = ((n / 2 ^ k : Nat) : Int) := by
 have : min ((k : Nat) : Int).toNat 64 = k := by rw [Int.toNat_natCast]; omega
 rw [this, Int.fdiv_eq_ediv_of_nonneg _ (Int.pow_nonneg (by decide))]
 push_cast; rfl
theorem wrap8U (n : Nat) : IntKind.u8.wrap (n : Int) = ((n.toUInt8.toNat : Nat) : Int) := by
 rw [wrap8N, toUInt8_mod]
section
variable (σ : St)
theorem putword_ans (n : Nat) : Ans Tryz.prog 93 [UN n] σ (.sl 1 (byv (wrdB n))) σ := by
 refine Ans.of_run' t93 (fun hbel _ => ?_)
 have z8 : Int.toNat 8 = 8 := rfl
 simp -implicitDefEqProofs only [c93, r93, go_sem, mks8, z8, g0, s0, List.length_cons, List.length_nil]
 refine Go.Ab.L.count 8 (fun i => mkE 22 [(0, UN n), (3, .osl σ.length 8), (7, I 8), (8, I i)]) (fun i => σ ++ [.row 1 (fillW n i)]) ?_ ?_ rfl rfl
 · intro i hi J hJ
   have hl := fillW_len n i (by omega)
   have d0 : decide ((i : Int) < 8) = true := by simp; omega
   have w1 : IntKind.i64.wrap (8 * (i : Int)) = ((8 * i : Nat) : Int) := by rw [wrapN (by omega) (by omega)]; push_cast; rfl
   have w2 : IntKind.i64.wrap (56 - ((8 * i : Nat) : Int)) = ((56 - 8 * i : Nat) : Int) := by rw [wrapN (by omega) (by omega)]; omega
   have h3 := shrN n (56 - 8 * i) (by omega)
   rw [Int.toNat_natCast] at h3
   have hlt : ((i : Int) < ((8 : Nat) : Int)) = True := eq_true (by omega)
   have hget : (fillW n i)[i]? = some Zb := fillW_get n i hi
   have hin := wrap_succ (i := i) (by omega)
   have hset : (fillW n i).set i (.pl (.int .u8 ((n / 2 ^ (56 - 8 * i)).toUInt8.toNat : Nat))) = fillW n (i + 1) := fillW_set n i hi
   simp -implicitDefEqProofs only [mkE, go_sem, d0, w1, w2, h3, wrap8U, g0, s0, hl, hin, hset, hlt, hget]
   exact hJ
 · intro J
   have hl := fillW_len n 8 (by omega)
   have d0 : decide (((8 : Nat) : Int) < 8) = false := by decide
   have e8 : fillW n 8 = byv (wrdB n) := by unfold fillW; rw [List.take_of_length_le (by rw [byv_len, wrdB_len]; omega)]; simp
   simp -implicitDefEqProofs only [mkE, go_sem, d0, g0, s0, hl, e8]
   exact Fini.trim2 (σ' := σ) rfl rfl (Nat.le_refl _) (bel_byv _ _) hbel
def wN (b : Byt) : Nat := b.foldl (fun a c => a * 256 + c.toNat) 0
theorem wN_snoc (b : Byt) (c : UInt8) : wN (b ++ [c]) = wN b * 256 + c.toNat := by simp [wN]
theorem wN_lt' : ∀ (b : Byt) (a : Nat), b.foldl (fun a c => a * 256 + c.toNat) a < (a + 1) * 2 ^ (8 * b.length)
 | [], a => by simp
 | c :: b, a => by
   have ih := wN_lt' b (a * 256 + c.toNat)
   have hc := c.toNat_lt
   have e : 8 * (c :: b).length = 8 + 8 * b.length := by simp only [List.length_cons]; omega
   rw [List.foldl_cons, e, Nat.pow_add, ← Nat.mul_assoc]
   exact Nat.lt_of_lt_of_le ih (Nat.mul_le_mul_right _ (by omega))
theorem wN_lt (b : Byt) : wN b < 2 ^ (8 * b.length) := by have := wN_lt' b 0; simpa [wN] using this
theorem wordR_of : ∀ b : Byt, wordR b = if 8 ≤ b.length then some (wN (b.take 8), b.drop 8) else none
 | a :: b :: c :: d :: e :: f :: g :: h :: t => by
   rw [if_pos (by simp only [List.length_cons]; omega)]
   simp [wordR, wN]
 | [] => rfl
 | [_] => rfl
 | [_, _] => rfl
 | [_, _, _] => rfl
 | [_, _, _, _] => rfl
 | [_, _, _, _, _] => rfl
 | [_, _, _, _, _, _] => rfl
 | [_, _, _, _, _, _, _] => rfl
theorem or_low (n c : Nat) (hc : c < 256) (hn : n < 2 ^ 56) : IntKind.u64.wrap ((BitVec.ofInt 64 (IntKind.u64.wrap ((n : Int) * 2 ^ min 8 64)) ||| BitVec.ofInt 64 (c : Int)).toNat : Int) = ((n * 256 + c : Nat) : Int) := by
 have h := or_shl c n 8 (by omega) (by decide) (by omega)
 rw [BitVec.or_comm]
 exact h.trans (by congr 1; omega)
def wordV (b : Byt) : AV := match wordR b with
 | none => .tup [UN 0, Bo false]
 | some p => .tup [UN p.1, Bo true]
theorem getword_ans (b : Byt) (hb : b.length ≤ 100000) : Ans Tryz.prog 158 [.sl 1 (byv b)] σ (wordV b) σ := by
 refine Ans.of_run t158 ?_
 unfold wordV
 rw [wordR_of]
 by_cases h8 : 8 ≤ b.length
 · have d0 : decide ((b.length : Int) < 8) = false := by simp; omega
   have l8 : (8 : Int) ≤ (b.length : Nat) := by omega
   have lt8 : (b.take 8).length = 8 := by rw [List.length_take]; omega
   have z8 : Int.toNat 8 = 8 := rfl
   have z0 : Int.toNat 0 = 0 := rfl
   rw [if_pos h8]
   simp only
   simp -implicitDefEqProofs only [c158, r158, go_sem, byv_len, d0, l8, z8, z0, byv_take, byv_drop, List.drop_zero, lt8]
   refine Go.Ab.L.count 8 (fun i => mkE 24 [(4, UN (wN ((b.take 8).take i))), (11, .sl 1 (byv (b.take 8))), (12, I 8), (13, I i)]) (fun _ => σ) ?_ ?_ rfl rfl
   · intro i hi J hJ
     have hx := byv_get (b.take 8) i (by omega)
     have hs : (b.take 8).take (i + 1) = (b.take 8).take i ++ [(b.take 8)[i]] := List.take_succ_eq_append_getElem (by omega)
     rw [hs, wN_snoc] at hJ
     have hl := wN_lt ((b.take 8).take i)
     rw [List.length_take] at hl
     have hl : wN ((b.take 8).take i) < 2 ^ 56 := Nat.lt_of_lt_of_le hl (Nat.pow_le_pow_right (by decide) (by omega))
     have hc := ((b.take 8)[i]).toNat_lt
     generalize (b.take 8)[i] = c at hx hJ hc
     generalize wN ((b.take 8).take i) = w at hl hJ ⊢
     have hor := or_low w c.toNat hc hl
     have hwc := wrapUN (n := c.toNat) (by omega)
     have d1 : decide ((i : Int) < 8) = true := by simp; omega
     have hlt : ((i : Int) < ((8 : Nat) : Int)) = True := eq_true (by omega)
     have hin := wrap_succ (i := i) (by omega)
     simp -implicitDefEqProofs only [mkE, go_sem, d1, byv_len, lt8, hlt, hx, bc, hwc, z8, hin]
     have key : ∀ v : Int, v = ((w * 256 + c.toNat : Nat) : Int) → J (mkE 24 [(4, .pl (.int .u64 v)), (11, .sl 1 (byv (b.take 8))), (12, I 8), (13, I ((i + 1 : Nat) : Int))]) σ := by
      rintro _ rfl
      exact hJ
     exact key _ hor
   · intro J
     have d1 : decide (((8 : Nat) : Int) < 8) = false := by decide
     have e8 : (b.take 8).take 8 = b.take 8 := List.take_of_length_le (by omega)
     simp -implicitDefEqProofs only [mkE, go_sem, d1, e8]
     exact Fini.ret rfl
 · have d0 : decide ((b.length : Int) < 8) = true := by simp; omega
   rw [if_neg h8]
   simp -implicitDefEqProofs only [c158, r158, go_sem, byv_len, d0]
   exact Fini.ret rfl
theorem frombits_ans (u : Nat) : Ans Tryz.prog 151 [UN u] σ (Fl u) σ := ext_frombits.ok _ _ _ _ rfl
theorem of_ans (u : Nat) : Ans Tryz.prog 139 [UN u] σ (.tup [Fl (if okV u then u else 0), Bo (okV u)]) σ := by
 have e : (((bitsF u : Nat) : Int) != (u : Nat)) = !okV u := by
  unfold okV
  rw [bne]
  congr 1
  rw [Bool.eq_iff_iff]
  simp only [beq_iff_eq, decide_eq_true_eq]
  omega
 refine Ans.of_run t139 ?_
 simp -implicitDefEqProofs only [c139, r139, go_sem]
 refine CO.intro (frombits_ans σ u) ?_
 simp -implicitDefEqProofs only [go_sem]
 refine CO.intro (bits_ans σ u) ?_
 simp -implicitDefEqProofs only [go_sem, e]
 cases h : okV u with
 | true =>
   simp -implicitDefEqProofs only [go_sem]
   exact Fini.ret rfl
 | false =>
   simp -implicitDefEqProofs only [go_sem]
   exact Fini.ret rfl
section
variable (p : Nat) (b : Byt) (q : Nat × Bool)
theorem word_ans (h : σ[p]? = some (rob b q)) (hq : Inb b q) (hb : b.length ≤ 50000) :
  Ans Tryz.prog 140 [.ptr p 0] σ (UN (runR wordR 0 b q).1) (σ.set p (rob b (runR wordR 0 b q).2)) := by
 refine Ans.of_run t140 ?_
 simp -implicitDefEqProofs only [c140, r140, go_sem]
 refine CO.intro (rest_ans σ p b q h hq) ?_
 simp -implicitDefEqProofs only [go_sem]
 refine CO.intro (getword_ans σ (b.drop q.1) (by rw [List.length_drop]; omega)) ?_
 obtain ⟨a, bad⟩ := q
 simp only at hq h ⊢
 have hq : a ≤ b.length := hq
 unfold wordV
 have hw := wordR_of (b.drop a)
 have ht := took_ans σ p b (a, bad) 8 (wordR (b.drop a)).isSome h (by simp only; omega)
 cases hg : wordR (b.drop a) with
 | none =>
   rw [hg] at ht
   have e : took (a, bad) 8 (none : Option (Nat × Byt)).isSome = (a, true) := by cases bad <;> rfl
   rw [e] at ht
   simp -implicitDefEqProofs only [go_sem]
   refine CO.intro ht ?_
   simp -implicitDefEqProofs only [go_sem]
   cases bad with
   | true => rw [runR_bad]; exact Fini.ret rfl
   | false => rw [runR_none hg]; exact Fini.ret rfl
 | some x =>
   obtain ⟨n, t⟩ := x
   rw [hg] at ht hw
   have hl : t.length = b.length - (a + 8) ∧ a + 8 ≤ b.length := by
    split at hw
    · rename_i h8
      simp only [Option.some.injEq, Prod.mk.injEq] at hw
      rw [hw.2, List.length_drop, List.length_drop]
      rw [List.length_drop] at h8
      omega
    · cases hw
   simp -implicitDefEqProofs only [go_sem]
   refine CO.intro ht ?_
   cases bad with
   | true =>
     have e : took (a, true) 8 (some (n, t)).isSome = (a, true) := rfl
     rw [e, runR_bad]
     simp -implicitDefEqProofs only [go_sem]
     exact Fini.ret rfl
   | false =>
     have e : took (a, false) 8 (some (n, t)).isSome = (b.length - t.length, false) := by
      simp only [took, Option.isSome_some, Bool.false_or, Bool.not_true, Bool.false_eq_true, if_false]
      congr 1; omega
     rw [e, runR_some hg]
     simp -implicitDefEqProofs only [go_sem]
     exact Fini.ret rfl
theorem valr_ans (h : σ[p]? = some (rob b q)) (hq : Inb b q) (hb : b.length ≤ 50000) :
  Ans Tryz.prog 114 [.ptr p 0] σ (Fl (valS b q).1) (σ.set p (rob b (valS b q).2)) := by
 refine Ans.of_run t114 ?_
 simp -implicitDefEqProofs only [c114, r114, go_sem]
 refine CO.intro (word_ans σ p b q h hq hb) ?_
 have hi2 := run_inb wordR 0 b q hq
 unfold valS
 generalize runR wordR 0 b q = w at hi2 ⊢
 simp -implicitDefEqProofs only [go_sem]
 refine CO.intro (of_ans _ w.1) ?_
 simp -implicitDefEqProofs only [go_sem]
 have h2 := refuse_ans (σ.set p (rob b w.2)) p b w.2 (okV w.1) (get_set_eq' h _) hi2 hb
 rw [List.set_set] at h2
 refine CO.intro h2 ?_
 simp -implicitDefEqProofs only [go_sem]
 exact Fini.ret rfl
end
end
end Go.Proofs.YtmkmhhjkdaklbaaGreat
namespace Go.Proofs.YtmkmhhjkdaklbaaGreat
open Go Go.Ab
set_option maxRecDepth 100000
def vals8 : List ByteArray := values ++ [⟨#[]⟩]
abbrev Mz := Int × ByteArray × ByteArray
abbrev dv (d : Int × Int × Int) : AV := .agg [I d.1, I d.2.1, I d.2.2]
section
variable (σ : St)
end
end Go.Proofs.YtmkmhhjkdaklbaaGreat
namespace Go.Proofs.YtmkmhhjkdaklbaaGreat
open Go Go.Ab
set_option maxRecDepth 100000
def allV : List ByteArray := vals8 ++ pats
instance : DecidableEq ByteArray := fun a b => decidable_of_iff (a.data = b.data) (by cases a; cases b; simp)
structure MOK (x : Mz) : Prop where
 lo : 1 ≤ x.1
 hi : x.1 ≤ 4
 nm : x.2.1 ∈ names
 low : x.1 < 3 → x.2.2 ∈ vals8
 high : ¬ x.1 < 3 → x.2.2 ∈ pats
theorem MOK.val {x : Mz} (h : MOK x) : x.2.2 ∈ allV := by
 unfold allV
 by_cases h3 : x.1 < 3
 · exact List.mem_append_left _ (h.low h3)
 · exact List.mem_append_right _ (h.high h3)
end Go.Proofs.YtmkmhhjkdaklbaaGreat
namespace Go.Proofs.YtmkmhhjkdaklbaaGreat
open Go Go.Ab Go.Cod
set_option maxRecDepth 100000
def bandV (b : Bool × Nat × Nat) : AV := .agg [Bo b.1, Fl b.2.1, Fl b.2.2]
theorem bel_bandV (n : Nat) (b : Bool × Nat × Nat) : Bel n (bandV b) := .agg _ fun i hi => by
 have : ∀ y ∈ ([Bo b.1, Fl b.2.1, Fl b.2.2] : List AV), Bel n y := by
  intro y hy
  simp only [List.mem_cons, List.not_mem_nil, or_false] at hy
  rcases hy with rfl | rfl | rfl <;> exact .pl _
 exact this _ (List.getElem_mem hi)
section
variable (σ : St)
end
end Go.Proofs.YtmkmhhjkdaklbaaGreat
namespace Go.Proofs.YtmkmhhjkdaklbaaGreat
open Go Go.Ab Go.Cod
set_option maxRecDepth 100000
theorem txs_snoc (l : List ByteArray) (s : ByteArray) : txs (l ++ [s]) = txs l ++ [Sx s] := by simp [txs]
theorem txs_nil : txs [] = [] := rfl
theorem bel_txs (n : Nat) (L : List ByteArray) : Bel n (.sl 1 (txs L)) := by
 refine .sl 1 _ fun i hi => ?_
 have : ∀ y ∈ txs L, Bel n y := by
  intro y hy
  simp only [txs, List.mem_map] at hy
  obtain ⟨x, _, rfl⟩ := hy
  exact .pl _
 exact this _ (List.getElem_mem hi)
theorem g2 (σ : St) (x y z : Ob) (ex : St) : (σ ++ x :: y :: z :: ex)[σ.length + 2]? = some z := by rw [List.getElem?_append_right (by simp)]; simp
theorem s2 (σ : St) (x y z u : Ob) (ex : St) : (σ ++ x :: y :: z :: ex).set (σ.length + 2) u = σ ++ x :: y :: u :: ex := by rw [List.set_append_right _ _ (by simp)]; simp
section
variable (σ : St)
end
end Go.Proofs.YtmkmhhjkdaklbaaGreat
namespace Go.Proofs.YtmkmhhjkdaklbaaGreat
open Go Go.Ab Go.Cod
set_option maxRecDepth 100000
theorem Inb0 (b : Byt) : Inb b (0, false) := Nat.zero_le _
section
variable (σ : St)
theorem put_sl (n : Nat) (hn : n < 18446744073709551616) : Ans Tryz.prog 71 [UN n] σ (.sl 1 (byv (putN n))) σ := (put_ans σ n hn).shut (by rw [byv_len]) (bel_byv _ _)
theorem putband_ans (x : Bnd) : Ans Tryz.prog 70 [bandV x] σ (.sl 1 (byv (putBd x))) σ := by
 obtain ⟨any, lo, hi⟩ := x
 refine Ans.of_run t70 ?_
 unfold bandV putBd
 cases any with
 | true =>
   simp -implicitDefEqProofs only [c70, r70, go_sem]
   exact Fini.ret rfl
 | false =>
   have hc := fun s => concat_sl s [[0], putV lo, putV hi] (by simp) (by simp) (by simp [putV, wrdB_len])
   have e : ([[0], putV lo, putV hi] : List Byt).flatten = 0 :: (putV lo ++ putV hi) := by simp
   rw [e] at hc
   have i1 := fun s => bits_ans s lo
   have i2 := fun s => bits_ans s hi
   have i3 := fun s => putword_ans s (bitsF lo)
   have i4 := fun s => putword_ans s (bitsF hi)
   simp -implicitDefEqProofs only [c70, r70, go_sem]
   first | refine CD.intro (i1 _) ?_ | refine CS.intro i1 ?_
   simp -implicitDefEqProofs only [go_sem]
   first | refine CD.intro (i3 _) ?_ | refine CS.intro i3 ?_
   simp -implicitDefEqProofs only [go_sem]
   first | refine CD.intro (i2 _) ?_ | refine CS.intro i2 ?_
   simp -implicitDefEqProofs only [go_sem]
   first | refine CD.intro (i4 _) ?_ | refine CS.intro i4 ?_
   simp -implicitDefEqProofs only [go_sem]
   refine CD.intro (hc _) ?_
   simp -implicitDefEqProofs only [go_sem]
   exact Fini.ret rfl
theorem readband_ans (b : Byt) (hb : b.length ≤ 50000) : Ans Tryz.prog 58 [.sl 1 (byv b)] σ (readV (bandR b) b bandV (bandV (false, 0, 0))) σ := by
 have hS := (steps_band b).top
 refine Ans.of_run' t58 (fun hbel _ => ?_)
 simp -implicitDefEqProofs only [c58, r58, go_sem]
 refine CO.intro (new_ans _ b) ?_
 simp -implicitDefEqProofs only [go_sem, List.append_assoc, List.length_append]
 generalize hq1 : runR byteR 0 b (0, false) = q1
 have hin1 : Inb b q1.2 := by rw [← hq1]; exact run_inb _ _ _ _ (Inb0 b)
 have hby := byte_ans' (σ ++ [.box [Bo false, Fl 0, Fl 0], rob b (0, false), .box [Bo false, Fl 0, Fl 0]]) (σ.length + 1) b (0, false) (g1 _ _ _ _) (Inb0 b) hb
 rw [hq1, s1] at hby
 refine CO.intro hby ?_
 obtain ⟨c, q⟩ := q1
 simp only at hin1 ⊢
 by_cases h0 : c = 0
 · subst h0
   have v1 := valr_ans (σ ++ [.box [Bo false, Fl 0, Fl 0], rob b q, .box [Bo false, Fl 0, Fl 0]]) (σ.length + 1) b q (g1 _ _ _ _) hin1 hb
   have hi2 := (steps_value b).inb q hin1
   have hL : bandS b (0, false) = ((false, (valS b q).1, (valS b (valS b q).2).1), took (valS b (valS b q).2).2 0 (mayB false (valS b q).1 (valS b (valS b q).2).1)) := by
    unfold bandS onlySt bnd0S
    rw [hq1]
    rfl
   generalize valS b q = w1 at v1 hi2 hL
   obtain ⟨lo, p1⟩ := w1
   simp only at v1 hi2 hL
   rw [s1] at v1
   have v2 := valr_ans (σ ++ [.box [Bo false, Fl 0, Fl 0], rob b p1, .box [Bo false, Fl 0, Fl 0]]) (σ.length + 1) b p1 (g1 _ _ _ _) hi2 hb
   have hi3 := (steps_value b).inb p1 hi2
   generalize valS b p1 = w2 at v2 hi3 hL
   obtain ⟨hi, p2⟩ := w2
   simp only at v2 hi3 hL
   rw [s1] at v2
   have e0 : ((((0 : UInt8).toNat : Nat) : Int) == 0) = true := rfl
   simp -implicitDefEqProofs only [go_sem, bc, e0, g0, g1, g2, s0, s1, s2]
   refine CO.intro v1 ?_
   simp -implicitDefEqProofs only [go_sem]
   refine CO.intro v2 ?_
   have h1 := refuse_ans (σ ++ [.box [Bo false, Fl 0, Fl 0], rob b p2, .box [Bo false, Fl lo, Fl hi]]) (σ.length + 1) b p2 (mayB false lo hi) (g1 _ _ _ _) hi3 hb
   rw [s1] at h1
   have hL : bandS b (0, false) = ((false, lo, hi), took p2 0 (mayB false lo hi)) := hL
   rw [hL] at hS
   generalize took p2 0 (mayB false lo hi) = qe at h1 hS
   have h2 := end_ans (σ ++ [.box [Bo false, Fl 0, Fl 0], rob b qe, .box [Bo false, Fl lo, Fl hi]]) (σ.length + 1) b qe (g1 _ _ _ _)
   simp -implicitDefEqProofs only [go_sem, g0, g1, g2, s0, s1, s2]
   refine CO.intro (may_ans _ false lo hi) ?_
   simp -implicitDefEqProofs only [go_sem]
   refine CO.intro h1 ?_
   simp -implicitDefEqProofs only [go_sem]
   refine CO.intro h2 ?_
   cases hr : bandR b with
   | none =>
     have hb2 := hS.2 hr
     obtain ⟨qa, qb⟩ := qe
     simp only at hb2
     subst hb2
     simp -implicitDefEqProofs only [go_sem, g0, g1, g2, s0, s1, s2]
     exact Fini.trim2 (σ' := σ) (ex := [_, _, _]) (by simp -implicitDefEqProofs only [go_sem, resA, allSome, rvA, oneOf, g0]; rfl) rfl (Nat.le_refl _) (by unfold readV; exact bel_tup3 (bel_bandV _ _)) hbel
   | some p =>
     obtain ⟨M, t⟩ := p
     have hb2 := hS.1 M t hr
     simp only [Prod.mk.injEq] at hb2
     obtain ⟨rfl, rfl⟩ := hb2
     simp -implicitDefEqProofs only [go_sem, g0, g1, g2, s0, s1, s2]
     exact Fini.trim2 (σ' := σ) (ex := [_, _, _]) (by simp -implicitDefEqProofs only [go_sem, resA, allSome, rvA, oneOf, g0]; rfl) rfl (Nat.le_refl _) (by unfold readV; exact bel_tup3 (bel_bandV _ _)) hbel
 · have e0 : (((c.toNat : Nat) : Int) == 0) = false := by
    rw [Bool.eq_false_iff]
    intro h
    rw [beq_iff_eq] at h
    exact h0 (UInt8.toNat_inj.1 (by rw [show (0 : UInt8).toNat = 0 from rfl]; omega))
   by_cases h1 : c = 1
   · subst h1
     have hL : bandS b (0, false) = ((true, 0, 0), took q 0 (mayB true 0 0)) := by
      unfold bandS onlySt bnd0S
      rw [hq1]
      rfl
     have e1 : ((((1 : UInt8).toNat : Nat) : Int) == 1) = true := rfl
     simp -implicitDefEqProofs only [go_sem, bc, e0, e1, g0, g1, g2, s0, s1, s2]
     have h1 := refuse_ans (σ ++ [.box [Bo false, Fl 0, Fl 0], rob b q, .box [Bo true, Fl 0, Fl 0]]) (σ.length + 1) b q (mayB true 0 0) (g1 _ _ _ _) hin1 hb
     rw [s1] at h1
     have hL : bandS b (0, false) = ((true, 0, 0), took q 0 (mayB true 0 0)) := hL
     rw [hL] at hS
     generalize took q 0 (mayB true 0 0) = qe at h1 hS
     have h2 := end_ans (σ ++ [.box [Bo false, Fl 0, Fl 0], rob b qe, .box [Bo true, Fl 0, Fl 0]]) (σ.length + 1) b qe (g1 _ _ _ _)
     refine CO.intro (may_ans _ true 0 0) ?_
     simp -implicitDefEqProofs only [go_sem]
     refine CO.intro h1 ?_
     simp -implicitDefEqProofs only [go_sem]
     refine CO.intro h2 ?_
     cases hr : bandR b with
     | none =>
       have hb2 := hS.2 hr
       obtain ⟨qa, qb⟩ := qe
       simp only at hb2
       subst hb2
       simp -implicitDefEqProofs only [go_sem, g0, g1, g2, s0, s1, s2]
       exact Fini.trim2 (σ' := σ) (ex := [_, _, _]) (by simp -implicitDefEqProofs only [go_sem, resA, allSome, rvA, oneOf, g0]; rfl) rfl (Nat.le_refl _) (by unfold readV; exact bel_tup3 (bel_bandV _ _)) hbel
     | some p =>
       obtain ⟨M, t⟩ := p
       have hb2 := hS.1 M t hr
       simp only [Prod.mk.injEq] at hb2
       obtain ⟨rfl, rfl⟩ := hb2
       simp -implicitDefEqProofs only [go_sem, g0, g1, g2, s0, s1, s2]
       exact Fini.trim2 (σ' := σ) (ex := [_, _, _]) (by simp -implicitDefEqProofs only [go_sem, resA, allSome, rvA, oneOf, g0]; rfl) rfl (Nat.le_refl _) (by unfold readV; exact bel_tup3 (bel_bandV _ _)) hbel
   · have hL : bandS b (0, false) = ((false, 0, 0), took (took q 0 false) 0 (mayB false 0 0)) := by
      unfold bandS onlySt bnd0S
      rw [hq1]
      simp only [h0, h1, if_false]
      rfl
     have e1 : (((c.toNat : Nat) : Int) == 1) = false := by
      rw [Bool.eq_false_iff]
      intro h
      rw [beq_iff_eq] at h
      exact h1 (UInt8.toNat_inj.1 (by rw [show (1 : UInt8).toNat = 1 from rfl]; omega))
     have v1 := refuse_ans (σ ++ [.box [Bo false, Fl 0, Fl 0], rob b q, .box [Bo false, Fl 0, Fl 0]]) (σ.length + 1) b q false (g1 _ _ _ _) hin1 hb
     rw [s1] at v1
     have hi2 := took_inb b q false hin1
     generalize took q 0 false = p1 at v1 hi2 hL
     simp -implicitDefEqProofs only [go_sem, bc, e0, e1, g0, g1, g2, s0, s1, s2]
     refine CO.intro v1 ?_
     have h1 := refuse_ans (σ ++ [.box [Bo false, Fl 0, Fl 0], rob b p1, .box [Bo false, Fl 0, Fl 0]]) (σ.length + 1) b p1 (mayB false 0 0) (g1 _ _ _ _) hi2 hb
     rw [s1] at h1
     have hL : bandS b (0, false) = ((false, 0, 0), took p1 0 (mayB false 0 0)) := hL
     rw [hL] at hS
     generalize took p1 0 (mayB false 0 0) = qe at h1 hS
     have h2 := end_ans (σ ++ [.box [Bo false, Fl 0, Fl 0], rob b qe, .box [Bo false, Fl 0, Fl 0]]) (σ.length + 1) b qe (g1 _ _ _ _)
     simp -implicitDefEqProofs only [go_sem, g0, g1, g2, s0, s1, s2]
     refine CO.intro (may_ans _ false 0 0) ?_
     simp -implicitDefEqProofs only [go_sem]
     refine CO.intro h1 ?_
     simp -implicitDefEqProofs only [go_sem]
     refine CO.intro h2 ?_
     cases hr : bandR b with
     | none =>
       have hb2 := hS.2 hr
       obtain ⟨qa, qb⟩ := qe
       simp only at hb2
       subst hb2
       simp -implicitDefEqProofs only [go_sem, g0, g1, g2, s0, s1, s2]
       exact Fini.trim2 (σ' := σ) (ex := [_, _, _]) (by simp -implicitDefEqProofs only [go_sem, resA, allSome, rvA, oneOf, g0]; rfl) rfl (Nat.le_refl _) (by unfold readV; exact bel_tup3 (bel_bandV _ _)) hbel
     | some p =>
       obtain ⟨M, t⟩ := p
       have hb2 := hS.1 M t hr
       simp only [Prod.mk.injEq] at hb2
       obtain ⟨rfl, rfl⟩ := hb2
       simp -implicitDefEqProofs only [go_sem, g0, g1, g2, s0, s1, s2]
       exact Fini.trim2 (σ' := σ) (ex := [_, _, _]) (by simp -implicitDefEqProofs only [go_sem, resA, allSome, rvA, oneOf, g0]; rfl) rfl (Nat.le_refl _) (by unfold readV; exact bel_tup3 (bel_bandV _ _)) hbel
end
end Go.Proofs.YtmkmhhjkdaklbaaGreat
namespace Go.Proofs.YtmkmhhjkdaklbaaGreat
open Go Go.Ab Go.Cod
set_option maxRecDepth 100000
theorem readV_none {α : Type} {r : Option (α × Byt)} {b : Byt} {enc : α → AV} {z : AV} (h : r = none) : readV r b enc z = .tup [z, I 0, Bo false] := by subst h; rfl
theorem readV_some {α : Type} {r : Option (α × Byt)} {b : Byt} {enc : α → AV} {z : AV} {x : α} {t : Byt} (h : r = some (x, t)) : readV r b enc z = .tup [enc x, I (b.length - t.length : Nat), Bo true] := by subst h; rfl
abbrev mlV (M : List Mtr) : AV := .sl 3 (mvs3 M)
section
variable (σ : St) (p : Nat) (b : Byt) (q : Nat × Bool)
theorem ofmats (h : σ[p]? = some (rob b q)) (hq : Inb b q) (hb : b.length ≤ 50000) : Ans Tryz.prog 55 [.ptr p 0, .fn 56 [] []] σ (mlV (runR listR [] b q).1) (σ.set p (rob b (runR listR [] b q).2)) := by
 obtain ⟨a, bad⟩ := q
 have hq : a ≤ b.length := hq
 have hl : (b.drop a).length ≤ 50000 := by rw [List.length_drop]; omega
 cases hr : listR (b.drop a) with
 | none =>
   have hrd := mread_ans σ (b.drop a) hl
   rw [readV_none hr] at hrd
   have e : runR listR [] b (a, bad) = ([], (a, true)) := by
    cases bad
    · exact runR_none hr
    · exact runR_bad _ _ _ _
   have e2 : took (a, bad) 0 false = (a, true) := by cases bad <;> rfl
   have ht := took_ans σ p b (a, bad) 0 false h (by simp only; omega)
   rw [e2] at ht
   rw [e]
   have : Ans Tryz.prog 55 [.ptr p 0, .fn 56 [] []] σ .nils (σ.set p (rob b (a, true))) := by
    refine Ans.of_run t55 ?_
    simp -implicitDefEqProofs only [c55, r55, go_sem]
    refine CO.intro (rest_ans σ p b (a, bad) h hq) ?_
    simp -implicitDefEqProofs only [go_sem]
    refine CO.intro hrd ?_
    simp -implicitDefEqProofs only [go_sem]
    refine CO.intro ht ?_
    simp -implicitDefEqProofs only [go_sem]
    exact Fini.ret rfl
   exact this.subR (.nils 3)
 | some x =>
   obtain ⟨x, t⟩ := x
   have hrd := mread_ans σ (b.drop a) hl
   rw [readV_some hr] at hrd
   have hdr := ends_list.drop hq hr
   have ht := took_ans σ p b (a, bad) ((b.drop a).length - t.length) true h (by simp only [List.length_drop]; omega)
   cases bad with
   | true =>
     have e2 : took (a, true) ((b.drop a).length - t.length) true = (a, true) := rfl
     rw [e2] at ht
     rw [runR_bad]
     have : Ans Tryz.prog 55 [.ptr p 0, .fn 56 [] []] σ .nils (σ.set p (rob b (a, true))) := by
      refine Ans.of_run t55 ?_
      simp -implicitDefEqProofs only [c55, r55, go_sem]
      refine CO.intro (rest_ans σ p b (a, true) h hq) ?_
      simp -implicitDefEqProofs only [go_sem]
      refine CO.intro hrd ?_
      simp -implicitDefEqProofs only [go_sem]
      refine CO.intro ht ?_
      simp -implicitDefEqProofs only [go_sem]
      exact Fini.ret rfl
     exact this.subR (.nils 3)
   | false =>
     have e2 : took (a, false) ((b.drop a).length - t.length) true = (b.length - t.length, false) := by
      simp only [took, Bool.false_or, Bool.not_true, Bool.false_eq_true, if_false, List.length_drop]
      congr 1; omega
     rw [e2] at ht
     rw [runR_some hr]
     refine Ans.of_run t55 ?_
     simp -implicitDefEqProofs only [c55, r55, go_sem]
     refine CO.intro (rest_ans σ p b (a, false) h hq) ?_
     simp -implicitDefEqProofs only [go_sem]
     refine CO.intro hrd ?_
     simp -implicitDefEqProofs only [go_sem]
     refine CO.intro ht ?_
     simp -implicitDefEqProofs only [go_sem]
     exact Fini.ret rfl
theorem ofband (h : σ[p]? = some (rob b q)) (hq : Inb b q) (hb : b.length ≤ 50000) : Ans Tryz.prog 57 [.ptr p 0, .fn 58 [] []] σ (bandV (runR bandR (false, 0, 0) b q).1) (σ.set p (rob b (runR bandR (false, 0, 0) b q).2)) := by
 obtain ⟨a, bad⟩ := q
 have hq : a ≤ b.length := hq
 have hl : (b.drop a).length ≤ 50000 := by rw [List.length_drop]; omega
 have hp : p < σ.length := (List.getElem?_eq_some_iff.1 h).1
 have hz : ∀ ob, (σ ++ [ob])[p]? = some (rob b (a, bad)) := fun ob => by rw [List.getElem?_append_left hp]; exact h
 have hst : ∀ ob X, (σ ++ [ob]).set p X = σ.set p X ++ [ob] := fun ob X => by rw [List.set_append_left _ _ hp]
 have hlen : ∀ X, (σ.set p X).length = σ.length := fun X => List.length_set
 have gx : ∀ (X : Ob) (o : Ob) (ex : St), (σ.set p X ++ o :: ex)[σ.length]? = some o := fun X o ex => by rw [← hlen X]; exact g0 _ _ _
 have sx : ∀ (X : Ob) (o u : Ob) (ex : St), (σ.set p X ++ o :: ex).set σ.length u = σ.set p X ++ u :: ex := fun X o u ex => by rw [← hlen X]; exact s0 _ _ _ _
 have gx1 : ∀ (X : Ob) (o o2 : Ob) (ex : St), (σ.set p X ++ o :: o2 :: ex)[σ.length + 1]? = some o2 := fun X o o2 ex => by rw [← hlen X]; exact g1 _ _ _ _
 have hbo : ∀ (hbel : ∀ o ∈ σ, BelO σ.length o) (q : Nat × Bool), ∀ o ∈ σ.set p (rob b q), BelO (σ.set p (rob b q)).length o := fun hbel q => by
  rw [hlen]
  exact bel_set hbel (fun c hc => by
   simp only [List.mem_cons, List.not_mem_nil, or_false] at hc
   rcases hc with rfl | rfl | rfl
   · exact bel_byv _ _
   · exact .pl _
   · exact .pl _)
 cases hr : bandR (b.drop a) with
 | none =>
   have hrd := fun s => readband_ans s (b.drop a) hl
   simp only [readV_none hr] at hrd
   have e : runR bandR (false, 0, 0) b (a, bad) = ((false, 0, 0), (a, true)) := by
    cases bad
    · exact runR_none hr
    · exact runR_bad _ _ _ _
   have e2 : took (a, bad) 0 false = (a, true) := by cases bad <;> rfl
   have ht := fun ob => took_ans (σ ++ [ob]) p b (a, bad) 0 false (hz ob) (by simp only; omega)
   simp only [e2, hst] at ht
   rw [e]
   refine Ans.of_run' t57 (fun hbel _ => ?_)
   simp -implicitDefEqProofs only [c57, r57, go_sem]
   refine CO.intro (rest_ans _ p b (a, bad) (hz _) hq) ?_
   simp -implicitDefEqProofs only [go_sem]
   refine CO.intro (hrd _) ?_
   simp -implicitDefEqProofs only [go_sem, bandV]
   refine CO.intro (ht _) ?_
   simp -implicitDefEqProofs only [go_sem, gx, sx, gx1, List.append_assoc, List.length_append, hlen]
   exact Fini.trim2 (σ' := σ.set p (rob b (a, true))) (ex := [_, _]) (by simp -implicitDefEqProofs only [go_sem, resA, allSome, rvA, oneOf, gx]) rfl (by rw [hlen]; exact Nat.le_refl _) (bel_bandV _ (false, 0, 0)) (hbo hbel _)
 | some x =>
   obtain ⟨x, t⟩ := x
   have hrd := fun s => readband_ans s (b.drop a) hl
   simp only [readV_some hr] at hrd
   have hdr := ends_band.drop hq hr
   have ht := fun ob => took_ans (σ ++ [ob]) p b (a, bad) ((b.drop a).length - t.length) true (hz ob) (by simp only [List.length_drop]; omega)
   simp only [hst] at ht
   cases bad with
   | true =>
     have e2 : took (a, true) ((b.drop a).length - t.length) true = (a, true) := rfl
     rw [e2] at ht
     rw [runR_bad]
     refine Ans.of_run' t57 (fun hbel _ => ?_)
     simp -implicitDefEqProofs only [c57, r57, go_sem]
     refine CO.intro (rest_ans _ p b (a, true) (hz _) hq) ?_
     simp -implicitDefEqProofs only [go_sem]
     refine CO.intro (hrd _) ?_
     simp -implicitDefEqProofs only [go_sem, bandV]
     refine CO.intro (ht _) ?_
     simp -implicitDefEqProofs only [go_sem, gx, sx, gx1, List.append_assoc, List.length_append, hlen]
     exact Fini.trim2 (σ' := σ.set p (rob b (a, true))) (ex := [_, _]) (by simp -implicitDefEqProofs only [go_sem, resA, allSome, rvA, oneOf, gx]) rfl (by rw [hlen]; exact Nat.le_refl _) (bel_bandV _ (false, 0, 0)) (hbo hbel _)
   | false =>
     have e2 : took (a, false) ((b.drop a).length - t.length) true = (b.length - t.length, false) := by
      simp only [took, Bool.false_or, Bool.not_true, Bool.false_eq_true, if_false, List.length_drop]
      congr 1; omega
     rw [e2] at ht
     rw [runR_some hr]
     refine Ans.of_run' t57 (fun hbel _ => ?_)
     simp -implicitDefEqProofs only [c57, r57, go_sem]
     refine CO.intro (rest_ans _ p b (a, false) (hz _) hq) ?_
     simp -implicitDefEqProofs only [go_sem]
     refine CO.intro (hrd _) ?_
     simp -implicitDefEqProofs only [go_sem, bandV]
     refine CO.intro (ht _) ?_
     simp -implicitDefEqProofs only [go_sem, gx, sx, gx1, List.append_assoc, List.length_append, hlen]
     exact Fini.trim2 (σ' := σ.set p (rob b (b.length - t.length, false))) (ex := [_]) (by simp -implicitDefEqProofs only [go_sem, resA, allSome, rvA, oneOf, gx]) rfl (by rw [hlen]; exact Nat.le_refl _) (bel_bandV _ x) (hbo hbel _)
end
end Go.Proofs.YtmkmhhjkdaklbaaGreat
namespace Go.Proofs.YtmkmhhjkdaklbaaGreat
open Go Go.Ab Go.Cod
set_option maxRecDepth 100000
def headR (r : RuM) : Byt := putL r.src ++ (putL r.tgt ++ (putBd (r.any, r.lo, r.hi) ++ putN r.eq.length))
def preR (r : RuM) (i : Nat) : Byt := headR r ++ laidMany txtB (r.eq.take i)
theorem preR_succ (r : RuM) (i : Nat) (h : i < r.eq.length) : preR r (i + 1) = preR r i ++ txtB r.eq[i] := by
 unfold preR laidMany
 rw [List.take_succ_eq_append_getElem h, List.flatMap_append, List.append_assoc]
 simp
theorem preR_all (r : RuM) : preR r r.eq.length = putR r := by unfold preR putR headR laidRow; rw [List.take_length]; simp [List.append_assoc]
theorem preR_zero (r : RuM) : preR r 0 = headR r := by unfold preR laidMany; simp
theorem putBd_len (x : Bnd) : (putBd x).length ≤ 17 := by
 unfold putBd
 split
 · simp
 · simp [putV, wrdB_len]
theorem putL_len {M : List Mtr} (h : listB M = true) : (putL M).length ≤ 510 := by
 have := preL_len h M.length (Nat.le_refl _)
 rw [preL_all] at this
 have := (listB_at h).1
 omega
theorem putL_pos (M : List Mtr) : 0 < (putL M).length := by
 have := putN_ne M.length
 unfold putL laidRow
 cases h : putN M.length with
 | nil => exact absurd h this
 | cons a b => simp
theorem headR_len {r : RuM} (h : ruIs r = true) : (headR r).length ≤ 1050 := by
 obtain ⟨h1, h2, h3, h4, h5⟩ := ruIs_all h
 have := putL_len h1; have := putL_len h2; have := putBd_len (r.any, r.lo, r.hi); have := putN_len10 (n := r.eq.length) (by omega)
 unfold headR
 simp only [List.length_append]; omega
theorem preR_len {r : RuM} (h : ruIs r = true) : ∀ i, i ≤ r.eq.length → (preR r i).length ≤ 1050 + 30 * i
 | 0, _ => by rw [preR_zero]; have := headR_len h; omega
 | i + 1, hi => by
   have ih := preR_len h i (by omega)
   have hx := (ruIs_all h).2.2.2.2 r.eq[i] (List.getElem_mem (by omega))
   have h1 := txtB_len r.eq[i] (by omega)
   rw [preR_succ r i (by omega), List.length_append]
   omega
def bytesRu (r : RuM) : Byt := if ruIs r then putR r else []
section
variable (σ : St)
theorem rubytes_ans (r : RuM) : Ans Tryz.prog 19 [ruV r] σ (.sl 1 (byv (bytesRu r))) σ := by
 have hi := fun s => ruis_ans s r
 unfold bytesRu
 cases hR : ruIs r with
 | false =>
   have : Ans Tryz.prog 19 [ruV r] σ .nils σ := by
    refine Ans.of_run t19 ?_
    unfold ruV at hi ⊢
    simp -implicitDefEqProofs only [c19, r19, go_sem]
    refine CO.intro (hi _) ?_
    rw [hR]
    simp -implicitDefEqProofs only [go_sem]
    exact Fini.ret rfl
   exact this.subR (.nils 1)
 | true =>
   obtain ⟨h1, h2, h3, h4, h5⟩ := ruIs_all hR
   have hpl := preR_len hR
   have m1 := fun s => mbytes_ans s r.src
   have m2 := fun s => mbytes_ans s r.tgt
   have e1 : bytesL r.src = putL r.src := by unfold bytesL; rw [h1]; rfl
   have e2 : bytesL r.tgt = putL r.tgt := by unfold bytesL; rw [h2]; rfl
   rw [e1] at m1
   rw [e2] at m2
   have b1 := fun s => putband_ans s (r.any, r.lo, r.hi)
   unfold bandV at b1
   have n1 := fun s => put_sl s r.eq.length (by omega)
   have hw := wrapUN (n := r.eq.length) (by omega)
   have hc := fun s => concat_ans s [putL r.src, putL r.tgt, putBd (r.any, r.lo, r.hi), putN r.eq.length] (by simp) (by
    have := putL_pos r.src
    simp only [List.flatten_cons, List.length_append]; omega) (by
    have := headR_len hR
    unfold headR at this
    simp only [List.length_append] at this
    simp only [List.flatten_cons, List.flatten_nil, List.append_nil, List.length_append]; omega)
   have e3 : ([putL r.src, putL r.tgt, putBd (r.any, r.lo, r.hi), putN r.eq.length] : List Byt).flatten = preR r 0 := by
    rw [preR_zero]; simp [headR]
   rw [e3] at hc
   refine Ans.of_run' t19 (fun hbel _ => ?_)
   unfold ruV at hi ⊢
   simp -implicitDefEqProofs only [c19, r19, go_sem]
   refine CO.intro (hi _) ?_
   rw [hR]
   simp -implicitDefEqProofs only [go_sem]
   refine CD.intro (m1 _) ?_
   simp -implicitDefEqProofs only [go_sem]
   refine CD.intro (m2 _) ?_
   simp -implicitDefEqProofs only [go_sem]
   refine CD.intro (b1 _) ?_
   simp -implicitDefEqProofs only [go_sem, txs_len, hw]
   refine CD.intro (n1 _) ?_
   simp -implicitDefEqProofs only [go_sem]
   refine CD.intro (hc _) ?_
   simp -implicitDefEqProofs only [go_sem, txs_len]
   refine Go.Ab.L.count r.eq.length (fun i => mkE 38 [(3, .osl (σ.length + 1) (preR r i).length), (26, .sl 1 (txs r.eq)), (27, I r.eq.length), (28, I i)]) (fun i => σ ++ [.dead, .row 1 (byv (preR r i))]) ?_ ?_ rfl rfl
   · intro i hi J hJ
     have hx := txs_get r.eq i hi
     have hs := h5 r.eq[i] (List.getElem_mem hi)
     have hp := hpl (i + 1) (by omega)
     rw [preR_succ r i hi] at hJ hp
     generalize r.eq[i] = s at hx hs hJ hp
     generalize preR r i = pre at hJ hp ⊢
     have hin := wrap_succ (i := i) (by omega)
     rw [List.length_append] at hp hJ
     have l1 : pre.length + (txtB s).length ≤ 4294967296 := by omega
     simp -implicitDefEqProofs only [mkE, go_sem, txs_len, nat_lt hi, dec_lt hi, hx]
     refine CO.intro (puttext_ans _ s (by omega)) ?_
     simp -implicitDefEqProofs only [go_sem, g1, s1, byv_len, byv_all', bc, l1, hin]
     simp only [byv_append] at hJ
     exact hJ
   · intro J
     have d0 : decide ((r.eq.length : Int) < r.eq.length) = false := by simp
     simp -implicitDefEqProofs only [mkE, go_sem, d0, g1, s1, byv_len, preR_all]
     exact Fini.trim2 (σ' := σ) (ex := [_, _]) rfl rfl (Nat.le_refl _) (bel_byv _ _) hbel
end
end Go.Proofs.YtmkmhhjkdaklbaaGreat
