/- Rules read out of bytes, by the program. No condition. -/
import Derived.Test.YtmkmhhjkdaklbaaGreatRc6
import Derived.Test.YtmkmhhjkdaklbaaGreatRows
import Derived.Test.YtmkmhhjkdaklbaaGreatXLs2
import Derived.Test.YtmkmhhjkdaklbaaGreatAbArg
import Derived.Test.YtmkmhhjkdaklbaaGreatXPPar3
import Derived.Test.YtmkmhhjkdaklbaaGreatXMRca
import Derived.Test.YtmkmhhjkdaklbaaGreatXMCod
import Derived.Test.YtmkmhhjkdaklbaaGreatProg
import Derived.Test.YtmkmhhjkdaklbaaGreatAbStep
import Derived.Test.YtmkmhhjkdaklbaaGreatXMCode1
set_option linter.unusedSimpArgs false
set_option linter.unusedVariables false
namespace Go.Proofs.YtmkmhhjkdaklbaaGreat
open Go Go.Ab Go.Cod
set_option maxRecDepth 100000
theorem g3 (σ : St) (x y z u : Ob) (ex : St) : (σ ++ x :: y :: z :: u :: ex)[σ.length + 3]? = some u := by rw [List.getElem?_append_right (by simp)]; simp
theorem s3 (σ : St) (x y z u v : Ob) (ex : St) : (σ ++ x :: y :: z :: u :: ex).set (σ.length + 3) v = σ ++ x :: y :: z :: v :: ex := by rw [List.set_append_right _ _ (by simp)]; simp
def txC (n : Nat) (e : List ByteArray) : AV := if e.isEmpty then .nils else .osl n e.length
def txS (e : List ByteArray) : St := if e.isEmpty then [] else [.row 1 (txs e)]
theorem txC_of (n : Nat) {e : List ByteArray} (h : e.isEmpty = false) : txC n e = .osl n e.length := by unfold txC; rw [h]; rfl
theorem txS_of {e : List ByteArray} (h : e.isEmpty = false) : txS e = [.row 1 (txs e)] := by unfold txS; rw [h]; rfl
theorem emp_snoc (e : List ByteArray) (s : ByteArray) : (e ++ [s]).isEmpty = false := by cases e <;> rfl
theorem bel_ruV (n : Nat) (r : RuM) : Bel n (ruV r) := .agg _ fun i hi => by
 have : ∀ y ∈ ([.sl 3 (mvs3 r.src), .sl 3 (mvs3 r.tgt), Bo r.any, Fl r.lo, Fl r.hi, .sl 1 (txs r.eq)] : List AV), Bel n y := by
  intro y hy
  simp only [List.mem_cons, List.not_mem_nil, or_false] at hy
  rcases hy with rfl | rfl | rfl | rfl | rfl | rfl
  · exact bel_mvs3 _ _
  · exact bel_mvs3 _ _
  · exact .pl _
  · exact .pl _
  · exact .pl _
  · exact bel_txs _ _
 exact this _ (List.getElem_mem hi)
def noRu : RuM := ⟨[], [], false, 0, 0, []⟩
abbrev Z6 : Ob := .box [.nils, .nils, Bo false, Fl 0, Fl 0, .nils]
def noRuV : AV := .agg [.nils, .nils, Bo false, Fl 0, Fl 0, .nils]
theorem noRu_sub : Sub noRuV (ruV noRu) := .agg (.cons (.nils 3) (.cons (.nils 3) (.cons (.refl _) (.cons (.refl _) (.cons (.refl _) (.cons (.nils 1) .nil))))))
theorem bel_noRuV (n : Nat) : Bel n noRuV := .agg _ fun i hi => by
 have : ∀ y ∈ ([.nils, .nils, Bo false, Fl 0, Fl 0, .nils] : List AV), Bel n y := by
  intro y hy
  simp only [List.mem_cons, List.not_mem_nil, or_false] at hy
  rcases hy with rfl | rfl | rfl | rfl | rfl | rfl
  · exact .nils
  · exact .nils
  · exact .pl _
  · exact .pl _
  · exact .pl _
  · exact .nils
 exact this _ (List.getElem_mem hi)
section
variable (σ : St)
set_option maxHeartbeats 4000000 in
theorem ruread_ans0 (b : Byt) (hb : b.length ≤ 50000) : Ans Tryz.prog 17 [.sl 1 (byv b)] σ (readV (ruR b) b ruV noRuV) σ := by
 have hS := (steps_ru b).top
 refine Ans.of_run' t17 (fun hbel _ => ?_)
 simp -implicitDefEqProofs only [c17, r17, go_sem]
 refine CO.intro (new_ans _ b) ?_
 have hs2 : ∀ q, ruS b q = (mkRu ((runR listR [] b q).1, (runR listR [] b (runR listR [] b q).2).1, (runR bandR (false, 0, 0) b (runR listR [] b (runR listR [] b q).2).2).1, (rowSt 4 b (runR (textR 12) ⟨#[]⟩ b) (runR bandR (false, 0, 0) b (runR listR [] b (runR listR [] b q).2).2).2).1),
   took (rowSt 4 b (runR (textR 12) ⟨#[]⟩ b) (runR bandR (false, 0, 0) b (runR listR [] b (runR listR [] b q).2).2).2).2 0 (ruIs (mkRu ((runR listR [] b q).1, (runR listR [] b (runR listR [] b q).2).1, (runR bandR (false, 0, 0) b (runR listR [] b (runR listR [] b q).2).2).1, (rowSt 4 b (runR (textR 12) ⟨#[]⟩ b) (runR bandR (false, 0, 0) b (runR listR [] b (runR listR [] b q).2).2).2).1)))) := fun q => rfl
 rw [hs2] at hS
 have h1 := ofmats (σ ++ [Z6, rob b (0, false)]) (σ.length + 1) b (0, false) (g1 _ _ _ _) (Inb0 b) hb
 rw [s1] at h1
 have i1 := run_inb listR [] b (0, false) (Inb0 b)
 generalize runR listR [] b (0, false) = w1 at h1 i1 hS
 obtain ⟨m1, q1⟩ := w1
 simp only at h1 i1 hS
 have h2 := ofmats (σ ++ [Z6, rob b q1]) (σ.length + 1) b q1 (g1 _ _ _ _) i1 hb
 rw [s1] at h2
 have i2 := run_inb listR [] b q1 i1
 generalize runR listR [] b q1 = w2 at h2 i2 hS
 obtain ⟨m2, q2⟩ := w2
 simp only at h2 i2 hS
 have h3 := ofband (σ ++ [Z6, rob b q2]) (σ.length + 1) b q2 (g1 _ _ _ _) i2 hb
 rw [s1] at h3
 have i3 := run_inb bandR (false, 0, 0) b q2 i2
 generalize runR bandR (false, 0, 0) b q2 = w3 at h3 i3 hS
 obtain ⟨⟨any, lo, hi⟩, q3⟩ := w3
 unfold bandV at h3
 simp only at h3 i3 hS
 simp -implicitDefEqProofs only [go_sem, List.append_assoc, List.length_append]
 refine CO.intro h1 ?_
 simp -implicitDefEqProofs only [go_sem]
 refine CO.intro h2 ?_
 simp -implicitDefEqProofs only [go_sem]
 refine CO.intro h3 ?_
 unfold rowSt at hS
 have h4 := num_ans (σ ++ [Z6, rob b q3, .box [mlV m1, mlV m2, Bo any, Fl lo, Fl hi, .nils]]) (σ.length + 1) b q3 4 (by decide) (g1 _ _ _ _) i3 hb
 rw [s1] at h4
 have i4 := run_inb (numR 4) 0 b q3 i3
 have hn4 := runR_le (most := 4) b q3
 generalize runR (numR 4) 0 b q3 = w4 at h4 i4 hS hn4
 obtain ⟨n, q4⟩ := w4
 simp only at h4 i4 hS hn4
 simp -implicitDefEqProofs only [go_sem, List.append_assoc, List.length_append, g0, g1, g2, s0, s1, s2]
 refine CO.intro h4 ?_
 simp -implicitDefEqProofs only [go_sem]
 refine Go.Ab.L.count n (fun i => mkE 44 [(2, .ptr σ.length 0), (5, .ptr (σ.length + 1) 0), (6, .ptr (σ.length + 2) 0), (19, UN n), (20, UN i)])
  (fun i => σ ++ Z6 :: rob b (itSt (runR (textR 12) ⟨#[]⟩ b) q4 i).2 :: .box [mlV m1, mlV m2, Bo any, Fl lo, Fl hi, txC (σ.length + 3) (itSt (runR (textR 12) ⟨#[]⟩ b) q4 i).1] :: txS (itSt (runR (textR 12) ⟨#[]⟩ b) q4 i).1) ?_ ?_ rfl rfl
 · intro i hin J hJ
   have hit := itSt_inb (run_inb (textR 12) ⟨#[]⟩ b) q4 i4 i
   have hlen := itSt_len (runR (textR 12) ⟨#[]⟩ b) q4 i
   simp only [itSt] at hJ
   generalize itSt (runR (textR 12) ⟨#[]⟩ b) q4 i = c at hJ hit hlen ⊢
   obtain ⟨l, q⟩ := c
   simp only at hJ hit hlen ⊢
   have d0 : decide ((i : Int) < n) = true := dec_lt hin
   have w0 := wrapUN (n := i + 1) (by omega)
   have e0 : ((i : Int) + 1) = ((i + 1 : Nat) : Int) := rfl
   have h5 := text_ans (σ ++ Z6 :: rob b q :: .box [mlV m1, mlV m2, Bo any, Fl lo, Fl hi, txC (σ.length + 3) l] :: txS l) (σ.length + 1) b q 12 (by decide) (g1 _ _ _ _) hit hb
   rw [s1] at h5
   generalize runR (textR 12) ⟨#[]⟩ b q = w5 at h5 hJ
   obtain ⟨s, q5⟩ := w5
   simp only at h5 hJ
   rw [txC_of _ (emp_snoc l s), txS_of (emp_snoc l s), txs_snoc] at hJ
   rw [List.length_append, List.length_singleton] at hJ
   cases hem : l.isEmpty with
   | true =>
     have hle : l = [] := List.isEmpty_iff.1 hem
     subst hle
     unfold txC txS at h5 ⊢
     simp only [List.isEmpty_nil, if_true] at h5 ⊢
     simp -implicitDefEqProofs only [mkE, go_sem, d0, g0, g1, g2, s0, s1, s2]
     refine CD.intro h5 ?_
     have p32 : ((1 : Nat) ≤ 2 ^ 32) = True := eq_true (by decide)
     simp -implicitDefEqProofs only [go_sem, g0, g1, g2, s0, s1, s2, w0, e0, p32, List.length_append, List.append_assoc, List.length_cons, List.length_nil]
     exact hJ
   | false =>
     rw [txC_of _ hem, txS_of hem] at h5 ⊢
     have hll : l.length + 1 ≤ 4294967296 := by omega
     simp -implicitDefEqProofs only [mkE, go_sem, d0, g0, g1, g2, s0, s1, s2]
     refine CD.intro h5 ?_
     simp -implicitDefEqProofs only [go_sem, g0, g1, g2, g3, s0, s1, s2, s3, w0, e0, txs_len, hll, List.length_singleton]
     exact hJ
 · intro J
   have hit := itSt_inb (run_inb (textR 12) ⟨#[]⟩ b) q4 i4 n
   have hlen := itSt_len (runR (textR 12) ⟨#[]⟩ b) q4 n
   generalize itSt (runR (textR 12) ⟨#[]⟩ b) q4 n = c at hS hit hlen ⊢
   obtain ⟨l, q⟩ := c
   simp only at hS hit hlen ⊢
   have d0 : decide ((n : Int) < n) = false := by simp
   have hru := fun s => ruis_ans s (mkRu (m1, m2, (any, lo, hi), l))
   generalize ruIs (mkRu (m1, m2, (any, lo, hi), l)) = ok at hru hS
   cases hem : l.isEmpty with
   | true =>
     have hle : l = [] := List.isEmpty_iff.1 hem
     subst hle
     unfold txC txS
     simp only [List.isEmpty_nil, if_true]
     have h6 := refuse_ans (σ ++ [Z6, rob b q, .box [mlV m1, mlV m2, Bo any, Fl lo, Fl hi, .sl 1 (txs [])]]) (σ.length + 1) b q ok (g1 _ _ _ _) hit hb
     rw [s1] at h6
     generalize took q 0 ok = qe at h6 hS
     have h7 := end_ans (σ ++ [Z6, rob b qe, .box [mlV m1, mlV m2, Bo any, Fl lo, Fl hi, .sl 1 (txs [])]]) (σ.length + 1) b qe (g1 _ _ _ _)
     simp -implicitDefEqProofs only [mkE, go_sem, d0, txs_nil, g0, g1, g2, g3, s0, s1, s2, s3]
     refine CO.intro (hru _) ?_
     simp -implicitDefEqProofs only [go_sem]
     refine CO.intro h6 ?_
     simp -implicitDefEqProofs only [go_sem]
     refine CO.intro h7 ?_
     cases hr : ruR b with
     | none =>
       have hb2 := hS.2 hr
       obtain ⟨qa, qb⟩ := qe
       simp only at hb2
       subst hb2
       simp -implicitDefEqProofs only [go_sem, g0, g1, g2, g3, s0, s1, s2, s3]
       exact Fini.trim2 (σ' := σ) (ex := [_, _, _]) (by simp -implicitDefEqProofs only [go_sem, resA, allSome, rvA, oneOf, g0]; rfl) rfl (Nat.le_refl _) (by unfold readV; exact bel_tup3 (bel_noRuV _)) hbel
     | some p =>
       obtain ⟨M, t⟩ := p
       have hb2 := hS.1 M t hr
       simp only [Prod.mk.injEq] at hb2
       obtain ⟨rfl, rfl⟩ := hb2
       simp -implicitDefEqProofs only [go_sem, g0, g1, g2, g3, s0, s1, s2, s3]
       exact Fini.trim2 (σ' := σ) (ex := [_, _, _]) (by simp -implicitDefEqProofs only [go_sem, resA, allSome, rvA, oneOf, g0]; rfl) rfl (Nat.le_refl _) (by unfold readV; exact bel_tup3 (bel_ruV _ _)) hbel
   | false =>
     rw [txC_of _ hem, txS_of hem]
     have ne32 : (σ.length + 3 ≠ σ.length + 2) = True := eq_true (by omega)
     have h6 := refuse_ans (σ ++ [Z6, rob b q, .box [mlV m1, mlV m2, Bo any, Fl lo, Fl hi, .sl 1 (txs l)], .dead]) (σ.length + 1) b q ok (g1 _ _ _ _) hit hb
     rw [s1] at h6
     generalize took q 0 ok = qe at h6 hS
     have h7 := end_ans (σ ++ [Z6, rob b qe, .box [mlV m1, mlV m2, Bo any, Fl lo, Fl hi, .sl 1 (txs l)], .dead]) (σ.length + 1) b qe (g1 _ _ _ _)
     simp -implicitDefEqProofs only [mkE, go_sem, d0, txs_len, ne32, g0, g1, g2, g3, s0, s1, s2, s3]
     refine CO.intro (hru _) ?_
     simp -implicitDefEqProofs only [go_sem]
     refine CO.intro h6 ?_
     simp -implicitDefEqProofs only [go_sem]
     refine CO.intro h7 ?_
     cases hr : ruR b with
     | none =>
       have hb2 := hS.2 hr
       obtain ⟨qa, qb⟩ := qe
       simp only at hb2
       subst hb2
       simp -implicitDefEqProofs only [go_sem, g0, g1, g2, g3, s0, s1, s2, s3]
       exact Fini.trim2 (σ' := σ) (ex := [_, _, _, _]) (by simp -implicitDefEqProofs only [go_sem, resA, allSome, rvA, oneOf, g0]; rfl) rfl (Nat.le_refl _) (by unfold readV; exact bel_tup3 (bel_noRuV _)) hbel
     | some p =>
       obtain ⟨M, t⟩ := p
       have hb2 := hS.1 M t hr
       simp only [Prod.mk.injEq] at hb2
       obtain ⟨rfl, rfl⟩ := hb2
       simp -implicitDefEqProofs only [go_sem, g0, g1, g2, g3, s0, s1, s2, s3]
       exact Fini.trim2 (σ' := σ) (ex := [_, _, _, _]) (by simp -implicitDefEqProofs only [go_sem, resA, allSome, rvA, oneOf, g0]; rfl) rfl (Nat.le_refl _) (by unfold readV; exact bel_tup3 (bel_ruV _ _)) hbel
theorem ruread_ans (b : Byt) (hb : b.length ≤ 50000) : Ans Tryz.prog 17 [.sl 1 (byv b)] σ (readV (ruR b) b ruV (ruV noRu)) σ := by
 refine (ruread_ans0 σ b hb).subR ?_
 unfold readV
 cases ruR b with
 | none => exact .tup (.cons noRu_sub (.refl _))
 | some p => exact .refl _
end
end Go.Proofs.YtmkmhhjkdaklbaaGreat
namespace Go.Ab
open Go Go.ChangeShapes Go.WideShapes
theorem Reads.weak {P : Program} {t : TypeId} {f : Nat} {Q Q' : List AV → Prop} (h : Reads P t f Q) (hq : ∀ xs, Q xs → ∃ ys, Q' ys ∧ Subs xs ys) : Reads P t f Q' := by
 intro H enc W cs x hx
 obtain ⟨xs, h1, h2⟩ := h H enc W cs x hx
 obtain ⟨ys, h3, h4⟩ := hq xs h2
 exact ⟨ys, h4.reps h1, h3⟩
def QFloat : List AV → Prop := fun xs => ∃ n : Nat, xs = [.pl (.float .f64 n)]
theorem Reads.float {P : Program} {t : TypeId} (ht : P.underlying t = some (.float .f64)) (f : Nat) : Reads P t f QFloat := by
 intro H enc W cs x h
 have : ∃ n, cs = [.float .f64 n] := by
  cases f with
  | zero => simp [DataW.trod] at h
  | succ n =>
    unfold DataW.trod at h
    rw [ht] at h
    split at h <;> simp_all
 obtain ⟨n, rfl⟩ := this
 exact ⟨_, reps_one (.pl _), n, rfl⟩
def QSl (sz : Nat) (ag : Bool) (Q : List AV → Prop) : List AV → Prop := fun xs => ∃ ys : List (List AV), (∀ y ∈ ys, Q y) ∧ ys.length ≤ maxLen ∧ xs = [.sl sz (ys.map (wrapC ag))]
theorem QSlice.weak {sz : Nat} {ag : Bool} {Q : List AV → Prop} (xs : List AV) (h : QSlice sz ag Q xs) : ∃ ys, QSl sz ag Q ys ∧ Subs xs ys := by
 rcases h with rfl | ⟨ys, h1, h2, rfl⟩
 · exact ⟨_, ⟨[], by simp, by simp, rfl⟩, .cons (.nils sz) .nil⟩
 · exact ⟨_, ⟨ys, h1, h2, rfl⟩, Subs.refl _⟩
end Go.Ab
namespace Go.Proofs.YtmkmhhjkdaklbaaGreat
open Go Go.Ab Go.ChangeShapes Go.WideShapes Go.ChangeAt Go.RowKit
set_option maxRecDepth 100000
def QMat : List AV → Prop := fun xs => ∃ d : Int × Int × Int, xs = [I d.1, I d.2.1, I d.2.2]
theorem reads_mat (f : Nat) : Reads Tryz.prog 146 f QMat := by
 cases f with
 | zero => exact Reads.zero
 | succ f =>
   have h := Reads.struct (P := Tryz.prog) (t := 146) (f := f) (Qs := [QInt .i64, QInt .i64, QInt .i64]) Tryz.underlying146 (by kernel_rfl) rfl (by
    intro p hp
    simp only [List.zip_cons_cons, List.zip_nil_right, List.mem_cons, List.not_mem_nil, or_false] at hp
    rcases hp with rfl | rfl | rfl
    · exact Reads.int Tryz.underlying3 f
    · exact Reads.int Tryz.underlying3 f
    · exact Reads.int Tryz.underlying3 f)
   refine h.mono fun xs hq => ?_
   obtain ⟨_, b, rfl, ⟨k, _, rfl⟩, _, d, rfl, ⟨n, _, rfl⟩, _, _, rfl, ⟨v, _, rfl⟩, rfl⟩ := hq
   exact ⟨(k, n, v), rfl⟩
theorem dmats_of : ∀ {ys : List (List AV)}, (∀ y ∈ ys, QMat y) → ∃ ds : List (Int × Int × Int), ds.length = ys.length ∧ ys.map (wrapC true) = ds.map dv
 | [], _ => ⟨[], rfl, rfl⟩
 | y :: ys, h => by
   obtain ⟨d, rfl⟩ := h y List.mem_cons_self
   obtain ⟨ds, hl, hns⟩ := dmats_of fun y hy => h y (List.mem_cons_of_mem _ hy)
   exact ⟨d :: ds, by simp [hl], by rw [List.map_cons, hns]; rfl⟩
theorem ints_of : ∀ {ys : List (List AV)}, (∀ y ∈ ys, QInt .i64 y) → ∃ ns : List Int, ys.map (wrapC false) = ns.map I
 | [], _ => ⟨[], rfl⟩
 | y :: ys, h => by
   obtain ⟨n, _, rfl⟩ := h y List.mem_cons_self
   obtain ⟨ns, hns⟩ := ints_of fun y hy => h y (List.mem_cons_of_mem _ hy)
   exact ⟨n :: ns, by rw [List.map_cons, hns]; rfl⟩
def QMats : List AV → Prop := fun xs => ∃ ds : List (Int × Int × Int), ds.length ≤ 9223372036854775807 ∧ xs = [.sl 3 (ds.map dv)]
def QInts : List AV → Prop := fun xs => ∃ ns : List Int, xs = [.sl 1 (ns.map I)]
theorem reads_mats (f : Nat) : Reads Tryz.prog 37 f QMats := by
 cases f with
 | zero => exact Reads.zero
 | succ f =>
   refine ((Reads.slice (sz := 3) true Tryz.underlying37 (by kernel_rfl) (by decide) (reads_mat f) (fun _ _ _ => rfl)).weak QSlice.weak).mono fun xs hq => ?_
   obtain ⟨ys, h1, h2, rfl⟩ := hq
   obtain ⟨ds, hl, e⟩ := dmats_of h1
   have hml : maxLen = 9223372036854775807 := by decide
   exact ⟨ds, by omega, by rw [e]⟩
theorem reads_ints (f : Nat) : Reads Tryz.prog 40 f QInts := by
 cases f with
 | zero => exact Reads.zero
 | succ f =>
   refine ((Reads.slice (sz := 1) false Tryz.underlying40 (by kernel_rfl) (by decide) (Reads.int Tryz.underlying3 f) (fun y hy _ => by obtain ⟨n, _, rfl⟩ := hy; rfl)).weak QSlice.weak).mono fun xs hq => ?_
   obtain ⟨ys, h1, h2, rfl⟩ := hq
   obtain ⟨ds, e⟩ := ints_of h1
   exact ⟨ds, by rw [e]⟩
structure RuD where
 ds : List (Int × Int × Int)
 es : List (Int × Int × Int)
 sel : Int
 lo : Nat
 hi : Nat
 ns : List Int
 hd : ds.length ≤ 9223372036854775807
 he : es.length ≤ 9223372036854775807
def duC (d : RuD) : List AV := [.sl 3 (d.ds.map dv), .sl 3 (d.es.map dv), I d.sel, Fl d.lo, Fl d.hi, .sl 1 (d.ns.map I)]
def ruC (r : RuM) : List AV := [.sl 3 (mvs3 r.src), .sl 3 (mvs3 r.tgt), Bo r.any, Fl r.lo, Fl r.hi, .sl 1 (txs r.eq)]
def duV (d : RuD) : AV := .agg (duC d)
section
variable {H : Type} {enc : TypeId × Value → H} {W : World} {base : Nat} {v : Value} {d : DataW H} {ps : List MemPlace}
theorem int_arg (hv : Value.okWide Tryz.prog W .any base 3 v) (h : DataW.Trod enc Tryz.prog W 0 (fun _ => true) true 3 v d ps) : ∃ n : Int, Rep noM noR W (I n) v := by
 obtain ⟨n, rfl⟩ := okWide_int Tryz.underlying3 hv
 obtain ⟨x, hx, m, hm, e⟩ := Reads.arg (P := Tryz.prog) (t := 3) (fun f => Reads.int Tryz.underlying3 f) rfl h
 simp only [List.cons.injEq, and_true] at e
 subst e
 exact ⟨m, hx⟩
end
end Go.Proofs.YtmkmhhjkdaklbaaGreat
namespace Go.Proofs.YtmkmhhjkdaklbaaGreat
open Go Go.Ab
def allR : List (Fun Tryz.prog) := [⟨15, o15, c15, r15, 55, t15⟩, ⟨52, o52, c52, r52, 30, t52⟩, ⟨111, o111, c111, r111, 10, t111⟩, ⟨51, o51, c51, r51, 65, t51⟩, ⟨110, o110, c110, r110, 21, t110⟩, ⟨80, o80, c80, r80, 40, t80⟩, ⟨109, o109, c109, r109, 14, t109⟩, ⟨148, o148, c148, r148, 23, t148⟩, ⟨107, o107, c107, r107, 20, t107⟩, ⟨145, o145, c145, r145, 10, t145⟩, ⟨147, o147, c147, r147, 23, t147⟩, ⟨94, o94, c94, r94, 7, t94⟩, ⟨164, o164, c164, r164, 15, t164⟩, ⟨71, o71, c71, r71, 19, t71⟩, ⟨72, o72, c72, r72, 9, t72⟩] ++ allF
end Go.Proofs.YtmkmhhjkdaklbaaGreat
namespace Go.Proofs.YtmkmhhjkdaklbaaGreat
open Go Go.Ab
/- 3361 steps -/
theorem rr0_ok : Ans Tryz.prog 171 [.ptr 2 0, .pl (.int .i64 0)] [.box [.pl (.int .i64 3), .pl (.string ⟨#[115, 101, 118]⟩), .pl (.string ⟨#[99, 114, 105, 116, 124, 119, 97, 114, 110]⟩)], .box [.pl (.int .i64 0), .pl (.int .u64 0), .pl (.int .u64 0), .pl (.int .u64 0), .pl (.int .u64 0), .nils], .box [.pl (.string ⟨#[99, 114, 105, 116, 124, 119, 97, 114, 110]⟩), .pl (.int .i64 0), .pl (.bool false)]] (.agg [.pl (.int .i64 3), .pl (.int .u64 0), .pl (.int .u64 0), .pl (.int .u64 0), .pl (.int .u64 0), .sl 6 [.agg [.pl (.int .i64 2), .pl (.int .u64 0), .pl (.int .u64 0), .pl (.int .u64 0), .pl (.int .u64 0), .sl 6 [.agg [.pl (.int .i64 1), .pl (.int .u64 0), .pl (.int .u64 34359738368), .pl (.int .u64 0), .pl (.int .u64 0), .nils], .agg [.pl (.int .i64 1), .pl (.int .u64 0), .pl (.int .u64 1125899906842624), .pl (.int .u64 0), .pl (.int .u64 0), .nils], .agg [.pl (.int .i64 1), .pl (.int .u64 0), .pl (.int .u64 2199023255552), .pl (.int .u64 0), .pl (.int .u64 0), .nils], .agg [.pl (.int .i64 1), .pl (.int .u64 0), .pl (.int .u64 4503599627370496), .pl (.int .u64 0), .pl (.int .u64 0), .nils]]], .agg [.pl (.int .i64 2), .pl (.int .u64 0), .pl (.int .u64 0), .pl (.int .u64 0), .pl (.int .u64 0), .sl 6 [.agg [.pl (.int .i64 1), .pl (.int .u64 0), .pl (.int .u64 36028797018963968), .pl (.int .u64 0), .pl (.int .u64 0), .nils], .agg [.pl (.int .i64 1), .pl (.int .u64 0), .pl (.int .u64 8589934592), .pl (.int .u64 0), .pl (.int .u64 0), .nils], .agg [.pl (.int .i64 1), .pl (.int .u64 0), .pl (.int .u64 1125899906842624), .pl (.int .u64 0), .pl (.int .u64 0), .nils], .agg [.pl (.int .i64 1), .pl (.int .u64 0), .pl (.int .u64 70368744177664), .pl (.int .u64 0), .pl (.int .u64 0), .nils]]]]]) [.box [.pl (.int .i64 3), .pl (.string ⟨#[115, 101, 118]⟩), .pl (.string ⟨#[99, 114, 105, 116, 124, 119, 97, 114, 110]⟩)], .box [.pl (.int .i64 0), .pl (.int .u64 0), .pl (.int .u64 0), .pl (.int .u64 0), .pl (.int .u64 0), .nils], .box [.pl (.string ⟨#[99, 114, 105, 116, 124, 119, 97, 114, 110]⟩), .pl (.int .i64 9), .pl (.bool false)]] := evFT_ok allR extF [] 300 100 _ _ _ _ _ (by kernel_rfl)
def rr0 : Memo Tryz.prog := ⟨_, _, _, _, _, rr0_ok⟩
/- 3361 steps -/
theorem rr1_ok : Ans Tryz.prog 171 [.ptr 1 0, .pl (.int .i64 0)] [.box [.pl (.int .i64 0), .pl (.int .u64 0), .pl (.int .u64 0), .pl (.int .u64 0), .pl (.int .u64 0), .nils], .box [.pl (.string ⟨#[99, 114, 105, 116, 124, 119, 97, 114, 110]⟩), .pl (.int .i64 0), .pl (.bool false)]] (.agg [.pl (.int .i64 3), .pl (.int .u64 0), .pl (.int .u64 0), .pl (.int .u64 0), .pl (.int .u64 0), .sl 6 [.agg [.pl (.int .i64 2), .pl (.int .u64 0), .pl (.int .u64 0), .pl (.int .u64 0), .pl (.int .u64 0), .sl 6 [.agg [.pl (.int .i64 1), .pl (.int .u64 0), .pl (.int .u64 34359738368), .pl (.int .u64 0), .pl (.int .u64 0), .nils], .agg [.pl (.int .i64 1), .pl (.int .u64 0), .pl (.int .u64 1125899906842624), .pl (.int .u64 0), .pl (.int .u64 0), .nils], .agg [.pl (.int .i64 1), .pl (.int .u64 0), .pl (.int .u64 2199023255552), .pl (.int .u64 0), .pl (.int .u64 0), .nils], .agg [.pl (.int .i64 1), .pl (.int .u64 0), .pl (.int .u64 4503599627370496), .pl (.int .u64 0), .pl (.int .u64 0), .nils]]], .agg [.pl (.int .i64 2), .pl (.int .u64 0), .pl (.int .u64 0), .pl (.int .u64 0), .pl (.int .u64 0), .sl 6 [.agg [.pl (.int .i64 1), .pl (.int .u64 0), .pl (.int .u64 36028797018963968), .pl (.int .u64 0), .pl (.int .u64 0), .nils], .agg [.pl (.int .i64 1), .pl (.int .u64 0), .pl (.int .u64 8589934592), .pl (.int .u64 0), .pl (.int .u64 0), .nils], .agg [.pl (.int .i64 1), .pl (.int .u64 0), .pl (.int .u64 1125899906842624), .pl (.int .u64 0), .pl (.int .u64 0), .nils], .agg [.pl (.int .i64 1), .pl (.int .u64 0), .pl (.int .u64 70368744177664), .pl (.int .u64 0), .pl (.int .u64 0), .nils]]]]]) [.box [.pl (.int .i64 0), .pl (.int .u64 0), .pl (.int .u64 0), .pl (.int .u64 0), .pl (.int .u64 0), .nils], .box [.pl (.string ⟨#[99, 114, 105, 116, 124, 119, 97, 114, 110]⟩), .pl (.int .i64 9), .pl (.bool false)]] := evFT_ok allR extF [rr0] 300 100 _ _ _ _ _ (by kernel_rfl)
def rr1 : Memo Tryz.prog := ⟨_, _, _, _, _, rr1_ok⟩
/- 3017 steps -/
theorem rr2_ok : Ans Tryz.prog 145 [.agg [.sl 3 [.agg [.pl (.int .i64 1), .pl (.string ⟨#[115, 101, 118]⟩), .pl (.string ⟨#[99, 114, 105, 116]⟩)]], .sl 3 [.agg [.pl (.int .i64 3), .pl (.string ⟨#[115, 101, 118]⟩), .pl (.string ⟨#[99, 114, 105, 116, 124, 119, 97, 114, 110]⟩)]], .pl (.bool true), .pl (.float .f64 0), .pl (.float .f64 0), .sl 1 [.pl (.string ⟨#[99]⟩)]]] [] (.pl (.bool true)) [] := evFT_ok allR extF [rr0, rr1] 300 100 _ _ _ _ _ (by kernel_rfl)
def rr2 : Memo Tryz.prog := ⟨_, _, _, _, _, rr2_ok⟩
/- 4135 steps -/
theorem rr3_ok : Ans Tryz.prog 167 [.agg [.pl (.int .i64 3), .pl (.string ⟨#[115, 101, 118]⟩), .pl (.string ⟨#[99, 114, 105, 116, 124, 119, 97, 114, 110]⟩)], .sl 2 [.agg [.pl (.string ⟨#[99]⟩), .pl (.string ⟨#[120]⟩)], .agg [.pl (.string ⟨#[115, 101, 118]⟩), .pl (.string ⟨#[119, 97, 114, 110]⟩)]]] [] (.pl (.bool true)) [] := evFT_ok allR extF [rr0, rr1, rr2] 300 100 _ _ _ _ _ (by kernel_rfl)
def rr3 : Memo Tryz.prog := ⟨_, _, _, _, _, rr3_ok⟩
/- 4135 steps -/
theorem rr4_ok : Ans Tryz.prog 167 [.agg [.pl (.int .i64 3), .pl (.string ⟨#[115, 101, 118]⟩), .pl (.string ⟨#[99, 114, 105, 116, 124, 119, 97, 114, 110]⟩)], .sl 2 [.agg [.pl (.string ⟨#[99]⟩), .pl (.string ⟨#[121]⟩)], .agg [.pl (.string ⟨#[115, 101, 118]⟩), .pl (.string ⟨#[119, 97, 114, 110]⟩)]]] [] (.pl (.bool true)) [] := evFT_ok allR extF [rr0, rr1, rr2, rr3] 300 100 _ _ _ _ _ (by kernel_rfl)
def rr4 : Memo Tryz.prog := ⟨_, _, _, _, _, rr4_ok⟩
/- 4171 steps -/
theorem rr5_ok : Ans Tryz.prog 167 [.agg [.pl (.int .i64 3), .pl (.string ⟨#[115, 101, 118]⟩), .pl (.string ⟨#[99, 114, 105, 116, 124, 119, 97, 114, 110]⟩)], .sl 2 [.agg [.pl (.string ⟨#[99]⟩), .pl (.string ⟨#[120]⟩)], .agg [.pl (.string ⟨#[115, 101, 118]⟩), .pl (.string ⟨#[99, 114, 105, 116]⟩)]]] [] (.pl (.bool true)) [] := evFT_ok allR extF [rr0, rr1, rr2, rr3, rr4] 300 100 _ _ _ _ _ (by kernel_rfl)
def rr5 : Memo Tryz.prog := ⟨_, _, _, _, _, rr5_ok⟩
/- 4429 steps -/
theorem rr_ok : Ans Tryz.prog 16 [] [] (.pl (.bool true)) [] := evFT_ok allR extF [rr0, rr1, rr2, rr3, rr4, rr5] 300 100 _ _ _ _ _ (by kernel_rfl)
end Go.Proofs.YtmkmhhjkdaklbaaGreat
namespace Go.Proofs.YtmkmhhjkdaklbaaGreat
open Go Go.Ab Go.Cod
set_option maxRecDepth 100000
section
variable (σ : St)
theorem rr_a : Ans Tryz.prog 16 [] σ (Bo true) σ := rr_ok.frame (bel_all rfl) σ
end
end Go.Proofs.YtmkmhhjkdaklbaaGreat
namespace Go.Proofs.YtmkmhhjkdaklbaaGreat
open Go Go.Ab Go.Cod
set_option maxRecDepth 100000
def drawnRu (d : RuD) : RuM := ⟨mustL true (matsGo d.ds []), mustL true (matsGo d.es []), (drawnBand d.sel d.lo d.hi).1, (drawnBand d.sel d.lo d.hi).2.1, (drawnBand d.sel d.lo d.hi).2.2, drawnEq d.ns⟩
theorem rule_ans (σ : St) (d : RuD) : Ans Tryz.prog 22 [duV d] σ (ruV (drawnRu d)) σ :=
 rule_in σ d.ds d.es d.sel d.lo d.hi d.ns (drawnBand d.sel d.lo d.hi) _ _ (fun σ => mats_ans' σ true d.ds d.hd) (fun σ => mats_ans' σ true d.es d.he)
  (fun n => bel_mvs n _) (fun n => bel_mvs n _) (fun σ => band_ans σ _ _ _)
end Go.Proofs.YtmkmhhjkdaklbaaGreat
namespace Go.Proofs.YtmkmhhjkdaklbaaGreat
open Go Go.Ab Go.Cod
set_option maxRecDepth 100000
def subsL : List ByteArray → List (List ByteArray)
 | [] => [[]]
 | x :: xs => subsL xs ++ (subsL xs).map fun l => x :: l
theorem mem_subsL : ∀ {l r : List ByteArray}, l.Sublist r → l ∈ subsL r
 | _, _, .slnil => by simp [subsL]
 | l, x :: r, .cons _ h => List.mem_append_left _ (mem_subsL h)
 | x :: l, _ :: r, .cons_cons _ h => List.mem_append_right _ (List.mem_map.2 ⟨l, mem_subsL h, rfl⟩)
theorem eqGo_sub (ns : List Int) : ∀ (r e : List ByteArray), ∃ l, eqGo ns r e = e ++ l ∧ l.Sublist r
 | [], e => ⟨[], by simp [eqGo], .slnil⟩
 | s :: r, e => by
   rw [eqGo]
   split
   · cases hasN (ns.take 9) s with
     | true =>
       obtain ⟨l, h1, h2⟩ := eqGo_sub ns r (e ++ [s])
       exact ⟨s :: l, by rw [if_pos rfl, h1]; simp, .cons_cons _ h2⟩
     | false =>
       obtain ⟨l, h1, h2⟩ := eqGo_sub ns r e
       exact ⟨l, by rw [if_neg Bool.false_ne_true, h1], .cons _ h2⟩
   · exact ⟨[], by simp, List.nil_sublist _⟩
theorem eqGo_len (ns : List Int) : ∀ (r e : List ByteArray), e.length ≤ 4 → (eqGo ns r e).length ≤ 4
 | [], e, h => by simpa [eqGo] using h
 | s :: r, e, h => by
   rw [eqGo]
   split
   · refine eqGo_len ns r _ ?_
     split
     · simp; omega
     · omega
   · exact h
theorem subs_ok : ∀ l ∈ subsL nm5, l.length ≤ 4 → eqB l = true := by decide +kernel
theorem drawnEq_sub (ns : List Int) : (drawnEq ns).Sublist nm5 := by
 obtain ⟨l, h1, h2⟩ := eqGo_sub ns nm5 []
 unfold drawnEq
 rw [h1]
 exact h2
theorem drawnEq_len (ns : List Int) : (drawnEq ns).length ≤ 4 := eqGo_len ns nm5 [] (by simp)
theorem eqB_sub {e : List ByteArray} (ns : List Int) (h : e.Sublist (drawnEq ns)) : eqB e = true :=
 subs_ok e (mem_subsL (h.trans (drawnEq_sub ns))) (by have := h.length_le; have := drawnEq_len ns; omega)
end Go.Proofs.YtmkmhhjkdaklbaaGreat
namespace Go.Proofs.YtmkmhhjkdaklbaaGreat
open Go Go.Ab Go.Cod Go.ChangeShapes Go.WideShapes Go.ChangeAt Go.RowKit
set_option maxRecDepth 100000
def eqMt (x y : Mtr) : Bool := x.1 == y.1 && (x.2.1.toList == y.2.1.toList && (x.2.2.toList == y.2.2.toList && true))
def sameM (A B : List Mtr) : Bool := decide (A.length = B.length) && (List.range A.length).all fun i => eqMt (A.getD i noM3) (B.getD i noM3)
theorem eqMt_refl (x : Mtr) : eqMt x x = true := by simp [eqMt]
theorem sameM_refl (A : List Mtr) : sameM A A = true := by simp [sameM, eqMt_refl]
theorem samem_ans (σ : St) (A B : List Mtr) (hA : A.length ≤ 1000) : Ans Tryz.prog 77 [.sl 3 (mvs3 A), .sl 3 (mvs3 B)] σ (Bo (sameM A B)) σ := by
 refine Ans.of_run t77 ?_
 have e0 : ((A.length : Int) != B.length) = !decide (A.length = B.length) := by
  rw [Bool.eq_iff_iff]; simp only [bne_iff_ne, Bool.not_eq_true', decide_eq_false_iff_not]; omega
 unfold sameM
 by_cases hl : A.length = B.length
 · rw [decide_eq_true hl, Bool.true_and]
   rw [decide_eq_true hl] at e0
   simp -implicitDefEqProofs only [c77, r77, go_sem, mvs3_len, e0]
   refine Go.Ab.L.scan A.length (fun i => eqMt (A.getD i noM3) (B.getD i noM3)) (fun i => mkE 26 [(0, .sl 3 (mvs3 A)), (1, .sl 3 (mvs3 B)), (5, I i)]) (fun _ => σ) ?_ ?_ rfl rfl
   · intro i hi hp J hJ
     have hx := mget_D A i hi
     have hy := mget_D B i (by omega)
     have hlB : ((i : Int) < B.length) = True := by simp; omega
     have hF : eqMt (A.getD i noM3) (B.getD i noM3) = false → ((List.range A.length).all fun i => eqMt (A.getD i noM3) (B.getD i noM3)) = false := fun h => List.all_eq_false.2 ⟨i, List.mem_range.2 hi, by rw [h]; decide⟩
     have hin := wrap_succ (i := i) (by omega)
     generalize A.getD i noM3 = x at hx hJ hF
     generalize B.getD i noM3 = y at hy hJ hF
     simp -implicitDefEqProofs only [mkE, go_sem, mvs3_len, nat_lt hi, dec_lt hi, hlB, hx, hy, mv3, Bool.true_xor]
     cases hb : eqMt x y with
     | true =>
       have hgo := hJ hb
       have hb' : (x.1 == y.1 && (x.2.1.toList == y.2.1.toList && (x.2.2.toList == y.2.2.toList && true))) = true := hb
       simp only [Bool.and_true] at hb'
       simp -implicitDefEqProofs only [go_sem, hb', hin]
       exact hgo
     | false =>
       have hb' : (x.1 == y.1 && (x.2.1.toList == y.2.1.toList && (x.2.2.toList == y.2.2.toList && true))) = false := hb
       simp only [Bool.and_true] at hb'
       rw [hF hb]
       simp -implicitDefEqProofs only [go_sem, hb']
       exact Fini.ret rfl
   · intro hp J
     have hd : decide ((A.length : Int) < A.length) = false := by simp
     simp -implicitDefEqProofs only [mkE, go_sem, mvs3_len, hd]
     refine Fini.ret' rfl (bo_congr ?_)
     exact (List.all_eq_true.2 fun i hi => hp i (List.mem_range.1 hi)).symm
 · rw [decide_eq_false hl, Bool.false_and]
   rw [decide_eq_false hl] at e0
   simp -implicitDefEqProofs only [c77, r77, go_sem, mvs3_len, e0]
   exact Fini.ret rfl
theorem wf8 {n : Int} (h : (Lit.int .u8 n).wf = true) : 0 ≤ n ∧ n < 256 := by
 simp [Lit.wf, IntKind.min, IntKind.max, IntKind.bits, IntKind.signed] at h
 omega
theorem byts_of : ∀ {ys : List (List AV)}, (∀ y ∈ ys, QInt .u8 y) → ∃ b : Byt, ys.map (wrapC false) = byv b
 | [], _ => ⟨[], rfl⟩
 | y :: ys, h => by
   obtain ⟨m, hm, rfl⟩ := h y List.mem_cons_self
   obtain ⟨b, hb⟩ := byts_of (ys := ys) (fun z hz => h z (List.mem_cons_of_mem _ hz))
   obtain ⟨h0, h1⟩ := wf8 hm
   obtain ⟨n, rfl⟩ := Int.eq_ofNat_of_zero_le h0
   refine ⟨n.toUInt8 :: b, ?_⟩
   rw [List.map_cons, hb, byv_cons, ← bc_of (show n < 256 by omega)]
   rfl
theorem byts_arg {H : Type} {enc : TypeId × Value → H} {W : World} {base : Nat} {v : Value} {d : DataW H} {ps : List MemPlace} (hv : Value.okWide Tryz.prog W .any base 29 v)
  (h : DataW.Trod enc Tryz.prog W 0 (fun _ => true) true 29 v d ps) : ∃ b : Byt, Rep noM noR W (.sl 1 (byv b)) v := by
 obtain ⟨sa, len, cap, rfl⟩ := okWide_slice Tryz.underlying29 hv
 obtain ⟨x, hx, hq⟩ := Reads.arg (P := Tryz.prog) (t := 29) (Q := QSlice 1 false (QInt .u8)) (fun f => by
  cases f with
  | zero => exact Reads.zero
  | succ f => exact Reads.slice false Tryz.underlying29 (by kernel_rfl) (by decide) (Reads.int Tryz.underlying5 f) (fun y hy _ => by obtain ⟨n, _, rfl⟩ := hy; rfl)) rfl h
 rcases hq with hq | ⟨ys, hys, _, hq⟩
 · simp only [List.cons.injEq, and_true] at hq
   subst hq
   refine ⟨[], ?_⟩
   have := hx.nils_inv
   rw [this]
   exact .sl0 _ _ _
 · obtain ⟨b, hn⟩ := byts_of hys
   simp only [List.cons.injEq, and_true] at hq
   subst hq
   rw [hn] at hx
   exact ⟨b, hx⟩
end Go.Proofs.YtmkmhhjkdaklbaaGreat
namespace Go.Proofs.YtmkmhhjkdaklbaaGreat
open Go Go.Ab Go.Cod
set_option maxRecDepth 100000
theorem names_ok : ∀ n ∈ names, nameB n = true := by decide +kernel
theorem pats_ok : ∀ p ∈ pats, (pparse p).2 = true := by decide +kernel
theorem vals8_ok : ∀ p ∈ vals8, p.size ≤ 24 := by decide +kernel
theorem mok_isB {x : Mz} (h : MOK x) : isB x.1 x.2.1 x.2.2 = true := by
 unfold isB
 rw [names_ok _ h.nm, Bool.true_and]
 have h1 := h.lo
 have h4 := h.hi
 by_cases h3 : x.1 < 3
 · have hl : likeB x.1 = false := by unfold likeB; rw [Bool.or_eq_false_iff]; exact ⟨by simp; omega, by simp; omega⟩
   rw [hl]
   simp only [Bool.false_eq_true, if_false, Bool.and_eq_true, Bool.or_eq_true, beq_iff_eq, decide_eq_true_eq]
   exact ⟨by omega, vals8_ok _ (h.low h3)⟩
 · have hl : likeB x.1 = true := by unfold likeB; rw [Bool.or_eq_true]; simp only [beq_iff_eq]; omega
   rw [hl]
   simp only [if_true]
   exact pats_ok _ (h.high h3)
theorem aheadPD (x y : Mz) : aheadP x y = aheadD x y := by
 unfold aheadP aheadD
 have : (x.1 != y.1) = !(x.1 == y.1) := rfl
 rw [this]
theorem listB_ok {M : List Mz} (h5 : M.length ≤ 5) (ho : ∀ y ∈ M, MOK y) (ha : Adj M) : listB M = true := by
 unfold listB
 rw [decide_eq_true h5, Bool.true_and]
 refine List.all_eq_true.2 fun i hi => ?_
 have hi := List.mem_range.1 hi
 have e : M.getD i noM3 = M[i] := by rw [List.getD_eq_getElem?_getD, List.getElem?_eq_getElem hi]; rfl
 unfold okL isM
 rw [e, mok_isB (ho _ (List.getElem_mem hi)), Bool.true_and]
 cases i with
 | zero => rfl
 | succ i =>
   have e2 : M.getD (i + 1 - 1) noM3 = M[i] := by rw [List.getD_eq_getElem?_getD, Nat.add_sub_cancel, List.getElem?_eq_getElem (by omega)]; rfl
   rw [e2]
   have := ha i M[i] M[i + 1] (by simp) (by simp [hi])
   rw [aheadPD] at this
   rw [this]; simp
theorem listB_mats (ds : List (Int × Int × Int)) : listB (matsGo ds []) = true := by
 obtain ⟨h1, h2, h3⟩ := mats_ok ds
 exact listB_ok h1 h2 h3
end Go.Proofs.YtmkmhhjkdaklbaaGreat
namespace Go.Proofs.YtmkmhhjkdaklbaaGreat
open Go Go.Ab Go.Cod Ieee
set_option maxRecDepth 100000
theorem cmpOrd (p q : Int) (h : (some (compare q p) == some Ordering.lt) = false) : (some (compare p q) == some Ordering.lt || some (compare p q) == some Ordering.eq) = true := by
 simp only [compare, compareOfLessAndEq] at h ⊢
 by_cases h1 : q < p
 · rw [if_pos h1] at h; exact absurd h (by decide)
 · by_cases h2 : p < q
   · rw [if_pos h2]; rfl
   · have : p = q := by omega
     rw [if_neg h2, if_pos this]; rfl
theorem leF_tot (a b : Nat) (h1 : nanF a = false) (h2 : nanF b = false) (h3 : ltF b a = false) : leF a b = true := by
 unfold nanF at h1 h2
 unfold ltF at h3
 unfold leF
 unfold Format.order at *
 generalize FloatKind.f64.format.read a = x at *
 generalize FloatKind.f64.format.read b = y at *
 cases x with
 | nan s m => simp [Datum.order] at h1
 | infinity s =>
   cases y with
   | nan t n => simp [Datum.order] at h2
   | infinity t => revert h3; cases s <;> cases t <;> decide
   | number t n j =>
     revert h3
     cases s <;> simp [Datum.order]
 | number s m i =>
   cases y with
   | nan t n => simp [Datum.order] at h2
   | infinity t =>
     revert h3
     cases t <;> simp [Datum.order]
   | number t n j =>
     simp only [Datum.order] at h3 ⊢
     rw [show min j i = min i j from Int.min_comm j i] at h3
     exact cmpOrd _ _ h3
theorem bits_zero : bitsF 0 = 0 := by decide +kernel
theorem band_may (sel : Int) (lo hi : Nat) : mayB (drawnBand sel lo hi).1 (drawnBand sel lo hi).2.1 (drawnBand sel lo hi).2.2 = true := by
 unfold drawnBand
 split
 · simp only [mayB, bits_zero]; rfl
 · rename_i h
   have hn : nanF lo = false ∧ nanF hi = false := by
    cases h1 : nanF lo <;> cases h2 : nanF hi <;> simp_all
   split
   · rename_i h3
     have : leF hi lo = true := by
      unfold ltF at h3
      unfold leF
      rw [h3]; rfl
     simpa [mayB] using this
   · rename_i h3
     have : leF lo hi = true := leF_tot lo hi hn.1 hn.2 (by simpa using h3)
     simpa [mayB] using this
theorem names_sz : ∀ n ∈ names, n.size ≤ 100000 := by decide +kernel
theorem must_list (ds : List (Int × Int × Int)) : listB (mustL true (matsGo ds [])) = true ∧ ((((mustL true (matsGo ds [])).length : Nat) : Int) == 0) = false ∧ ∀ x ∈ mustL true (matsGo ds []), x.2.1.size ≤ 100000 := by
 have hd : listB [(1, ⟨#[115, 101, 118]⟩, ⟨#[97]⟩)] = true := by decide +kernel
 cases hm : matsGo ds [] with
 | nil =>
   refine ⟨hd, by decide, fun x hx => ?_⟩
   have : x = (1, ⟨#[115, 101, 118]⟩, ⟨#[97]⟩) := by simpa [mustL] using hx
   subst this
   decide
 | cons y l =>
   have h := listB_mats ds
   obtain ⟨_, h2, _⟩ := mats_ok ds
   rw [hm] at h h2
   refine ⟨h, by simp [mustL]; omega, fun x hx => ?_⟩
   have hx' : x ∈ y :: l := by simpa [mustL] using hx
   exact names_sz _ (h2 x hx').nm
theorem drawn_is (d : RuD) : ruIs (drawnRu d) = true := by
 have h1 := must_list d.ds
 have h2 := must_list d.es
 have h3 := band_may d.sel d.lo d.hi
 have h4 := eqB_sub d.ns (List.Sublist.refl _)
 unfold ruIs drawnRu
 simp only
 rw [h1.1, h1.2.1, h2.1, h2.2.1, h3, h4]
 rfl
end Go.Proofs.YtmkmhhjkdaklbaaGreat
namespace Go.Proofs.YtmkmhhjkdaklbaaGreat
open Go Go.Ab
set_option maxRecDepth 100000
def c48 : ACode :=
 (.seq (.ops [⟨some 2, none, .prim (.mov (.const (.int .u64 0)))⟩])
 (.seq (.seq (.ops [⟨some 3, none, .prim (.mov (.tmp 0))⟩,
 ⟨some 4, none, .prim (.mov (.tmp 0))⟩,
 ⟨some 5, none, .prim (.bin false .neq (.tmp 3) (.tmp 4))⟩])
 (.cond (.tmp 5)
 (.seq (.ops [⟨some 2, none, .prim (.mov (.const (.int .u64 9221120237041090561)))⟩])
 .ret)
 .skip))
 (.seq (.ops [⟨some 6, none, .prim (.mov (.tmp 0))⟩,
 ⟨some 7, none, .call (.func 47) [(.tmp 6)]⟩,
 ⟨some 2, none, .prim (.mov (.tmp 7))⟩])
 .ret)))
def o48 : List Tmp := []
def r48 : List RV := [.tmp 2]
theorem t48 : Text Tryz.prog 48 o48 c48 r48 8 := ⟨⟨Tryz.f48, _, by kernel_rfl, by kernel_rfl, rfl, by kernel_rfl, by kernel_rfl, rfl⟩, by kernel_rfl⟩
end Go.Proofs.YtmkmhhjkdaklbaaGreat
namespace Go.Proofs.YtmkmhhjkdaklbaaGreat
open Go Go.Ab Go.Cod
set_option maxRecDepth 100000
section
variable (σ : St)
theorem dbits_ans (a : Nat) : Ans Tryz.prog 48 [Fl a] σ (UN (bitsF a)) σ := by
 refine Ans.of_run t48 ?_
 unfold bitsF
 simp -implicitDefEqProofs only [c48, r48, go_sem, nanF_def]
 cases nanF a with
 | true =>
   simp -implicitDefEqProofs only [go_sem]
   exact Fini.ret rfl
 | false =>
   simp -implicitDefEqProofs only [go_sem]
   refine CO.intro (f64bits_ans σ a) ?_
   simp -implicitDefEqProofs only [go_sem]
   exact Fini.ret rfl
end
end Go.Proofs.YtmkmhhjkdaklbaaGreat
namespace Go.Proofs.YtmkmhhjkdaklbaaGreat
open Go Go.Ab
set_option maxRecDepth 100000
def c21 : ACode :=
 (.seq (.ops [⟨some 2, none, .prim (.boxr (.tmp 0))⟩,
 ⟨some 3, none, .prim (.boxr (.tmp 1))⟩,
 ⟨some 4, none, .prim (.mov (.const (.bool false)))⟩])
 (.seq (.seq (.ops [⟨some 6, none, .prim (.fadr 5 (.tmp 2))⟩,
 ⟨some 7, none, .prim (.load 1 false (.tmp 6))⟩,
 ⟨some 8, none, .prim (.lenv (.tmp 7))⟩,
 ⟨some 9, none, .prim (.fadr 5 (.tmp 3))⟩,
 ⟨some 10, none, .prim (.load 1 false (.tmp 9))⟩,
 ⟨some 11, none, .prim (.lenv (.tmp 10))⟩,
 ⟨some 12, none, .prim (.bin false .neq (.tmp 8) (.tmp 11))⟩,
 ⟨some 13, none, .prim (.mov (.tmp 12))⟩,
 ⟨some 14, (some (13, false)), .prim (.fadr 0 (.tmp 2))⟩,
 ⟨some 15, (some (13, false)), .prim (.load 1 false (.tmp 14))⟩,
 ⟨some 16, (some (13, false)), .prim (.fadr 0 (.tmp 3))⟩,
 ⟨some 17, (some (13, false)), .prim (.load 1 false (.tmp 16))⟩,
 ⟨some 18, (some (13, false)), .call (.func 77) [(.tmp 15), (.tmp 17)]⟩,
 ⟨some 19, (some (13, false)), .prim (.un .not (.tmp 18))⟩,
 ⟨some 20, none, .prim (.pick (.tmp 13) (.const (.bool true)) (.tmp 19))⟩,
 ⟨some 21, none, .prim (.mov (.tmp 20))⟩,
 ⟨some 22, (some (21, false)), .prim (.fadr 1 (.tmp 2))⟩,
 ⟨some 23, (some (21, false)), .prim (.load 1 false (.tmp 22))⟩,
 ⟨some 24, (some (21, false)), .prim (.fadr 1 (.tmp 3))⟩,
 ⟨some 25, (some (21, false)), .prim (.load 1 false (.tmp 24))⟩,
 ⟨some 26, (some (21, false)), .call (.func 77) [(.tmp 23), (.tmp 25)]⟩,
 ⟨some 27, (some (21, false)), .prim (.un .not (.tmp 26))⟩,
 ⟨some 28, none, .prim (.pick (.tmp 21) (.const (.bool true)) (.tmp 27))⟩,
 ⟨some 29, none, .prim (.mov (.tmp 28))⟩,
 ⟨some 30, (some (29, false)), .prim (.fadr 2 (.tmp 2))⟩,
 ⟨some 31, (some (29, false)), .prim (.load 3 true (.tmp 30))⟩,
 ⟨some 32, (some (29, false)), .prim (.fadr 2 (.tmp 3))⟩,
 ⟨some 33, (some (29, false)), .prim (.load 3 true (.tmp 32))⟩,
 ⟨some 34, (some (29, false)), .call (.func 78) [(.tmp 31), (.tmp 33)]⟩,
 ⟨some 35, (some (29, false)), .prim (.un .not (.tmp 34))⟩,
 ⟨some 36, none, .prim (.pick (.tmp 29) (.const (.bool true)) (.tmp 35))⟩])
 (.cond (.tmp 36)
 (.seq (.ops [⟨some 4, none, .prim (.mov (.const (.bool false)))⟩])
 .ret)
 .skip))
 (.seq (.seq (.ops [⟨some 5, none, .prim (.mov (.const (.int .i64 0)))⟩])
 (.block 0 (.loop [0, 1, 4, 6, 7, 8, 9, 10, 11, 12, 13, 14, 15, 16, 17, 18, 19, 20, 21, 22, 23, 24, 25, 26, 27, 28, 29, 30, 31, 32, 33, 34, 35, 36, 37, 38, 39, 40, 41, 42, 43, 44, 45, 46, 47, 48, 49, 50, 51, 52, 53, 54] (.seq (.seq (.ops [⟨some 37, none, .prim (.mov (.tmp 5))⟩,
 ⟨some 38, none, .prim (.fadr 5 (.tmp 2))⟩,
 ⟨some 39, none, .prim (.load 1 false (.tmp 38))⟩,
 ⟨some 40, none, .prim (.lenv (.tmp 39))⟩,
 ⟨some 41, none, .prim (.bin false .lss (.tmp 37) (.tmp 40))⟩])
 (.cond (.tmp 41)
 .skip
 (.exit 0)))
 (.seq (.block 1 (.seq (.draw [⟨⟨some 44, none, .prim (.fadr 5 (.tmp 2))⟩, [], false, 0, 0⟩,
 ⟨⟨some 45, none, .prim (.load 1 false (.tmp 44))⟩, [0], false, 0, 0⟩,
 ⟨⟨some 46, none, .prim (.mov (.tmp 5))⟩, [], false, 0, 0⟩,
 ⟨⟨some 47, none, .prim (.iadrs 1 (.tmp 45) (.tmp 46))⟩, [0, 1, 2], false, 0, 0⟩,
 ⟨⟨some 48, none, .prim (.load 1 false (.tmp 47))⟩, [0, 1, 2, 3], false, 0, 0⟩,
 ⟨⟨some 49, none, .prim (.fadr 5 (.tmp 3))⟩, [], false, 0, 0⟩,
 ⟨⟨some 50, none, .prim (.load 1 false (.tmp 49))⟩, [5], false, 0, 0⟩,
 ⟨⟨some 51, none, .prim (.mov (.tmp 5))⟩, [], false, 0, 0⟩,
 ⟨⟨some 52, none, .prim (.iadrs 1 (.tmp 50) (.tmp 51))⟩, [5, 6, 7], false, 0, 0⟩,
 ⟨⟨some 53, none, .prim (.load 1 false (.tmp 52))⟩, [5, 6, 7, 8], false, 0, 0⟩,
 ⟨⟨some 54, none, .prim (.bin false .neq (.tmp 48) (.tmp 53))⟩, (List.range 10), false, 0, 0⟩])
 (.cond (.tmp 54)
 (.seq (.ops [⟨some 4, none, .prim (.mov (.const (.bool false)))⟩])
 .ret)
 .skip)))
 (.ops [⟨some 42, none, .prim (.mov (.tmp 5))⟩,
 ⟨some 43, none, .prim (.bin false .add (.tmp 42) (.const (.int .i64 1)))⟩,
 ⟨some 5, none, .prim (.mov (.tmp 43))⟩]))))))
 (.seq (.ops [⟨some 4, none, .prim (.mov (.const (.bool true)))⟩])
 .ret))))
def o21 : List Tmp := []
def r21 : List RV := [.tmp 4]
theorem t21 : Text Tryz.prog 21 o21 c21 r21 55 := ⟨⟨Tryz.f21, _, by kernel_rfl, by kernel_rfl, rfl, by kernel_rfl, by kernel_rfl, rfl⟩, by kernel_rfl⟩
def c78 : ACode :=
 (.seq (.ops [⟨some 2, none, .prim (.boxr (.tmp 0))⟩,
 ⟨some 3, none, .prim (.boxr (.tmp 1))⟩,
 ⟨some 4, none, .prim (.mov (.const (.bool false)))⟩])
 (.seq (.draw [⟨⟨some 5, none, .prim (.fadr 0 (.tmp 2))⟩, [], false, 0, 0⟩,
 ⟨⟨some 6, none, .prim (.load 1 false (.tmp 5))⟩, [0], false, 0, 0⟩,
 ⟨⟨some 7, none, .prim (.fadr 0 (.tmp 3))⟩, [], false, 0, 0⟩,
 ⟨⟨some 8, none, .prim (.load 1 false (.tmp 7))⟩, [2], false, 0, 0⟩,
 ⟨⟨some 9, none, .prim (.bin true .eql (.tmp 6) (.tmp 8))⟩, [0, 1, 2, 3], false, 0, 0⟩,
 ⟨⟨some 10, none, .prim (.mov (.tmp 9))⟩, [0, 1, 2, 3, 4], false, 0, 0⟩,
 ⟨⟨some 11, (some (10, true)), .prim (.fadr 1 (.tmp 2))⟩, (List.range 6), false, 0, 0⟩,
 ⟨⟨some 12, (some (10, true)), .prim (.load 1 false (.tmp 11))⟩, (List.range 7), false, 0, 0⟩,
 ⟨⟨some 13, (some (10, true)), .call (.func 48) [(.tmp 12)]⟩, (List.range 8), true, 0, 0⟩,
 ⟨⟨some 14, (some (10, true)), .prim (.fadr 1 (.tmp 3))⟩, (List.range 6), false, 0, 1⟩,
 ⟨⟨some 15, (some (10, true)), .prim (.load 1 false (.tmp 14))⟩, [0, 1, 2, 3, 4, 5, 9], false, 0, 1⟩,
 ⟨⟨some 16, (some (10, true)), .call (.func 48) [(.tmp 15)]⟩, (List.range 11), true, 0, 0⟩,
 ⟨⟨some 17, (some (10, true)), .prim (.bin false .eql (.tmp 13) (.tmp 16))⟩, (List.range 12), false, 2, 2⟩,
 ⟨⟨some 18, none, .prim (.pick (.tmp 10) (.tmp 17) (.const (.bool false)))⟩, (List.range 13), false, 2, 2⟩,
 ⟨⟨some 19, none, .prim (.mov (.tmp 18))⟩, (List.range 14), false, 2, 2⟩,
 ⟨⟨some 20, (some (19, true)), .prim (.fadr 2 (.tmp 2))⟩, (List.range 15), false, 2, 2⟩,
 ⟨⟨some 21, (some (19, true)), .prim (.load 1 false (.tmp 20))⟩, (List.range 16), false, 2, 2⟩,
 ⟨⟨some 22, (some (19, true)), .call (.func 48) [(.tmp 21)]⟩, (List.range 17), true, 0, 0⟩,
 ⟨⟨some 23, (some (19, true)), .prim (.fadr 2 (.tmp 3))⟩, (List.range 15), false, 2, 3⟩,
 ⟨⟨some 24, (some (19, true)), .prim (.load 1 false (.tmp 23))⟩, [0, 1, 2, 3, 4, 5, 6, 7, 8, 9, 10, 11, 12, 13, 14, 18], false, 2, 3⟩,
 ⟨⟨some 25, (some (19, true)), .call (.func 48) [(.tmp 24)]⟩, (List.range 20), true, 0, 0⟩,
 ⟨⟨some 26, (some (19, true)), .prim (.bin false .eql (.tmp 22) (.tmp 25))⟩, (List.range 21), false, 4, 4⟩,
 ⟨⟨some 27, none, .prim (.pick (.tmp 19) (.tmp 26) (.const (.bool false)))⟩, (List.range 22), false, 4, 4⟩,
 ⟨⟨some 4, none, .prim (.mov (.tmp 27))⟩, (List.range 23), false, 4, 4⟩])
 .ret))
def o78 : List Tmp := []
def r78 : List RV := [.tmp 4]
theorem t78 : Text Tryz.prog 78 o78 c78 r78 28 := ⟨⟨Tryz.f78, _, by kernel_rfl, by kernel_rfl, rfl, by kernel_rfl, by kernel_rfl, rfl⟩, by kernel_rfl⟩
end Go.Proofs.YtmkmhhjkdaklbaaGreat
namespace Go.Proofs.YtmkmhhjkdaklbaaGreat
open Go Go.Ab Go.Cod
set_option maxRecDepth 100000
def eqT (a b : ByteArray) : Bool := a.toList == b.toList
def eqBf (a b : Nat) : Bool := ((bitsF a : Nat) : Int) == ((bitsF b : Nat) : Int)
def sameBd (x y : Bnd) : Bool := (x.1 == y.1) && (eqBf x.2.1 y.2.1 && eqBf x.2.2 y.2.2)
def eqTs (a b : List ByteArray) : Bool := (List.range a.length).all fun i => eqT (a.getD i ⟨#[]⟩) (b.getD i ⟨#[]⟩)
def alikeB (x y : RuM) : Bool := decide (x.eq.length = y.eq.length) && (sameM x.src y.src && (sameM x.tgt y.tgt && (sameBd (x.any, x.lo, x.hi) (y.any, y.lo, y.hi) && eqTs x.eq y.eq)))
theorem eqTs_refl (a : List ByteArray) : eqTs a a = true := by simp [eqTs, eqT]
theorem sameBd_refl (x : Bnd) : sameBd x x = true := by simp [sameBd, eqBf]
theorem alikeB_refl (x : RuM) : alikeB x x = true := by simp [alikeB, sameM_refl, sameBd_refl, eqTs_refl]
section
variable (σ : St)
theorem sameband_ans (x y : Bnd) : Ans Tryz.prog 78 [bandV x, bandV y] σ (Bo (sameBd x y)) σ := by
 obtain ⟨a, lo, hi⟩ := x
 obtain ⟨c, lo', hi'⟩ := y
 have i1 := fun s => dbits_ans s lo
 have i2 := fun s => dbits_ans s lo'
 have i3 := fun s => dbits_ans s hi
 have i4 := fun s => dbits_ans s hi'
 refine Ans.of_run t78 ?_
 unfold bandV sameBd eqBf
 simp only
 cases h1 : (a == c) with
 | false =>
   simp -implicitDefEqProofs only [c78, r78, go_sem, h1]
   exact Fini.ret rfl
 | true =>
   simp -implicitDefEqProofs only [c78, r78, go_sem, h1]
   refine CD.intro (i1 _) ?_
   simp -implicitDefEqProofs only [go_sem]
   refine CD.intro (i2 _) ?_
   cases h2 : (((bitsF lo : Nat) : Int) == ((bitsF lo' : Nat) : Int)) with
   | false =>
     simp -implicitDefEqProofs only [go_sem, h2]
     exact Fini.ret rfl
   | true =>
     simp -implicitDefEqProofs only [go_sem, h2]
     refine CD.intro (i3 _) ?_
     simp -implicitDefEqProofs only [go_sem]
     refine CD.intro (i4 _) ?_
     simp -implicitDefEqProofs only [go_sem]
     exact Fini.ret rfl
theorem alike_ans (x y : RuM) (h1 : x.src.length ≤ 1000) (h2 : x.tgt.length ≤ 1000) (h3 : x.eq.length ≤ 100000) : Ans Tryz.prog 21 [ruV x, ruV y] σ (Bo (alikeB x y)) σ := by
 have i1 := fun s => samem_ans s x.src y.src h1
 have i2 := fun s => samem_ans s x.tgt y.tgt h2
 have i3 := fun s => sameband_ans s (x.any, x.lo, x.hi) (y.any, y.lo, y.hi)
 unfold bandV at i3
 have e1 : (((x.eq.length : Nat) : Int) != ((y.eq.length : Nat) : Int)) = !decide (x.eq.length = y.eq.length) := by
  rw [bne]
  congr 1
  rw [Bool.eq_iff_iff]
  simp only [beq_iff_eq, decide_eq_true_eq]
  omega
 refine Ans.of_run t21 ?_
 unfold ruV alikeB
 by_cases hl : x.eq.length = y.eq.length
 · have e2 : (((x.eq.length : Nat) : Int) != ((y.eq.length : Nat) : Int)) = false := by rw [e1, decide_eq_true hl]; rfl
   rw [decide_eq_true hl]
   simp -implicitDefEqProofs only [c21, r21, go_sem, txs_len, e2]
   refine CO.intro (i1 _) ?_
   cases sameM x.src y.src with
   | false =>
     simp -implicitDefEqProofs only [go_sem]
     exact Fini.ret rfl
   | true =>
   simp -implicitDefEqProofs only [go_sem]
   refine CO.intro (i2 _) ?_
   cases sameM x.tgt y.tgt with
   | false =>
     simp -implicitDefEqProofs only [go_sem]
     exact Fini.ret rfl
   | true =>
   simp -implicitDefEqProofs only [go_sem]
   refine CO.intro (i3 _) ?_
   cases sameBd (x.any, x.lo, x.hi) (y.any, y.lo, y.hi) with
   | false =>
     simp -implicitDefEqProofs only [go_sem]
     exact Fini.ret rfl
   | true =>
   simp -implicitDefEqProofs only [go_sem, Bool.true_and]
   unfold eqTs
   refine Go.Ab.L.scan x.eq.length (fun i => eqT (x.eq.getD i ⟨#[]⟩) (y.eq.getD i ⟨#[]⟩)) (fun i => mkE 55 [(2, .rp [.sl 3 (mvs3 x.src), .sl 3 (mvs3 x.tgt), Bo x.any, Fl x.lo, Fl x.hi, .sl 1 (txs x.eq)]), (3, .rp [.sl 3 (mvs3 y.src), .sl 3 (mvs3 y.tgt), Bo y.any, Fl y.lo, Fl y.hi, .sl 1 (txs y.eq)]), (5, I i)]) (fun _ => σ) ?_ ?_ rfl rfl
   · intro i hi hp J hJ
     have hx := txs_D x.eq i hi
     have hy := txs_D y.eq i (by omega)
     have hin := wrap_succ (i := i) (by omega)
     have hF : eqT (x.eq.getD i ⟨#[]⟩) (y.eq.getD i ⟨#[]⟩) = false → ((List.range x.eq.length).all fun i => eqT (x.eq.getD i ⟨#[]⟩) (y.eq.getD i ⟨#[]⟩)) = false := fun h => List.all_eq_false.2 ⟨i, List.mem_range.2 hi, by rw [h]; decide⟩
     have n1 := nat_lt hi
     have n2 := nat_lt (show i < y.eq.length by omega)
     simp -implicitDefEqProofs only [mkE, go_sem, txs_len, n1, n2, dec_lt hi, hx, hy]
     cases hb : eqT (x.eq.getD i ⟨#[]⟩) (y.eq.getD i ⟨#[]⟩) with
     | false =>
       rw [hF hb]
       unfold eqT at hb
       simp -implicitDefEqProofs only [go_sem, hb]
       exact Fini.ret rfl
     | true =>
       have hgo := hJ hb
       unfold eqT at hb
       simp -implicitDefEqProofs only [go_sem, hb, hin]
       exact hgo
   · intro hp J
     have hd : decide ((x.eq.length : Int) < x.eq.length) = false := by simp
     simp -implicitDefEqProofs only [mkE, go_sem, txs_len, hd]
     refine Fini.ret' rfl (bo_congr ?_)
     exact (List.all_eq_true.2 fun i hi => hp i (List.mem_range.1 hi)).symm
 · have e2 : (((x.eq.length : Nat) : Int) != ((y.eq.length : Nat) : Int)) = true := by rw [e1, decide_eq_false hl]; rfl
   rw [decide_eq_false hl]
   simp -implicitDefEqProofs only [c21, r21, go_sem, txs_len, e2]
   exact Fini.ret rfl
end
end Go.Proofs.YtmkmhhjkdaklbaaGreat
namespace Go.Ab
open Go Go.ChangeShapes Go.WideShapes
def QFloatW : List AV → Prop := fun xs => ∃ n : Nat, n < 2 ^ 64 ∧ xs = [.pl (.float .f64 n)]
theorem Reads.floatW {P : Program} {t : TypeId} (ht : P.underlying t = some (.float .f64)) (f : Nat) : Reads P t f QFloatW := by
 intro H enc W cs x h
 have : ∃ n, n < 2 ^ 64 ∧ cs = [.float .f64 n] := by
  cases f with
  | zero => simp [DataW.trod] at h
  | succ n =>
    unfold DataW.trod at h
    rw [ht] at h
    split at h <;> simp_all [Lit.wf]
    rename_i heq
    subst heq
    simp only at h
    have h := (Option.ite_none_right_eq_some.1 h).1
    exact ⟨of_decide_eq_true h.2, h.1⟩
 obtain ⟨n, hn, rfl⟩ := this
 exact ⟨_, reps_one (.pl _), n, hn, rfl⟩
end Go.Ab
namespace Go.Proofs.YtmkmhhjkdaklbaaGreat
open Go Go.Ab Go.Cod Go.ChangeShapes Go.WideShapes Go.ChangeAt Go.RowKit
set_option maxRecDepth 100000
theorem toList_inj {a b : ByteArray} (h : a.toList = b.toList) : a = b := by
 rw [ByteArray.toList_eq, ByteArray.toList_eq] at h
 cases a; cases b
 simpa using h
theorem eqT_iff (a b : ByteArray) : eqT a b = true ↔ a = b := by
 unfold eqT
 rw [beq_iff_eq]
 exact ⟨toList_inj, fun h => by rw [h]⟩
theorem ext_gD {α : Type} {a b : List α} {z : α} (h : a.length = b.length) (h2 : ∀ i, i < a.length → a.getD i z = b.getD i z) : a = b := by
 refine List.ext_getElem h fun i h1 h3 => ?_
 have := h2 i h1
 rw [List.getD_eq_getElem?_getD, List.getD_eq_getElem?_getD, List.getElem?_eq_getElem h1, List.getElem?_eq_getElem h3] at this
 exact this
theorem eqTs_eq {a b : List ByteArray} (h : a.length = b.length) (h2 : eqTs a b = true) : a = b :=
 ext_gD h fun i hi => (eqT_iff _ _).1 (List.all_eq_true.1 h2 i (List.mem_range.2 hi))
theorem eqMt_eq {x y : Mtr} (h : eqMt x y = true) : x = y := by
 unfold eqMt at h
 simp only [Bool.and_eq_true, beq_iff_eq, and_true] at h
 obtain ⟨h1, h2, h3⟩ := h
 obtain ⟨a, b, c⟩ := x
 obtain ⟨a', b', c'⟩ := y
 simp only at h1 h2 h3
 rw [h1, toList_inj h2, toList_inj h3]
theorem sameM_eq {A B : List Mtr} (h : sameM A B = true) : A = B := by
 unfold sameM at h
 simp only [Bool.and_eq_true, decide_eq_true_eq] at h
 exact ext_gD h.1 fun i hi => eqMt_eq (List.all_eq_true.1 h.2 i (List.mem_range.2 hi))
theorem bd_bits {x : Bnd} (h : bMay x = true) (w : bSz x) : bitsF x.2.1 = x.2.1 ∧ bitsF x.2.2 = x.2.2 := by
 have := may_ok h w
 obtain ⟨any, lo, hi⟩ := x
 cases any with
 | true =>
   obtain ⟨rfl, rfl⟩ : lo = 0 ∧ hi = 0 := this
   exact ⟨bits_zero, bits_zero⟩
 | false =>
   have : (lo < 2 ^ 64 ∧ bitsF lo = lo) ∧ (hi < 2 ^ 64 ∧ bitsF hi = hi) := this
   exact ⟨this.1.2, this.2.2⟩
theorem sameBd_eq {x y : Bnd} (hx : bMay x = true) (wx : bSz x) (hy : bMay y = true) (wy : bSz y) (h : sameBd x y = true) : x = y := by
 obtain ⟨b1, b2⟩ := bd_bits hx wx
 obtain ⟨b3, b4⟩ := bd_bits hy wy
 unfold sameBd eqBf at h
 rw [b1, b2, b3, b4] at h
 simp only [Bool.and_eq_true, beq_iff_eq] at h
 obtain ⟨a, lo, hi⟩ := x
 obtain ⟨c, lo', hi'⟩ := y
 simp only at h
 obtain ⟨h1, h2, h3⟩ := h
 rw [h1, Int.ofNat.inj h2, Int.ofNat.inj h3]
theorem alikeB_eq {x y : RuM} (hx : ruIs x = true) (wx : ruSz x) (hy : ruIs y = true) (wy : ruSz y) (h : alikeB x y = true) : x = y := by
 unfold alikeB at h
 simp only [Bool.and_eq_true, decide_eq_true_eq] at h
 obtain ⟨h0, h1, h2, h3, h4⟩ := h
 have e1 := sameM_eq h1
 have e2 := sameM_eq h2
 have e3 := sameBd_eq (x := (x.any, x.lo, x.hi)) (y := (y.any, y.lo, y.hi)) (ruIs_all hx).2.2.1 wx (ruIs_all hy).2.2.1 wy h3
 have e4 := eqTs_eq h0 h4
 cases x; cases y
 simp only [Prod.mk.injEq] at e1 e2 e3 e4
 obtain ⟨rfl, rfl, rfl⟩ := e3
 subst e1 e2 e4
 rfl
def eqY (x y : Byt) : Bool := (ByteArray.mk x.toArray).toList == (ByteArray.mk y.toArray).toList
theorem eqY_iff (x y : Byt) : eqY x y = true ↔ x = y := by
 unfold eqY
 rw [beq_iff_eq]
 refine ⟨fun h => ?_, fun h => by rw [h]⟩
 have := toList_inj h
 simpa using this
def sameP (a b : RuM) : Bool := ruIs a && (ruIs b && eqY (bytesRu a) (bytesRu b))
theorem sameP_alike {x y : RuM} (hx : ruIs x = true) (wx : ruSz x) (hy : ruIs y = true) (wy : ruSz y) : sameP x y = alikeB x y := by
 unfold sameP bytesRu
 rw [hx, hy, Bool.eq_iff_iff]
 simp only [Bool.true_and, if_true, eqY_iff]
 exact ⟨fun h => by rw [ru_fits.apart ⟨hx, wx⟩ ⟨hy, wy⟩ h]; exact alikeB_refl _, fun h => by rw [alikeB_eq hx wx hy wy h]⟩
theorem sameP_comm (x y : RuM) : sameP x y = sameP y x := by
 unfold sameP eqY
 cases ruIs x <;> cases ruIs y <;> simp [eq_comm, Bool.beq_comm]
theorem sameP_refl {x : RuM} (hx : ruIs x = true) : sameP x x = true := by
 unfold sameP
 rw [hx, (eqY_iff _ _).2 rfl]; rfl
section
variable (σ : St)
theorem equal_ans (x y : Byt) : Ans Tryz.prog 82 [.sl 1 (byv x), .sl 1 (byv y)] σ (Bo (eqY x y)) σ := by
 refine Ans.of_run t82 ?_
 simp -implicitDefEqProofs only [c82, r82, go_sem, byv_all', bc, byteL_byv, textOf_byv, AV.isStr]
 exact Fini.ret rfl
theorem rusame_ans (a b : RuM) : Ans Tryz.prog 23 [ruV a, ruV b] σ (Bo (sameP a b)) σ := by
 have i1 := fun s => ruis_ans s a
 have i2 := fun s => ruis_ans s b
 have b1 := fun s => rubytes_ans s a
 have b2 := fun s => rubytes_ans s b
 have e1 := fun s => equal_ans s (bytesRu a) (bytesRu b)
 unfold sameP
 generalize bytesRu a = x at b1 e1 ⊢
 generalize bytesRu b = y at b2 e1 ⊢
 refine Ans.of_run t23 ?_
 unfold ruV at *
 simp -implicitDefEqProofs only [c23, r23, go_sem]
 refine CD.intro (i1 _) ?_
 cases ruIs a with
 | false =>
   simp -implicitDefEqProofs only [go_sem]
   exact Fini.ret rfl
 | true =>
   simp -implicitDefEqProofs only [go_sem]
   refine CD.intro (i2 _) ?_
   cases ruIs b with
   | false =>
     simp -implicitDefEqProofs only [go_sem]
     exact Fini.ret rfl
   | true =>
     simp -implicitDefEqProofs only [go_sem]
     refine CD.intro (b1 _) ?_
     simp -implicitDefEqProofs only [go_sem]
     refine CD.intro (b2 _) ?_
     simp -implicitDefEqProofs only [go_sem]
     refine CD.intro (e1 _) ?_
     simp -implicitDefEqProofs only [go_sem]
     exact Fini.ret rfl
end
def QDBandW : List AV → Prop := fun xs => ∃ (b : Int) (lo hi : Nat), lo < 2 ^ 64 ∧ hi < 2 ^ 64 ∧ xs = [I b, Fl lo, Fl hi]
def QDRuW : List AV → Prop := fun xs => ∃ d : RuD, d.lo < 2 ^ 64 ∧ d.hi < 2 ^ 64 ∧ xs = duC d
theorem reads_dbandW (f : Nat) : Reads Tryz.prog 39 f QDBandW := by
 cases f with
 | zero => exact Reads.zero
 | succ f =>
   have h := Reads.struct (P := Tryz.prog) (t := 39) (f := f) (Qs := [QInt .i64, QFloatW, QFloatW]) Tryz.underlying39 (by kernel_rfl) rfl (by
    intro p hp
    simp only [List.zip_cons_cons, List.zip_nil_right, List.mem_cons, List.not_mem_nil, or_false] at hp
    rcases hp with rfl | rfl | rfl
    · exact Reads.int Tryz.underlying3 f
    · exact Reads.floatW Tryz.underlying23 f
    · exact Reads.floatW Tryz.underlying23 f)
   refine h.mono fun xs hq => ?_
   obtain ⟨_, _, rfl, ⟨k, _, rfl⟩, _, _, rfl, ⟨n, hn, rfl⟩, _, _, rfl, ⟨v, hv, rfl⟩, rfl⟩ := hq
   exact ⟨k, n, v, hn, hv, rfl⟩
theorem reads_druleW (f : Nat) : Reads Tryz.prog 42 f QDRuW := by
 cases f with
 | zero => exact Reads.zero
 | succ f =>
   have h := Reads.struct (P := Tryz.prog) (t := 42) (f := f) (Qs := [QMats, QMats, QDBandW, QInts]) Tryz.underlying42 (by kernel_rfl) rfl (by
    intro p hp
    simp only [List.zip_cons_cons, List.zip_nil_right, List.mem_cons, List.not_mem_nil, or_false] at hp
    rcases hp with rfl | rfl | rfl | rfl
    · exact reads_mats f
    · exact reads_mats f
    · exact reads_dbandW f
    · exact reads_ints f)
   refine h.mono fun xs hq => ?_
   obtain ⟨_, _, rfl, ⟨M, hM, rfl⟩, _, _, rfl, ⟨N, hN, rfl⟩, _, _, rfl, ⟨b, lo, hi, h1, h2, rfl⟩, _, _, rfl, ⟨e, rfl⟩, rfl⟩ := hq
   exact ⟨⟨M, N, b, lo, hi, e, hM, hN⟩, h1, h2, rfl⟩
theorem drule_argW {H : Type} {enc : TypeId × Value → H} {W : World} {base : Nat} {v : Value} {d : DataW H} {ps : List MemPlace} (hv : Value.okWide Tryz.prog W .any base 42 v) (h : DataW.Trod enc Tryz.prog W 0 (fun _ => true) true 42 v d ps) : ∃ r : RuD, r.lo < 2 ^ 64 ∧ r.hi < 2 ^ 64 ∧ Rep noM noR W (duV r) v := by
 obtain ⟨cs, rfl, _⟩ := okWide_struct Tryz.underlying42 hv
 obtain ⟨xs, h1, r, h2, h3, rfl⟩ := Reads.argS reads_druleW h
 exact ⟨r, h2, h3, h1⟩
theorem drawn_sz {d : RuD} (h1 : d.lo < 2 ^ 64) (h2 : d.hi < 2 ^ 64) : ruSz (drawnRu d) := by
 unfold ruSz drawnRu drawnBand
 simp only
 split
 · exact ⟨by decide, by decide⟩
 · split
   · exact ⟨h2, h1⟩
   · exact ⟨h1, h2⟩
end Go.Proofs.YtmkmhhjkdaklbaaGreat
namespace Go.Proofs.YtmkmhhjkdaklbaaGreat
open Go Go.Ab
set_option maxRecDepth 100000
def c3 : ACode :=
 (.seq (.ops [⟨some 2, none, .prim (.boxr (.tmp 0))⟩,
 ⟨some 4, none, .prim (.mov (.const (.bool false)))⟩])
 (.seq (.seq (.ops [⟨some 11, none, .prim (.load 6 true (.tmp 2))⟩,
 ⟨some 12, none, .call (.func 15) [(.tmp 11), (.const (.int .i64 300))]⟩,
 ⟨some 13, none, .prim (.bin false .gtr (.tmp 12) (.const (.int .i64 300)))⟩,
 ⟨some 14, none, .prim (.mov (.tmp 13))⟩,
 ⟨some 15, (some (14, false)), .prim (.mov (.tmp 1))⟩,
 ⟨some 16, (some (14, false)), .prim (.lenv (.tmp 15))⟩,
 ⟨some 17, (some (14, false)), .prim (.bin false .gtr (.tmp 16) (.const (.int .i64 600)))⟩,
 ⟨some 18, none, .prim (.pick (.tmp 14) (.const (.bool true)) (.tmp 17))⟩])
 (.cond (.tmp 18)
 (.seq (.ops [⟨some 19, none, .call (.func 16) []⟩,
 ⟨some 4, none, .prim (.mov (.tmp 19))⟩])
 .ret)
 .skip))
 (.seq (.ops [⟨some 21, none, .prim (.mov (.tmp 1))⟩,
 ⟨some 22, none, .call (.func 17) [(.tmp 21)]⟩,
 ⟨some 20, none, .prim (.mov (.tmp 22))⟩,
 ⟨some 23, none, .prim (.extr 0 (.tmp 20))⟩,
 ⟨some 24, none, .prim (.extr 1 (.tmp 20))⟩,
 ⟨some 25, none, .prim (.extr 2 (.tmp 20))⟩,
 ⟨some 5, none, .fresh 6 5 (.tmp 23)⟩,
 ⟨some 6, none, .prim (.mov (.tmp 24))⟩,
 ⟨some 7, none, .prim (.mov (.tmp 25))⟩])
 (.seq (.ops [⟨some 27, none, .prim (.mov (.tmp 1))⟩,
 ⟨some 28, none, .call (.func 18) [(.tmp 27)]⟩,
 ⟨some 26, none, .prim (.mov (.tmp 28))⟩,
 ⟨some 29, none, .prim (.extr 0 (.tmp 26))⟩,
 ⟨some 30, none, .prim (.extr 1 (.tmp 26))⟩,
 ⟨some 31, none, .prim (.extr 2 (.tmp 26))⟩,
 ⟨some 8, none, .fresh 6 8 (.tmp 29)⟩,
 ⟨some 9, none, .prim (.mov (.tmp 30))⟩,
 ⟨some 10, none, .prim (.mov (.tmp 31))⟩])
 (.seq (.draw [⟨⟨some 32, none, .prim (.load 6 true (.tmp 2))⟩, [], false, 0, 0⟩,
 ⟨⟨some 33, none, .call (.func 19) [(.tmp 32)]⟩, [0], true, 0, 0⟩,
 ⟨⟨some 34, none, .prim (.b2s (.tmp 33))⟩, [0, 1], false, 1, 2⟩,
 ⟨⟨some 35, none, .prim (.load 6 true (.tmp 2))⟩, [], false, 0, 1⟩,
 ⟨⟨some 36, none, .call (.func 20) [(.tmp 35)]⟩, [0, 1, 3], true, 0, 0⟩,
 ⟨⟨some 37, none, .prim (.b2s (.tmp 36))⟩, [0, 1, 3, 4], false, 2, 2⟩,
 ⟨⟨some 38, none, .prim (.bin false .eql (.tmp 34) (.tmp 37))⟩, (List.range 6), false, 2, 2⟩,
 ⟨⟨some 39, none, .prim (.mov (.tmp 38))⟩, (List.range 7), false, 2, 2⟩,
 ⟨⟨some 40, (some (39, true)), .prim (.mov (.tmp 7))⟩, (List.range 8), false, 2, 2⟩,
 ⟨⟨some 41, (some (39, true)), .prim (.mov (.tmp 10))⟩, (List.range 8), false, 2, 2⟩,
 ⟨⟨some 42, (some (39, true)), .prim (.bin true .eql (.tmp 40) (.tmp 41))⟩, (List.range 10), false, 2, 2⟩,
 ⟨⟨some 43, none, .prim (.pick (.tmp 39) (.tmp 42) (.const (.bool false)))⟩, (List.range 11), false, 2, 2⟩,
 ⟨⟨some 44, none, .prim (.mov (.tmp 43))⟩, (List.range 12), false, 2, 2⟩,
 ⟨⟨some 45, (some (44, true)), .prim (.mov (.tmp 6))⟩, (List.range 13), false, 2, 2⟩,
 ⟨⟨some 46, (some (44, true)), .prim (.mov (.tmp 9))⟩, (List.range 13), false, 2, 2⟩,
 ⟨⟨some 47, (some (44, true)), .prim (.bin false .eql (.tmp 45) (.tmp 46))⟩, (List.range 15), false, 2, 2⟩,
 ⟨⟨some 48, none, .prim (.pick (.tmp 44) (.tmp 47) (.const (.bool false)))⟩, (List.range 16), false, 2, 2⟩,
 ⟨⟨some 49, none, .prim (.mov (.tmp 48))⟩, (List.range 17), false, 2, 2⟩,
 ⟨⟨some 50, (some (49, true)), .prim (.load 6 true (.tmp 5))⟩, (List.range 18), false, 2, 2⟩,
 ⟨⟨some 51, (some (49, true)), .prim (.load 6 true (.tmp 8))⟩, (List.range 18), false, 2, 2⟩,
 ⟨⟨some 52, (some (49, true)), .call (.func 21) [(.tmp 50), (.tmp 51)]⟩, (List.range 20), true, 0, 0⟩,
 ⟨⟨some 53, none, .prim (.pick (.tmp 49) (.tmp 52) (.const (.bool false)))⟩, (List.range 21), false, 3, 3⟩,
 ⟨⟨some 54, none, .prim (.mov (.tmp 53))⟩, (List.range 22), false, 3, 3⟩,
 ⟨⟨some 55, (some (54, true)), .call (.func 16) []⟩, (List.range 23), true, 0, 0⟩,
 ⟨⟨some 56, none, .prim (.pick (.tmp 54) (.tmp 55) (.const (.bool false)))⟩, (List.range 24), false, 4, 4⟩,
 ⟨⟨some 4, none, .prim (.mov (.tmp 56))⟩, (List.range 25), false, 4, 4⟩])
 .ret)))))
def r3 : List RV := [.tmp 4]
def c4 : ACode :=
 (.seq (.ops [⟨some 4, none, .prim (.boxr (.tmp 0))⟩,
 ⟨some 5, none, .prim (.boxr (.tmp 1))⟩,
 ⟨some 8, none, .prim (.mov (.const (.bool false)))⟩])
 (.seq (.seq (.ops [⟨some 18, none, .prim (.mov (.tmp 2))⟩,
 ⟨some 19, none, .prim (.lenv (.tmp 18))⟩,
 ⟨some 20, none, .prim (.bin false .gtr (.tmp 19) (.const (.int .i64 300)))⟩])
 (.cond (.tmp 20)
 (.seq (.ops [⟨some 21, none, .call (.func 16) []⟩,
 ⟨some 8, none, .prim (.mov (.tmp 21))⟩])
 .ret)
 .skip))
 (.seq (.draw [⟨⟨some 22, none, .prim (.load 6 true (.tmp 4))⟩, [], false, 0, 0⟩,
 ⟨⟨some 23, none, .call (.func 22) [(.tmp 22)]⟩, [0], true, 0, 0⟩,
 ⟨⟨some 24, none, .prim (.load 6 true (.tmp 5))⟩, [], false, 0, 1⟩,
 ⟨⟨some 25, none, .call (.func 22) [(.tmp 24)]⟩, [0, 1, 2], true, 0, 0⟩,
 ⟨⟨some 9, none, .flo 6⟩, [], false, 0, 2⟩,
 ⟨⟨some 10, none, .flo 6⟩, [], false, 0, 2⟩,
 ⟨⟨some 9, none, .adopt false 9 6 (.tmp 23)⟩, (List.range 6), true, 0, 0⟩,
 ⟨⟨some 10, none, .adopt false 10 6 (.tmp 25)⟩, (List.range 7), true, 0, 0⟩])
 (.seq (.ops [⟨some 26, none, .prim (.load 6 true (.tmp 9))⟩,
 ⟨some 27, none, .call (.func 19) [(.tmp 26)]⟩,
 ⟨some 11, none, .prim (.mov (.tmp 27))⟩])
 (.seq (.ops [⟨some 29, none, .prim (.mov (.tmp 11))⟩,
 ⟨some 30, none, .prim (.app 1 (.const (.slice none 0 0)) (.tmp 29))⟩,
 ⟨some 31, none, .prim (.mov (.tmp 2))⟩,
 ⟨some 32, none, .prim (.app 1 (.tmp 30) (.tmp 31))⟩,
 ⟨some 33, none, .call (.func 17) [(.tmp 32)]⟩,
 ⟨some 28, none, .prim (.mov (.tmp 33))⟩,
 ⟨some 34, none, .prim (.extr 0 (.tmp 28))⟩,
 ⟨some 35, none, .prim (.extr 1 (.tmp 28))⟩,
 ⟨some 36, none, .prim (.extr 2 (.tmp 28))⟩,
 ⟨some 12, none, .fresh 6 12 (.tmp 34)⟩,
 ⟨some 13, none, .prim (.mov (.tmp 35))⟩,
 ⟨some 14, none, .prim (.mov (.tmp 36))⟩])
 (.seq (.seq (.ops [⟨some 37, none, .prim (.mov (.tmp 11))⟩,
 ⟨some 38, none, .prim (.lenv (.tmp 37))⟩,
 ⟨some 39, none, .prim (.bin false .lss (.tmp 38) (.const (.int .i64 1)))⟩,
 ⟨some 40, none, .prim (.mov (.tmp 39))⟩,
 ⟨some 41, (some (40, false)), .prim (.mov (.tmp 14))⟩,
 ⟨some 42, (some (40, false)), .prim (.un .not (.tmp 41))⟩,
 ⟨some 43, none, .prim (.pick (.tmp 40) (.const (.bool true)) (.tmp 42))⟩,
 ⟨some 44, none, .prim (.mov (.tmp 43))⟩,
 ⟨some 45, (some (44, false)), .prim (.mov (.tmp 13))⟩,
 ⟨some 46, (some (44, false)), .prim (.mov (.tmp 11))⟩,
 ⟨some 47, (some (44, false)), .prim (.lenv (.tmp 46))⟩,
 ⟨some 48, (some (44, false)), .prim (.bin false .neq (.tmp 45) (.tmp 47))⟩,
 ⟨some 49, none, .prim (.pick (.tmp 44) (.const (.bool true)) (.tmp 48))⟩,
 ⟨some 50, none, .prim (.mov (.tmp 49))⟩,
 ⟨some 51, (some (50, false)), .prim (.load 6 true (.tmp 12))⟩,
 ⟨some 52, (some (50, false)), .prim (.load 6 true (.tmp 9))⟩,
 ⟨some 53, (some (50, false)), .call (.func 21) [(.tmp 51), (.tmp 52)]⟩,
 ⟨some 54, (some (50, false)), .prim (.un .not (.tmp 53))⟩,
 ⟨some 55, none, .prim (.pick (.tmp 50) (.const (.bool true)) (.tmp 54))⟩,
 ⟨some 56, none, .prim (.mov (.tmp 55))⟩,
 ⟨some 57, (some (56, false)), .prim (.load 6 true (.tmp 9))⟩,
 ⟨some 58, (some (56, false)), .prim (.load 6 true (.tmp 9))⟩,
 ⟨some 59, (some (56, false)), .call (.func 23) [(.tmp 57), (.tmp 58)]⟩,
 ⟨some 60, (some (56, false)), .prim (.un .not (.tmp 59))⟩,
 ⟨some 61, none, .prim (.pick (.tmp 56) (.const (.bool true)) (.tmp 60))⟩,
 ⟨some 62, none, .prim (.mov (.tmp 61))⟩,
 ⟨some 63, (some (62, false)), .prim (.load 6 true (.tmp 12))⟩,
 ⟨some 64, (some (62, false)), .prim (.load 6 true (.tmp 9))⟩,
 ⟨some 65, (some (62, false)), .call (.func 23) [(.tmp 63), (.tmp 64)]⟩,
 ⟨some 66, (some (62, false)), .prim (.un .not (.tmp 65))⟩,
 ⟨some 67, none, .prim (.pick (.tmp 62) (.const (.bool true)) (.tmp 66))⟩])
 (.cond (.tmp 67)
 (.seq (.ops [⟨some 8, none, .prim (.mov (.const (.bool false)))⟩])
 .ret)
 .skip))
 (.seq (.seq (.ops [⟨some 68, none, .prim (.mov (.tmp 3))⟩,
 ⟨some 69, none, .prim (.bin false .lss (.tmp 68) (.const (.int .i64 0)))⟩])
 (.cond (.tmp 69)
 (.ops [⟨some 3, none, .prim (.mov (.const (.int .i64 0)))⟩])
 .skip))
 (.seq (.ops [⟨some 71, none, .prim (.mov (.tmp 11))⟩,
 ⟨some 72, none, .prim (.mov (.tmp 3))⟩,
 ⟨some 73, none, .prim (.mov (.tmp 11))⟩,
 ⟨some 74, none, .prim (.lenv (.tmp 73))⟩,
 ⟨some 75, none, .prim (.bin false .rem (.tmp 72) (.tmp 74))⟩,
 ⟨some 76, none, .prim (.slcv 1 (.tmp 71) none (some (.tmp 75)))⟩,
 ⟨some 77, none, .call (.func 17) [(.tmp 76)]⟩,
 ⟨some 70, none, .prim (.mov (.tmp 77))⟩,
 ⟨some 78, none, .prim (.extr 0 (.tmp 70))⟩,
 ⟨some 79, none, .prim (.extr 1 (.tmp 70))⟩,
 ⟨some 80, none, .prim (.extr 2 (.tmp 70))⟩,
 ⟨some 15, none, .fresh 6 15 (.tmp 78)⟩,
 ⟨some 16, none, .prim (.mov (.tmp 79))⟩,
 ⟨some 17, none, .prim (.mov (.tmp 80))⟩])
 (.seq (.draw [⟨⟨some 81, none, .prim (.mov (.tmp 17))⟩, [], false, 0, 0⟩,
 ⟨⟨some 82, none, .prim (.un .not (.tmp 81))⟩, [0], false, 0, 0⟩,
 ⟨⟨some 83, none, .prim (.mov (.tmp 82))⟩, [0, 1], false, 0, 0⟩,
 ⟨⟨some 84, (some (83, true)), .prim (.load 6 true (.tmp 9))⟩, [0, 1, 2], false, 0, 0⟩,
 ⟨⟨some 85, (some (83, true)), .prim (.load 6 true (.tmp 10))⟩, [0, 1, 2], false, 0, 0⟩,
 ⟨⟨some 86, (some (83, true)), .call (.func 23) [(.tmp 84), (.tmp 85)]⟩, [0, 1, 2, 3, 4], true, 0, 0⟩,
 ⟨⟨some 87, (some (83, true)), .prim (.load 6 true (.tmp 9))⟩, [0, 1, 2], false, 0, 1⟩,
 ⟨⟨some 88, (some (83, true)), .prim (.load 6 true (.tmp 10))⟩, [0, 1, 2], false, 0, 1⟩,
 ⟨⟨some 89, (some (83, true)), .call (.func 21) [(.tmp 87), (.tmp 88)]⟩, (List.range 8), true, 0, 0⟩,
 ⟨⟨some 90, (some (83, true)), .prim (.bin true .eql (.tmp 86) (.tmp 89))⟩, (List.range 9), false, 2, 2⟩,
 ⟨⟨some 91, none, .prim (.pick (.tmp 83) (.tmp 90) (.const (.bool false)))⟩, (List.range 10), false, 2, 2⟩,
 ⟨⟨some 92, none, .prim (.mov (.tmp 91))⟩, (List.range 11), false, 2, 2⟩,
 ⟨⟨some 93, (some (92, true)), .prim (.load 6 true (.tmp 10))⟩, (List.range 12), false, 2, 2⟩,
 ⟨⟨some 94, (some (92, true)), .prim (.load 6 true (.tmp 9))⟩, (List.range 12), false, 2, 2⟩,
 ⟨⟨some 95, (some (92, true)), .call (.func 23) [(.tmp 93), (.tmp 94)]⟩, (List.range 14), true, 0, 0⟩,
 ⟨⟨some 96, (some (92, true)), .prim (.load 6 true (.tmp 9))⟩, (List.range 12), false, 2, 3⟩,
 ⟨⟨some 97, (some (92, true)), .prim (.load 6 true (.tmp 10))⟩, (List.range 12), false, 2, 3⟩,
 ⟨⟨some 98, (some (92, true)), .call (.func 23) [(.tmp 96), (.tmp 97)]⟩, (List.range 17), true, 0, 0⟩,
 ⟨⟨some 99, (some (92, true)), .prim (.bin true .eql (.tmp 95) (.tmp 98))⟩, (List.range 18), false, 4, 4⟩,
 ⟨⟨some 100, none, .prim (.pick (.tmp 92) (.tmp 99) (.const (.bool false)))⟩, (List.range 19), false, 4, 4⟩,
 ⟨⟨some 101, none, .prim (.mov (.tmp 100))⟩, (List.range 20), false, 4, 4⟩,
 ⟨⟨some 102, (some (101, true)), .call (.func 16) []⟩, (List.range 21), true, 0, 0⟩,
 ⟨⟨some 103, none, .prim (.pick (.tmp 101) (.tmp 102) (.const (.bool false)))⟩, (List.range 22), false, 5, 5⟩,
 ⟨⟨some 8, none, .prim (.mov (.tmp 103))⟩, (List.range 23), false, 5, 5⟩])
 .ret)))))))))
def o4 : List Tmp := []
def r4 : List RV := [.tmp 8]
theorem t4 : Text Tryz.prog 4 o4 c4 r4 104 := ⟨⟨Tryz.f4, _, by kernel_rfl, by kernel_rfl, rfl, by kernel_rfl, by kernel_rfl, rfl⟩, by kernel_rfl⟩
end Go.Proofs.YtmkmhhjkdaklbaaGreat
namespace Go.Proofs.YtmkmhhjkdaklbaaGreat
open Go Go.Ab Go.Cod Go.ChangeShapes Go.WideShapes Go.ChangeAt Go.RowKit
set_option maxRecDepth 100000
theorem alike_self (x : RuM) (h : ruIs x = true ∨ x = noRu) : ∀ s, Ans Tryz.prog 21 [ruV x, ruV x] s (Bo true) s := fun s => by
 have hl : x.src.length ≤ 1000 ∧ x.tgt.length ≤ 1000 ∧ x.eq.length ≤ 100000 := by
  rcases h with h | rfl
  · obtain ⟨h1, h2, h3, h4, h5⟩ := ruIs_all h
    have := (listB_at h1).1; have := (listB_at h2).1
    omega
  · exact ⟨by decide, by decide, by decide⟩
 have := alike_ans s x x hl.1 hl.2.1 hl.2.2
 rw [alikeB_refl] at this; exact this
end Go.Proofs.YtmkmhhjkdaklbaaGreat
namespace Go.Proofs.YtmkmhhjkdaklbaaGreat
open Go Go.Ab Go.Cod Go.ChangeShapes Go.WideShapes Go.ChangeAt Go.RowKit
set_option maxRecDepth 100000
theorem bnot_self (b : Bool) : (b == b) = true := by cases b <;> rfl
theorem ruleBack_ans (d e : RuD) (h1 : d.lo < 2 ^ 64) (h2 : d.hi < 2 ^ 64) (h3 : e.lo < 2 ^ 64) (h4 : e.hi < 2 ^ 64) (tail : Byt) (c : Int) : Ans Tryz.prog 4 [duV d, duV e, .sl 1 (byv tail), I c] [] (.pl (.bool true)) [] := by
 have u1 := fun s => rule_ans s d
 have u2 := fun s => rule_ans s e
 have x1 := drawn_is d
 have x2 := drawn_is e
 have w1 := drawn_sz h1 h2
 have w2 := drawn_sz h3 h4
 generalize drawnRu d = r at u1 x1 w1
 generalize drawnRu e = o at u2 x2 w2
 have hb : bytesRu r = putR r := by unfold bytesRu; rw [x1]; rfl
 have hmb := fun s => rubytes_ans s r
 rw [hb] at hmb
 have hback : ruR (putR r ++ tail) = some (r, tail) := ru_fits.fwd r tail ⟨x1, w1⟩
 have hcut : ∀ k, k < (putR r).length → ruR ((putR r).take k) = none := fun k hk => ru_fits.cut ⟨x1, w1⟩ hk
 have hpl := preR_len x1 r.eq.length (Nat.le_refl _)
 rw [preR_all] at hpl
 have hl4 := (ruIs_all x1).2.2.2.1
 have hne : 0 < (putR r).length := by
  have := putL_pos r.src
  unfold putR
  rw [List.length_append]; omega
 have s1 := fun s => rusame_ans s r r
 rw [sameP_refl x1] at s1
 have s2 := fun s => rusame_ans s r o
 have s3 := fun s => rusame_ans s o r
 rw [sameP_comm o r] at s3
 rw [sameP_alike x1 w1 x2 w2] at s2 s3
 have a1 := alike_self r (.inl x1)
 have a2 := fun s => alike_ans s r o (by have := (listB_at (ruIs_all x1).1).1; omega) (by have := (listB_at (ruIs_all x1).2.1).1; omega) (by omega)
 generalize alikeB r o = sm at s2 s3 a2
 generalize putR r = pb at hmb hback hcut hpl hne
 have d300 : decide ((300 : Int) < tail.length) = decide (300 < tail.length) := decNN 300 _
 have hpl : pb.length ≤ 2000 := by omega
 clear hb x1 x2 w1 w2 hl4
 have hz : ruV r = .agg (ruC r) := rfl
 have hz2 : ruV o = .agg (ruC o) := rfl
 refine Ans.of_run t4 ?_
 by_cases ht : 300 < tail.length
 · unfold duV duC at u1 u2 ⊢
   simp -implicitDefEqProofs only [c4, r4, go_sem, byv_len, d300, decide_eq_true ht]
   refine CO.intro (rr_a _) ?_
   simp -implicitDefEqProofs only [go_sem]
   exact Fini.trim2 (σ' := []) rfl rfl (Nat.le_refl _) (.pl _) (fun o ho => by cases ho)
 · obtain ⟨rs, rt, ra, rl, rh, re⟩ := r
   obtain ⟨os, ot, oa, ol, oh, oe⟩ := o
   unfold duV duC at u1 u2 ⊢
   unfold ruV at *
   simp only at *
   simp -implicitDefEqProofs only [c4, r4, go_sem, byv_len, d300, decide_eq_false ht]
   refine CD.intro (u1 _) ?_
   simp -implicitDefEqProofs only [go_sem]
   refine CD.intro (u2 _) ?_
   simp -implicitDefEqProofs only [go_sem]
   refine CO.intro (hmb _) ?_
   have he : pb.isEmpty = false := by cases pb with
    | nil => simp at hne
    | cons _ _ => rfl
   have l1 : pb.length ≤ 4294967296 := by omega
   have l2 : pb.length + tail.length ≤ 4294967296 := by omega
   simp -implicitDefEqProofs only [go_sem, byv_all', bc, byv_empty, he, byv_len, l1, l2]
   rw [← byv_append]
   refine CO.intro (Ans.shutArg (pre := []) (post := []) (σ := [.row 1 (byv (pb ++ tail))]) (xs := byv (pb ++ tail)) rfl (by rw [byv_len, List.length_append]) (ruread_ans _ (pb ++ tail) (by rw [List.length_append]; omega))) ?_
   rw [readV_some hback]
   have e1 : (pb ++ tail).length - tail.length = pb.length := by rw [List.length_append]; omega
   have d1 : decide ((pb.length : Int) < 1) = false := by simp; omega
   have d2 : ((pb.length : Int) != pb.length) = false := by simp
   unfold ruV
   simp -implicitDefEqProofs only [go_sem, e1, d1, d2, byv_len]
   refine CO.intro (a1 _) ?_
   simp -implicitDefEqProofs only [go_sem]
   refine CO.intro (s1 _) ?_
   simp -implicitDefEqProofs only [go_sem]
   refine CO.intro (s1 _) ?_
   obtain ⟨k0, hk⟩ : ∃ k0 : Nat, (c < 0 ∧ k0 = 0) ∨ (c = k0) := by
    by_cases hc : c < 0
    · exact ⟨0, .inl ⟨hc, rfl⟩⟩
    · exact ⟨c.toNat, .inr (by omega)⟩
   have hlt : k0 % pb.length < pb.length := Nat.mod_lt _ hne
   have hz : ((pb.length : Int) = 0) = False := eq_false (by omega)
   have e2 : ((k0 : Int).tmod pb.length) = ((k0 % pb.length : Nat) : Int) := rfl
   have e3 : (((k0 % pb.length : Nat) : Int) ≤ (pb.length : Nat)) = True := eq_true (Int.ofNat_le.2 (Nat.le_of_lt hlt))
   have hrd := ruread_ans [Ob.dead] (pb.take (k0 % pb.length)) (by rw [List.length_take]; omega)
   rw [readV_none (hcut _ hlt)] at hrd
   have e0 := bnot_self
   unfold ruV at hrd
   simp only [noRu] at hrd
   rcases hk with ⟨hc, rfl⟩ | rfl
   · have dc : decide (c < 0) = true := by simpa using hc
     have e4 : ((0 : Int).tmod pb.length) = ((0 % pb.length : Nat) : Int) := by simp
     simp -implicitDefEqProofs only [go_sem, dc, hz, e4, e3, byv_len, byv_take, byv_drop]
     refine CO.intro hrd ?_
     simp -implicitDefEqProofs only [go_sem]
     refine CD.intro (s2 _) ?_
     simp -implicitDefEqProofs only [go_sem]
     refine CD.intro (a2 _) ?_
     simp -implicitDefEqProofs only [go_sem, e0]
     refine CD.intro (s3 _) ?_
     simp -implicitDefEqProofs only [go_sem]
     refine CD.intro (s2 _) ?_
     simp -implicitDefEqProofs only [go_sem, e0]
     refine CD.intro (rr_a _) ?_
     simp -implicitDefEqProofs only [go_sem]
     exact Fini.trim2 (σ' := []) rfl rfl (Nat.le_refl _) (.pl _) (fun o ho => by cases ho)
   · have dc : decide ((k0 : Int) < 0) = false := by simp
     simp -implicitDefEqProofs only [go_sem, dc, hz, e2, e3, byv_len, byv_take, byv_drop]
     refine CO.intro hrd ?_
     simp -implicitDefEqProofs only [go_sem]
     refine CD.intro (s2 _) ?_
     simp -implicitDefEqProofs only [go_sem]
     refine CD.intro (a2 _) ?_
     simp -implicitDefEqProofs only [go_sem, e0]
     refine CD.intro (s3 _) ?_
     simp -implicitDefEqProofs only [go_sem]
     refine CD.intro (s2 _) ?_
     simp -implicitDefEqProofs only [go_sem, e0]
     refine CD.intro (rr_a _) ?_
     simp -implicitDefEqProofs only [go_sem]
     exact Fini.trim2 (σ' := []) rfl rfl (Nat.le_refl _) (.pl _) (fun o ho => by cases ho)
end Go.Proofs.YtmkmhhjkdaklbaaGreat
