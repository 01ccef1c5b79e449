/- Rules read out of bytes, by the program. No condition. -/
import Derived.Test.YtmkmhhjkdaklbaaGreatRc6
import Derived.Test.YtmkmhhjkdaklbaaGreatXVi5
import Derived.Test.YtmkmhhjkdaklbaaGreatAbArg
import Derived.Test.YtmkmhhjkdaklbaaGreatXPPar3
import Derived.Test.YtmkmhhjkdaklbaaGreatXMCod
import Derived.Test.YtmkmhhjkdaklbaaGreatProg
import Derived.Test.YtmkmhhjkdaklbaaGreatAbStep
set_option linter.unusedSimpArgs false
set_option linter.unusedVariables false
namespace Go.Proofs.YtmkmhhjkdaklbaaGreat
open Go Go.Ab Go.Cod
set_option maxRecDepth 100000
theorem g3 (σ : St) (x y z u : Ob) (ex : St) : (σ ++ x :: y :: z :: u :: ex)[σ.length + 3]? = some u := by rw [List.getElem?_append_right (by simp)]; simp
theorem s3 (σ : St) (x y z u v : Ob) (ex : St) : (σ ++ x :: y :: z :: u :: ex).set (σ.length + 3) v = σ ++ x :: y :: z :: v :: ex := by rw [List.set_append_right _ _ (by simp)]; simp
def txC (n : Nat) (e : List ByteArray) : AV := if e.isEmpty then .nils else .osl n e.length
def txS (e : List ByteArray) : St := if e.isEmpty then [] else [.row 1 (txs e)]
theorem txC_of (n : Nat) {e : List ByteArray} (h : e.isEmpty = false) : txC n e = .osl n e.length := by unfold txC; rw [h]; rfl
theorem txS_of {e : List ByteArray} (h : e.isEmpty = false) : txS e = [.row 1 (txs e)] := by unfold txS; rw [h]; rfl
theorem emp_snoc (e : List ByteArray) (s : ByteArray) : (e ++ [s]).isEmpty = false := by cases e <;> rfl
theorem bel_ruV (n : Nat) (r : RuM) : Bel n (ruV r) := .agg _ fun i hi => by
 have : ∀ y ∈ ([.sl 3 (mvs3 r.src), .sl 3 (mvs3 r.tgt), Bo r.any, Fl r.lo, Fl r.hi, .sl 1 (txs r.eq)] : List AV), Bel n y := by
  intro y hy
  simp only [List.mem_cons, List.not_mem_nil, or_false] at hy
  rcases hy with rfl | rfl | rfl | rfl | rfl | rfl
  · exact bel_mvs3 _ _
  · exact bel_mvs3 _ _
  · exact .pl _
  · exact .pl _
  · exact .pl _
  · exact bel_txs _ _
 exact this _ (List.getElem_mem hi)
def noRu : RuM := ⟨[], [], false, 0, 0, []⟩
abbrev Z6 : Ob := .box [.nils, .nils, Bo false, Fl 0, Fl 0, .nils]
def noRuV : AV := .agg [.nils, .nils, Bo false, Fl 0, Fl 0, .nils]
theorem noRu_sub : Sub noRuV (ruV noRu) := .agg (.cons (.nils 3) (.cons (.nils 3) (.cons (.refl _) (.cons (.refl _) (.cons (.refl _) (.cons (.nils 1) .nil))))))
theorem bel_noRuV (n : Nat) : Bel n noRuV := .agg _ fun i hi => by
 have : ∀ y ∈ ([.nils, .nils, Bo false, Fl 0, Fl 0, .nils] : List AV), Bel n y := by
  intro y hy
  simp only [List.mem_cons, List.not_mem_nil, or_false] at hy
  rcases hy with rfl | rfl | rfl | rfl | rfl | rfl
  · exact .nils
  · exact .nils
  · exact .pl _
  · exact .pl _
  · exact .pl _
  · exact .nils
 exact this _ (List.getElem_mem hi)
section
variable (σ : St)
set_option maxHeartbeats 4000000 in
theorem ruread_ans0 (b : Byt) (hb : b.length ≤ 50000) : Ans Tryz.prog 17 [.sl 1 (byv b)] σ (readV (ruR b) b ruV noRuV) σ := by
 have hS := (steps_ru b).top
 refine Ans.of_run' t17 (fun hbel _ => ?_)
 simp -implicitDefEqProofs only [c17, r17, go_sem]
 refine CO.intro (new_ans _ b) ?_
 have hs2 : ∀ q, ruS b q = (mkRu ((runR listR [] b q).1, (runR listR [] b (runR listR [] b q).2).1, (runR bandR (false, 0, 0) b (runR listR [] b (runR listR [] b q).2).2).1, (rowSt 4 b (runR (textR 12) ⟨#[]⟩ b) (runR bandR (false, 0, 0) b (runR listR [] b (runR listR [] b q).2).2).2).1),
   took (rowSt 4 b (runR (textR 12) ⟨#[]⟩ b) (runR bandR (false, 0, 0) b (runR listR [] b (runR listR [] b q).2).2).2).2 0 (ruIs (mkRu ((runR listR [] b q).1, (runR listR [] b (runR listR [] b q).2).1, (runR bandR (false, 0, 0) b (runR listR [] b (runR listR [] b q).2).2).1, (rowSt 4 b (runR (textR 12) ⟨#[]⟩ b) (runR bandR (false, 0, 0) b (runR listR [] b (runR listR [] b q).2).2).2).1)))) := fun q => rfl
 rw [hs2] at hS
 have h1 := ofmats (σ ++ [Z6, rob b (0, false)]) (σ.length + 1) b (0, false) (g1 _ _ _ _) (Inb0 b) hb
 rw [s1] at h1
 have i1 := run_inb listR [] b (0, false) (Inb0 b)
 generalize runR listR [] b (0, false) = w1 at h1 i1 hS
 obtain ⟨m1, q1⟩ := w1
 simp only at h1 i1 hS
 have h2 := ofmats (σ ++ [Z6, rob b q1]) (σ.length + 1) b q1 (g1 _ _ _ _) i1 hb
 rw [s1] at h2
 have i2 := run_inb listR [] b q1 i1
 generalize runR listR [] b q1 = w2 at h2 i2 hS
 obtain ⟨m2, q2⟩ := w2
 simp only at h2 i2 hS
 have h3 := ofband (σ ++ [Z6, rob b q2]) (σ.length + 1) b q2 (g1 _ _ _ _) i2 hb
 rw [s1] at h3
 have i3 := run_inb bandR (false, 0, 0) b q2 i2
 generalize runR bandR (false, 0, 0) b q2 = w3 at h3 i3 hS
 obtain ⟨⟨any, lo, hi⟩, q3⟩ := w3
 unfold bandV at h3
 simp only at h3 i3 hS
 simp -implicitDefEqProofs only [go_sem, List.append_assoc, List.length_append]
 refine CO.intro h1 ?_
 simp -implicitDefEqProofs only [go_sem]
 refine CO.intro h2 ?_
 simp -implicitDefEqProofs only [go_sem]
 refine CO.intro h3 ?_
 unfold rowSt at hS
 have h4 := num_ans (σ ++ [Z6, rob b q3, .box [mlV m1, mlV m2, Bo any, Fl lo, Fl hi, .nils]]) (σ.length + 1) b q3 4 (by decide) (g1 _ _ _ _) i3 hb
 rw [s1] at h4
 have i4 := run_inb (numR 4) 0 b q3 i3
 have hn4 := runR_le (most := 4) b q3
 generalize runR (numR 4) 0 b q3 = w4 at h4 i4 hS hn4
 obtain ⟨n, q4⟩ := w4
 simp only at h4 i4 hS hn4
 simp -implicitDefEqProofs only [go_sem, List.append_assoc, List.length_append, g0, g1, g2, s0, s1, s2]
 refine CO.intro h4 ?_
 simp -implicitDefEqProofs only [go_sem]
 refine Go.Ab.L.count n (fun i => mkE 44 [(2, .ptr σ.length 0), (5, .ptr (σ.length + 1) 0), (6, .ptr (σ.length + 2) 0), (19, UN n), (20, UN i)])
  (fun i => σ ++ Z6 :: rob b (itSt (runR (textR 12) ⟨#[]⟩ b) q4 i).2 :: .box [mlV m1, mlV m2, Bo any, Fl lo, Fl hi, txC (σ.length + 3) (itSt (runR (textR 12) ⟨#[]⟩ b) q4 i).1] :: txS (itSt (runR (textR 12) ⟨#[]⟩ b) q4 i).1) ?_ ?_ rfl rfl
 · intro i hin J hJ
   have hit := itSt_inb (run_inb (textR 12) ⟨#[]⟩ b) q4 i4 i
   have hlen := itSt_len (runR (textR 12) ⟨#[]⟩ b) q4 i
   simp only [itSt] at hJ
   generalize itSt (runR (textR 12) ⟨#[]⟩ b) q4 i = c at hJ hit hlen ⊢
   obtain ⟨l, q⟩ := c
   simp only at hJ hit hlen ⊢
   have d0 : decide ((i : Int) < n) = true := dec_lt hin
   have w0 := wrapUN (n := i + 1) (by omega)
   have e0 : ((i : Int) + 1) = ((i + 1 : Nat) : Int) := rfl
   have h5 := text_ans (σ ++ Z6 :: rob b q :: .box [mlV m1, mlV m2, Bo any, Fl lo, Fl hi, txC (σ.length + 3) l] :: txS l) (σ.length + 1) b q 12 (by decide) (g1 _ _ _ _) hit hb
   rw [s1] at h5
   generalize runR (textR 12) ⟨#[]⟩ b q = w5 at h5 hJ
   obtain ⟨s, q5⟩ := w5
   simp only at h5 hJ
   rw [txC_of _ (emp_snoc l s), txS_of (emp_snoc l s), txs_snoc] at hJ
   rw [List.length_append, List.length_singleton] at hJ
   cases hem : l.isEmpty with
   | true =>
     have hle : l = [] := List.isEmpty_iff.1 hem
     subst hle
     unfold txC txS at h5 ⊢
     simp only [List.isEmpty_nil, if_true] at h5 ⊢
     simp -implicitDefEqProofs only [mkE, go_sem, d0, g0, g1, g2, s0, s1, s2]
     refine CD.intro h5 ?_
     have p32 : ((1 : Nat) ≤ 2 ^ 32) = True := eq_true (by decide)
     simp -implicitDefEqProofs only [go_sem, g0, g1, g2, s0, s1, s2, w0, e0, p32, List.length_append, List.append_assoc, List.length_cons, List.length_nil]
     exact hJ
   | false =>
     rw [txC_of _ hem, txS_of hem] at h5 ⊢
     have hll : l.length + 1 ≤ 4294967296 := by omega
     simp -implicitDefEqProofs only [mkE, go_sem, d0, g0, g1, g2, s0, s1, s2]
     refine CD.intro h5 ?_
     simp -implicitDefEqProofs only [go_sem, g0, g1, g2, g3, s0, s1, s2, s3, w0, e0, txs_len, hll, List.length_singleton]
     exact hJ
 · intro J
   have hit := itSt_inb (run_inb (textR 12) ⟨#[]⟩ b) q4 i4 n
   have hlen := itSt_len (runR (textR 12) ⟨#[]⟩ b) q4 n
   generalize itSt (runR (textR 12) ⟨#[]⟩ b) q4 n = c at hS hit hlen ⊢
   obtain ⟨l, q⟩ := c
   simp only at hS hit hlen ⊢
   have d0 : decide ((n : Int) < n) = false := by simp
   have hru := fun s => ruis_ans s (mkRu (m1, m2, (any, lo, hi), l))
   generalize ruIs (mkRu (m1, m2, (any, lo, hi), l)) = ok at hru hS
   cases hem : l.isEmpty with
   | true =>
     have hle : l = [] := List.isEmpty_iff.1 hem
     subst hle
     unfold txC txS
     simp only [List.isEmpty_nil, if_true]
     have h6 := refuse_ans (σ ++ [Z6, rob b q, .box [mlV m1, mlV m2, Bo any, Fl lo, Fl hi, .sl 1 (txs [])]]) (σ.length + 1) b q ok (g1 _ _ _ _) hit hb
     rw [s1] at h6
     generalize took q 0 ok = qe at h6 hS
     have h7 := end_ans (σ ++ [Z6, rob b qe, .box [mlV m1, mlV m2, Bo any, Fl lo, Fl hi, .sl 1 (txs [])]]) (σ.length + 1) b qe (g1 _ _ _ _)
     simp -implicitDefEqProofs only [mkE, go_sem, d0, txs_nil, g0, g1, g2, g3, s0, s1, s2, s3]
     refine CO.intro (hru _) ?_
     simp -implicitDefEqProofs only [go_sem]
     refine CO.intro h6 ?_
     simp -implicitDefEqProofs only [go_sem]
     refine CO.intro h7 ?_
     cases hr : ruR b with
     | none =>
       have hb2 := hS.2 hr
       obtain ⟨qa, qb⟩ := qe
       simp only at hb2
       subst hb2
       simp -implicitDefEqProofs only [go_sem, g0, g1, g2, g3, s0, s1, s2, s3]
       exact Fini.trim2 (σ' := σ) (ex := [_, _, _]) (by simp -implicitDefEqProofs only [go_sem, resA, allSome, rvA, oneOf, g0]; rfl) rfl (Nat.le_refl _) (by unfold readV; exact bel_tup3 (bel_noRuV _)) hbel
     | some p =>
       obtain ⟨M, t⟩ := p
       have hb2 := hS.1 M t hr
       simp only [Prod.mk.injEq] at hb2
       obtain ⟨rfl, rfl⟩ := hb2
       simp -implicitDefEqProofs only [go_sem, g0, g1, g2, g3, s0, s1, s2, s3]
       exact Fini.trim2 (σ' := σ) (ex := [_, _, _]) (by simp -implicitDefEqProofs only [go_sem, resA, allSome, rvA, oneOf, g0]; rfl) rfl (Nat.le_refl _) (by unfold readV; exact bel_tup3 (bel_ruV _ _)) hbel
   | false =>
     rw [txC_of _ hem, txS_of hem]
     have ne32 : (σ.length + 3 ≠ σ.length + 2) = True := eq_true (by omega)
     have h6 := refuse_ans (σ ++ [Z6, rob b q, .box [mlV m1, mlV m2, Bo any, Fl lo, Fl hi, .sl 1 (txs l)], .dead]) (σ.length + 1) b q ok (g1 _ _ _ _) hit hb
     rw [s1] at h6
     generalize took q 0 ok = qe at h6 hS
     have h7 := end_ans (σ ++ [Z6, rob b qe, .box [mlV m1, mlV m2, Bo any, Fl lo, Fl hi, .sl 1 (txs l)], .dead]) (σ.length + 1) b qe (g1 _ _ _ _)
     simp -implicitDefEqProofs only [mkE, go_sem, d0, txs_len, ne32, g0, g1, g2, g3, s0, s1, s2, s3]
     refine CO.intro (hru _) ?_
     simp -implicitDefEqProofs only [go_sem]
     refine CO.intro h6 ?_
     simp -implicitDefEqProofs only [go_sem]
     refine CO.intro h7 ?_
     cases hr : ruR b with
     | none =>
       have hb2 := hS.2 hr
       obtain ⟨qa, qb⟩ := qe
       simp only at hb2
       subst hb2
       simp -implicitDefEqProofs only [go_sem, g0, g1, g2, g3, s0, s1, s2, s3]
       exact Fini.trim2 (σ' := σ) (ex := [_, _, _, _]) (by simp -implicitDefEqProofs only [go_sem, resA, allSome, rvA, oneOf, g0]; rfl) rfl (Nat.le_refl _) (by unfold readV; exact bel_tup3 (bel_noRuV _)) hbel
     | some p =>
       obtain ⟨M, t⟩ := p
       have hb2 := hS.1 M t hr
       simp only [Prod.mk.injEq] at hb2
       obtain ⟨rfl, rfl⟩ := hb2
       simp -implicitDefEqProofs only [go_sem, g0, g1, g2, g3, s0, s1, s2, s3]
       exact Fini.trim2 (σ' := σ) (ex := [_, _, _, _]) (by simp -implicitDefEqProofs only [go_sem, resA, allSome, rvA, oneOf, g0]; rfl) rfl (Nat.le_refl _) (by unfold readV; exact bel_tup3 (bel_ruV _ _)) hbel
theorem ruread_ans (b : Byt) (hb : b.length ≤ 50000) : Ans Tryz.prog 17 [.sl 1 (byv b)] σ (readV (ruR b) b ruV (ruV noRu)) σ := by
 refine (ruread_ans0 σ b hb).subR ?_
 unfold readV
 cases ruR b with
 | none => exact .tup (.cons noRu_sub (.refl _))
 | some p => exact .refl _
end
end Go.Proofs.YtmkmhhjkdaklbaaGreat
namespace Go.Ab
open Go Go.ChangeShapes Go.WideShapes
theorem Reads.weak {P : Program} {t : TypeId} {f : Nat} {Q Q' : List AV → Prop} (h : Reads P t f Q) (hq : ∀ xs, Q xs → ∃ ys, Q' ys ∧ Subs xs ys) : Reads P t f Q' := by
 intro H enc W cs x hx
 obtain ⟨xs, h1, h2⟩ := h H enc W cs x hx
 obtain ⟨ys, h3, h4⟩ := hq xs h2
 exact ⟨ys, h4.reps h1, h3⟩
def QFloat : List AV → Prop := fun xs => ∃ n : Nat, xs = [.pl (.float .f64 n)]
theorem Reads.float {P : Program} {t : TypeId} (ht : P.underlying t = some (.float .f64)) (f : Nat) : Reads P t f QFloat := by
 intro H enc W cs x h
 have : ∃ n, cs = [.float .f64 n] := by
  cases f with
  | zero => simp [DataW.trod] at h
  | succ n =>
    unfold DataW.trod at h
    rw [ht] at h
    split at h <;> simp_all
 obtain ⟨n, rfl⟩ := this
 exact ⟨_, reps_one (.pl _), n, rfl⟩
def QSl (sz : Nat) (ag : Bool) (Q : List AV → Prop) : List AV → Prop := fun xs => ∃ ys : List (List AV), (∀ y ∈ ys, Q y) ∧ ys.length ≤ maxLen ∧ xs = [.sl sz (ys.map (wrapC ag))]
theorem QSlice.weak {sz : Nat} {ag : Bool} {Q : List AV → Prop} (xs : List AV) (h : QSlice sz ag Q xs) : ∃ ys, QSl sz ag Q ys ∧ Subs xs ys := by
 rcases h with rfl | ⟨ys, h1, h2, rfl⟩
 · exact ⟨_, ⟨[], by simp, by simp, rfl⟩, .cons (.nils sz) .nil⟩
 · exact ⟨_, ⟨ys, h1, h2, rfl⟩, Subs.refl _⟩
end Go.Ab
namespace Go.Proofs.YtmkmhhjkdaklbaaGreat
open Go Go.Ab Go.ChangeShapes Go.WideShapes Go.ChangeAt Go.RowKit
set_option maxRecDepth 100000
theorem texts_of : ∀ {ys : List (List AV)}, (∀ y ∈ ys, QText y) → ∃ ns : List ByteArray, ys.map (wrapC false) = txs ns
 | [], _ => ⟨[], rfl⟩
 | y :: ys, h => by
   obtain ⟨n, _, rfl⟩ := h y List.mem_cons_self
   obtain ⟨ns, hns⟩ := texts_of fun y hy => h y (List.mem_cons_of_mem _ hy)
   exact ⟨n :: ns, by rw [List.map_cons, hns]; rfl⟩
def QTexts : List AV → Prop := fun xs => ∃ ns : List ByteArray, xs = [.sl 1 (txs ns)]
def QMtrs : List AV → Prop := fun xs => ∃ M : List Mtr, xs = [.sl 3 (mvs3 M)]
theorem reads_texts (f : Nat) : Reads Tryz.prog 26 f QTexts := by
 cases f with
 | zero => exact Reads.zero
 | succ f =>
   refine ((Reads.slice (sz := 1) false Tryz.underlying26 (by kernel_rfl) (by decide) (Reads.text Tryz.underlying9 f) (fun y hy _ => by obtain ⟨n, _, rfl⟩ := hy; rfl)).weak QSlice.weak).mono fun xs hq => ?_
   obtain ⟨ys, h1, h2, rfl⟩ := hq
   obtain ⟨ds, e⟩ := texts_of h1
   exact ⟨ds, by rw [e]⟩
theorem reads_mtrs (f : Nat) : Reads Tryz.prog 22 f QMtrs := by
 cases f with
 | zero => exact Reads.zero
 | succ f =>
   refine ((Reads.slice (sz := 3) true Tryz.underlying22 (by kernel_rfl) (by decide) (reads_mtr f) (fun _ _ _ => rfl)).weak QSlice.weak).mono fun xs hq => ?_
   obtain ⟨ys, h1, h2, rfl⟩ := hq
   obtain ⟨ds, e⟩ := mtrs_of h1
   exact ⟨ds, by rw [e]⟩
def QBand : List AV → Prop := fun xs => ∃ (b : Bool) (lo hi : Nat), xs = [Bo b, Fl lo, Fl hi]
theorem reads_band (f : Nat) : Reads Tryz.prog 25 f QBand := by
 cases f with
 | zero => exact Reads.zero
 | succ f =>
   have h := Reads.struct (P := Tryz.prog) (t := 25) (f := f) (Qs := [QBool, QFloat, QFloat]) Tryz.underlying25 (by kernel_rfl) rfl (by
    intro p hp
    simp only [List.zip_cons_cons, List.zip_nil_right, List.mem_cons, List.not_mem_nil, or_false] at hp
    rcases hp with rfl | rfl | rfl
    · exact Reads.bool Tryz.underlying4 f
    · exact Reads.float Tryz.underlying23 f
    · exact Reads.float Tryz.underlying23 f)
   refine h.mono fun xs hq => ?_
   obtain ⟨_, _, rfl, ⟨k, rfl⟩, _, _, rfl, ⟨n, rfl⟩, _, _, rfl, ⟨v, rfl⟩, rfl⟩ := hq
   exact ⟨k, n, v, rfl⟩
def ruC (r : RuM) : List AV := [.sl 3 (mvs3 r.src), .sl 3 (mvs3 r.tgt), Bo r.any, Fl r.lo, Fl r.hi, .sl 1 (txs r.eq)]
def QRu : List AV → Prop := fun xs => ∃ r : RuM, xs = ruC r
theorem reads_rule (f : Nat) : Reads Tryz.prog 28 f QRu := by
 cases f with
 | zero => exact Reads.zero
 | succ f =>
   have h := Reads.struct (P := Tryz.prog) (t := 28) (f := f) (Qs := [QMtrs, QMtrs, QBand, QTexts]) Tryz.underlying28 (by kernel_rfl) rfl (by
    intro p hp
    simp only [List.zip_cons_cons, List.zip_nil_right, List.mem_cons, List.not_mem_nil, or_false] at hp
    rcases hp with rfl | rfl | rfl | rfl
    · exact reads_mtrs f
    · exact reads_mtrs f
    · exact reads_band f
    · exact reads_texts f)
   refine h.mono fun xs hq => ?_
   obtain ⟨_, _, rfl, ⟨M, rfl⟩, _, _, rfl, ⟨N, rfl⟩, _, _, rfl, ⟨b, lo, hi, rfl⟩, _, _, rfl, ⟨e, rfl⟩, rfl⟩ := hq
   exact ⟨⟨M, N, b, lo, hi, e⟩, rfl⟩
section
variable {H : Type} {enc : TypeId × Value → H} {W : World} {base : Nat} {v : Value} {d : DataW H} {ps : List MemPlace}
theorem rule_arg (hv : Value.okWide Tryz.prog W .any base 28 v) (h : DataW.Trod enc Tryz.prog W 0 (fun _ => true) true 28 v d ps) : ∃ r : RuM, Rep noM noR W (ruV r) v := by
 obtain ⟨cs, rfl, _⟩ := okWide_struct Tryz.underlying28 hv
 obtain ⟨xs, h1, r, rfl⟩ := Reads.argS reads_rule h
 exact ⟨r, h1⟩
end
end Go.Proofs.YtmkmhhjkdaklbaaGreat
namespace Go.Proofs.YtmkmhhjkdaklbaaGreat
open Go Go.Ab
def allR : List (Fun Tryz.prog) := [⟨15, o15, c15, r15, 55, t15⟩, ⟨52, o52, c52, r52, 30, t52⟩, ⟨111, o111, c111, r111, 10, t111⟩, ⟨51, o51, c51, r51, 65, t51⟩, ⟨110, o110, c110, r110, 21, t110⟩, ⟨80, o80, c80, r80, 40, t80⟩, ⟨109, o109, c109, r109, 14, t109⟩, ⟨148, o148, c148, r148, 23, t148⟩, ⟨107, o107, c107, r107, 20, t107⟩, ⟨145, o145, c145, r145, 10, t145⟩, ⟨147, o147, c147, r147, 23, t147⟩, ⟨94, o94, c94, r94, 7, t94⟩, ⟨164, o164, c164, r164, 15, t164⟩, ⟨71, o71, c71, r71, 19, t71⟩, ⟨72, o72, c72, r72, 9, t72⟩] ++ allF
end Go.Proofs.YtmkmhhjkdaklbaaGreat
namespace Go.Proofs.YtmkmhhjkdaklbaaGreat
open Go Go.Ab
/- 3361 steps -/
theorem rr0_ok : Ans Tryz.prog 171 [.ptr 2 0, .pl (.int .i64 0)] [.box [.pl (.int .i64 3), .pl (.string ⟨#[115, 101, 118]⟩), .pl (.string ⟨#[99, 114, 105, 116, 124, 119, 97, 114, 110]⟩)], .box [.pl (.int .i64 0), .pl (.int .u64 0), .pl (.int .u64 0), .pl (.int .u64 0), .pl (.int .u64 0), .nils], .box [.pl (.string ⟨#[99, 114, 105, 116, 124, 119, 97, 114, 110]⟩), .pl (.int .i64 0), .pl (.bool false)]] (.agg [.pl (.int .i64 3), .pl (.int .u64 0), .pl (.int .u64 0), .pl (.int .u64 0), .pl (.int .u64 0), .sl 6 [.agg [.pl (.int .i64 2), .pl (.int .u64 0), .pl (.int .u64 0), .pl (.int .u64 0), .pl (.int .u64 0), .sl 6 [.agg [.pl (.int .i64 1), .pl (.int .u64 0), .pl (.int .u64 34359738368), .pl (.int .u64 0), .pl (.int .u64 0), .nils], .agg [.pl (.int .i64 1), .pl (.int .u64 0), .pl (.int .u64 1125899906842624), .pl (.int .u64 0), .pl (.int .u64 0), .nils], .agg [.pl (.int .i64 1), .pl (.int .u64 0), .pl (.int .u64 2199023255552), .pl (.int .u64 0), .pl (.int .u64 0), .nils], .agg [.pl (.int .i64 1), .pl (.int .u64 0), .pl (.int .u64 4503599627370496), .pl (.int .u64 0), .pl (.int .u64 0), .nils]]], .agg [.pl (.int .i64 2), .pl (.int .u64 0), .pl (.int .u64 0), .pl (.int .u64 0), .pl (.int .u64 0), .sl 6 [.agg [.pl (.int .i64 1), .pl (.int .u64 0), .pl (.int .u64 36028797018963968), .pl (.int .u64 0), .pl (.int .u64 0), .nils], .agg [.pl (.int .i64 1), .pl (.int .u64 0), .pl (.int .u64 8589934592), .pl (.int .u64 0), .pl (.int .u64 0), .nils], .agg [.pl (.int .i64 1), .pl (.int .u64 0), .pl (.int .u64 1125899906842624), .pl (.int .u64 0), .pl (.int .u64 0), .nils], .agg [.pl (.int .i64 1), .pl (.int .u64 0), .pl (.int .u64 70368744177664), .pl (.int .u64 0), .pl (.int .u64 0), .nils]]]]]) [.box [.pl (.int .i64 3), .pl (.string ⟨#[115, 101, 118]⟩), .pl (.string ⟨#[99, 114, 105, 116, 124, 119, 97, 114, 110]⟩)], .box [.pl (.int .i64 0), .pl (.int .u64 0), .pl (.int .u64 0), .pl (.int .u64 0), .pl (.int .u64 0), .nils], .box [.pl (.string ⟨#[99, 114, 105, 116, 124, 119, 97, 114, 110]⟩), .pl (.int .i64 9), .pl (.bool false)]] := evFT_ok allR extF [] 300 100 _ _ _ _ _ (by kernel_rfl)
def rr0 : Memo Tryz.prog := ⟨_, _, _, _, _, rr0_ok⟩
/- 3361 steps -/
theorem rr1_ok : Ans Tryz.prog 171 [.ptr 1 0, .pl (.int .i64 0)] [.box [.pl (.int .i64 0), .pl (.int .u64 0), .pl (.int .u64 0), .pl (.int .u64 0), .pl (.int .u64 0), .nils], .box [.pl (.string ⟨#[99, 114, 105, 116, 124, 119, 97, 114, 110]⟩), .pl (.int .i64 0), .pl (.bool false)]] (.agg [.pl (.int .i64 3), .pl (.int .u64 0), .pl (.int .u64 0), .pl (.int .u64 0), .pl (.int .u64 0), .sl 6 [.agg [.pl (.int .i64 2), .pl (.int .u64 0), .pl (.int .u64 0), .pl (.int .u64 0), .pl (.int .u64 0), .sl 6 [.agg [.pl (.int .i64 1), .pl (.int .u64 0), .pl (.int .u64 34359738368), .pl (.int .u64 0), .pl (.int .u64 0), .nils], .agg [.pl (.int .i64 1), .pl (.int .u64 0), .pl (.int .u64 1125899906842624), .pl (.int .u64 0), .pl (.int .u64 0), .nils], .agg [.pl (.int .i64 1), .pl (.int .u64 0), .pl (.int .u64 2199023255552), .pl (.int .u64 0), .pl (.int .u64 0), .nils], .agg [.pl (.int .i64 1), .pl (.int .u64 0), .pl (.int .u64 4503599627370496), .pl (.int .u64 0), .pl (.int .u64 0), .nils]]], .agg [.pl (.int .i64 2), .pl (.int .u64 0), .pl (.int .u64 0), .pl (.int .u64 0), .pl (.int .u64 0), .sl 6 [.agg [.pl (.int .i64 1), .pl (.int .u64 0), .pl (.int .u64 36028797018963968), .pl (.int .u64 0), .pl (.int .u64 0), .nils], .agg [.pl (.int .i64 1), .pl (.int .u64 0), .pl (.int .u64 8589934592), .pl (.int .u64 0), .pl (.int .u64 0), .nils], .agg [.pl (.int .i64 1), .pl (.int .u64 0), .pl (.int .u64 1125899906842624), .pl (.int .u64 0), .pl (.int .u64 0), .nils], .agg [.pl (.int .i64 1), .pl (.int .u64 0), .pl (.int .u64 70368744177664), .pl (.int .u64 0), .pl (.int .u64 0), .nils]]]]]) [.box [.pl (.int .i64 0), .pl (.int .u64 0), .pl (.int .u64 0), .pl (.int .u64 0), .pl (.int .u64 0), .nils], .box [.pl (.string ⟨#[99, 114, 105, 116, 124, 119, 97, 114, 110]⟩), .pl (.int .i64 9), .pl (.bool false)]] := evFT_ok allR extF [rr0] 300 100 _ _ _ _ _ (by kernel_rfl)
def rr1 : Memo Tryz.prog := ⟨_, _, _, _, _, rr1_ok⟩
/- 3017 steps -/
theorem rr2_ok : Ans Tryz.prog 145 [.agg [.sl 3 [.agg [.pl (.int .i64 1), .pl (.string ⟨#[115, 101, 118]⟩), .pl (.string ⟨#[99, 114, 105, 116]⟩)]], .sl 3 [.agg [.pl (.int .i64 3), .pl (.string ⟨#[115, 101, 118]⟩), .pl (.string ⟨#[99, 114, 105, 116, 124, 119, 97, 114, 110]⟩)]], .pl (.bool true), .pl (.float .f64 0), .pl (.float .f64 0), .sl 1 [.pl (.string ⟨#[99]⟩)]]] [] (.pl (.bool true)) [] := evFT_ok allR extF [rr0, rr1] 300 100 _ _ _ _ _ (by kernel_rfl)
def rr2 : Memo Tryz.prog := ⟨_, _, _, _, _, rr2_ok⟩
/- 4135 steps -/
theorem rr3_ok : Ans Tryz.prog 167 [.agg [.pl (.int .i64 3), .pl (.string ⟨#[115, 101, 118]⟩), .pl (.string ⟨#[99, 114, 105, 116, 124, 119, 97, 114, 110]⟩)], .sl 2 [.agg [.pl (.string ⟨#[99]⟩), .pl (.string ⟨#[120]⟩)], .agg [.pl (.string ⟨#[115, 101, 118]⟩), .pl (.string ⟨#[119, 97, 114, 110]⟩)]]] [] (.pl (.bool true)) [] := evFT_ok allR extF [rr0, rr1, rr2] 300 100 _ _ _ _ _ (by kernel_rfl)
def rr3 : Memo Tryz.prog := ⟨_, _, _, _, _, rr3_ok⟩
/- 4135 steps -/
theorem rr4_ok : Ans Tryz.prog 167 [.agg [.pl (.int .i64 3), .pl (.string ⟨#[115, 101, 118]⟩), .pl (.string ⟨#[99, 114, 105, 116, 124, 119, 97, 114, 110]⟩)], .sl 2 [.agg [.pl (.string ⟨#[99]⟩), .pl (.string ⟨#[121]⟩)], .agg [.pl (.string ⟨#[115, 101, 118]⟩), .pl (.string ⟨#[119, 97, 114, 110]⟩)]]] [] (.pl (.bool true)) [] := evFT_ok allR extF [rr0, rr1, rr2, rr3] 300 100 _ _ _ _ _ (by kernel_rfl)
def rr4 : Memo Tryz.prog := ⟨_, _, _, _, _, rr4_ok⟩
/- 4171 steps -/
theorem rr5_ok : Ans Tryz.prog 167 [.agg [.pl (.int .i64 3), .pl (.string ⟨#[115, 101, 118]⟩), .pl (.string ⟨#[99, 114, 105, 116, 124, 119, 97, 114, 110]⟩)], .sl 2 [.agg [.pl (.string ⟨#[99]⟩), .pl (.string ⟨#[120]⟩)], .agg [.pl (.string ⟨#[115, 101, 118]⟩), .pl (.string ⟨#[99, 114, 105, 116]⟩)]]] [] (.pl (.bool true)) [] := evFT_ok allR extF [rr0, rr1, rr2, rr3, rr4] 300 100 _ _ _ _ _ (by kernel_rfl)
def rr5 : Memo Tryz.prog := ⟨_, _, _, _, _, rr5_ok⟩
/- 4429 steps -/
theorem rr_ok : Ans Tryz.prog 16 [] [] (.pl (.bool true)) [] := evFT_ok allR extF [rr0, rr1, rr2, rr3, rr4, rr5] 300 100 _ _ _ _ _ (by kernel_rfl)
end Go.Proofs.YtmkmhhjkdaklbaaGreat
namespace Go.Proofs.YtmkmhhjkdaklbaaGreat
open Go Go.Ab Go.Cod
set_option maxRecDepth 100000
theorem weighL_le : ∀ (l : List (Nat × Nat)) (n : Nat), weighL l n ≤ 301
 | [], n => by simp only [weighL]; omega
 | (a, b) :: l, n => by
   simp only [weighL]
   split
   · split
     · omega
     · exact weighL_le l _
   · omega
def weighS : List ByteArray → Nat → Nat
 | [], n => min n 301
 | s :: l, n => if n ≤ 300 then if 300 < s.size then 301 else weighS l (n + 1 + s.size) else 301
theorem weighS_len : ∀ (l : List ByteArray) (n : Nat), weighS l n ≤ 300 → n + l.length ≤ 300 ∧ ∀ x ∈ l, x.size ≤ 300
 | [], n, h => by
   simp only [weighS] at h
   refine ⟨by simp; omega, by simp⟩
 | s :: l, n, h => by
   simp only [weighS] at h
   split at h
   · split at h
     · omega
     · have := weighS_len l _ h
       refine ⟨by simp; omega, fun x hx => ?_⟩
       rcases List.mem_cons.1 hx with rfl | hx
       · omega
       · exact this.2 x hx
   · omega
def weigh2 (r : RuM) : Nat := if weighL (r.src.map matP) 0 ≤ 300 then weighL (r.src.map matP) 0 + weighL (r.tgt.map matP) 0 else weighL (r.src.map matP) 0
def weighR (r : RuM) : Nat := weighS r.eq (weigh2 r)
theorem weigh2_le (r : RuM) : weigh2 r ≤ 700 := by
 have := weighL_le (r.src.map matP) 0
 have := weighL_le (r.tgt.map matP) 0
 unfold weigh2
 split <;> omega
section
variable (σ : St)
theorem weighrule_ans (r : RuM) : Ans Tryz.prog 15 [ruV r, I 300] σ (I (weighR r : Nat)) σ := by
 have hw2 := weigh2_le r
 obtain ⟨src, tgt, any, lo, hi, eq⟩ := r
 unfold ruV
 simp only
 have h1 := fun σ => weigh_mats_ans σ src
 have h2 := fun σ => weigh_mats_ans σ tgt
 generalize hR : weighR ⟨src, tgt, any, lo, hi, eq⟩ = R
 have hR' : weighS eq (weigh2 ⟨src, tgt, any, lo, hi, eq⟩) = R := hR
 have hx1 := weighL_le (src.map matP) 0
 have hx2 := weighL_le (tgt.map matP) 0
 have w0 : IntKind.i64.wrap (300 + 1) = 301 := by decide
 have w1 : IntKind.i64.wrap 301 = 301 := by decide
 refine Ans.of_run t15 ?_
 simp -implicitDefEqProofs only [c15, r15, go_sem]
 refine CO.intro (h1 _) ?_
 unfold weigh2 at hR' hw2
 simp only at hR' hw2
 generalize weighL (src.map matP) 0 = n1 at h1 hx1 hR' hw2 ⊢
 generalize weighL (tgt.map matP) 0 = n2 at h2 hx2 hR' hw2 ⊢
 have hd : decide ((n1 : Int) ≤ 300) = decide (n1 ≤ 300) := int_le n1 300
 have hwd : IntKind.i64.wrap ((n1 : Int) + (n2 : Nat)) = ((n1 + n2 : Nat) : Int) := by rw [wrapN (by omega) (by omega)]; omega
 cases hb : decide (n1 ≤ 300) with
 | true =>
   rw [hb] at hd
   rw [if_pos (of_decide_eq_true hb)] at hR' hw2
   simp -implicitDefEqProofs only [go_sem, hd]
   refine CO.intro (h2 _) ?_
   simp -implicitDefEqProofs only [go_sem, hwd]
   generalize n1 + n2 = n0 at hR' hw2 ⊢
   refine Go.Ab.L.intro (α := { x : Nat × Nat // x.1 ≤ eq.length ∧ weighS (eq.drop x.1) x.2 = R ∧ x.2 ≤ 1000 ∧ x.1 ≤ x.2 }) (fun x => eq.length - x.1.1)
    (fun x => mkE 55 [(1, I 300), (2, .rp [.sl 3 (mvs3 src), .sl 3 (mvs3 tgt), Bo any, Fl lo, Fl hi, .sl 1 (txs eq)]), (5, I x.1.2), (6, I x.1.1)])
    (fun _ => σ) (fun x J hJ => ?_) ⟨(0, n0), Nat.zero_le _, hR', by simp only; omega, Nat.zero_le _⟩ rfl rfl
   obtain ⟨⟨i, n⟩, q1, q2, q3, q4⟩ := x
   simp only at q1 q2 q3 q4 hJ ⊢
   have d2 : decide ((n : Int) ≤ 300) = decide (n ≤ 300) := int_le n 300
   by_cases hi : i < eq.length
   · have hget := txs_get eq i hi
     rw [List.drop_eq_getElem_cons hi, weighS] at q2
     have hJ' := fun m h1 h2 h3 => hJ ⟨(i + 1, m), hi, h1, h2, h3⟩ (by simp only; omega)
     simp only at hJ'
     clear hJ
     generalize eq[i] = y at q2 hget hJ'
     by_cases hn : n ≤ 300
     · rw [if_pos hn] at q2
       have e2 : decide (n ≤ 300) = true := by simpa using hn
       rw [e2] at d2
       have d3 : decide ((300 : Int) < y.size) = decide (300 < y.size) := decN 300 _
       by_cases ha : 300 < y.size
       · rw [if_pos ha] at q2
         rw [decide_eq_true ha] at d3
         simp -implicitDefEqProofs only [mkE, go_sem, txs_len, nat_lt hi, dec_lt hi, d2, d3, hget, w0, w1]
         subst q2
         exact Fini.ret rfl
       · rw [if_neg ha] at q2
         rw [decide_eq_false ha] at d3
         have a1 : IntKind.i64.wrap ((n : Int) + 1) = ((n + 1 : Nat) : Int) := wrap_nat (by omega)
         have a2 : IntKind.i64.wrap (((n + 1 : Nat) : Int) + (y.size : Nat)) = ((n + 1 + y.size : Nat) : Int) := by rw [wrapN (by omega) (by omega)]; omega
         have a4 : IntKind.i64.wrap ((i : Int) + 1) = ((i + 1 : Nat) : Int) := wrap_nat (by omega)
         have hJ2 := hJ' _ q2 (by omega) (by omega)
         simp -implicitDefEqProofs only [mkE, go_sem, txs_len, nat_lt hi, dec_lt hi, d2, d3, hget, a1, a2, a4]
         exact hJ2
     · rw [if_neg hn] at q2
       rw [decide_eq_false hn] at d2
       simp -implicitDefEqProofs only [mkE, go_sem, txs_len, nat_lt hi, dec_lt hi, d2, w0, w1]
       refine Fini.ret' rfl (int_congr ?_)
       split <;> omega
   · rw [List.drop_eq_nil_iff.2 (by omega), weighS] at q2
     simp -implicitDefEqProofs only [mkE, go_sem, txs_len, nat_nlt hi, dec_nlt hi, w0, w1]
     refine Fini.ret' rfl (int_congr ?_)
     split <;> omega
 | false =>
   rw [hb] at hd
   rw [if_neg (of_decide_eq_false hb)] at hR' hw2
   simp -implicitDefEqProofs only [go_sem, hd]
   generalize n1 = n0 at hR' hw2 ⊢
   refine Go.Ab.L.intro (α := { x : Nat × Nat // x.1 ≤ eq.length ∧ weighS (eq.drop x.1) x.2 = R ∧ x.2 ≤ 1000 ∧ x.1 ≤ x.2 }) (fun x => eq.length - x.1.1)
    (fun x => mkE 55 [(1, I 300), (2, .rp [.sl 3 (mvs3 src), .sl 3 (mvs3 tgt), Bo any, Fl lo, Fl hi, .sl 1 (txs eq)]), (5, I x.1.2), (6, I x.1.1)])
    (fun _ => σ) (fun x J hJ => ?_) ⟨(0, n0), Nat.zero_le _, hR', by simp only; omega, Nat.zero_le _⟩ rfl rfl
   obtain ⟨⟨i, n⟩, q1, q2, q3, q4⟩ := x
   simp only at q1 q2 q3 q4 hJ ⊢
   have d2 : decide ((n : Int) ≤ 300) = decide (n ≤ 300) := int_le n 300
   by_cases hi : i < eq.length
   · have hget := txs_get eq i hi
     rw [List.drop_eq_getElem_cons hi, weighS] at q2
     have hJ' := fun m h1 h2 h3 => hJ ⟨(i + 1, m), hi, h1, h2, h3⟩ (by simp only; omega)
     simp only at hJ'
     clear hJ
     generalize eq[i] = y at q2 hget hJ'
     by_cases hn : n ≤ 300
     · rw [if_pos hn] at q2
       have e2 : decide (n ≤ 300) = true := by simpa using hn
       rw [e2] at d2
       have d3 : decide ((300 : Int) < y.size) = decide (300 < y.size) := decN 300 _
       by_cases ha : 300 < y.size
       · rw [if_pos ha] at q2
         rw [decide_eq_true ha] at d3
         simp -implicitDefEqProofs only [mkE, go_sem, txs_len, nat_lt hi, dec_lt hi, d2, d3, hget, w0, w1]
         subst q2
         exact Fini.ret rfl
       · rw [if_neg ha] at q2
         rw [decide_eq_false ha] at d3
         have a1 : IntKind.i64.wrap ((n : Int) + 1) = ((n + 1 : Nat) : Int) := wrap_nat (by omega)
         have a2 : IntKind.i64.wrap (((n + 1 : Nat) : Int) + (y.size : Nat)) = ((n + 1 + y.size : Nat) : Int) := by rw [wrapN (by omega) (by omega)]; omega
         have a4 : IntKind.i64.wrap ((i : Int) + 1) = ((i + 1 : Nat) : Int) := wrap_nat (by omega)
         have hJ2 := hJ' _ q2 (by omega) (by omega)
         simp -implicitDefEqProofs only [mkE, go_sem, txs_len, nat_lt hi, dec_lt hi, d2, d3, hget, a1, a2, a4]
         exact hJ2
     · rw [if_neg hn] at q2
       rw [decide_eq_false hn] at d2
       simp -implicitDefEqProofs only [mkE, go_sem, txs_len, nat_lt hi, dec_lt hi, d2, w0, w1]
       refine Fini.ret' rfl (int_congr ?_)
       split <;> omega
   · rw [List.drop_eq_nil_iff.2 (by omega), weighS] at q2
     simp -implicitDefEqProofs only [mkE, go_sem, txs_len, nat_nlt hi, dec_nlt hi, w0, w1]
     refine Fini.ret' rfl (int_congr ?_)
     split <;> omega
theorem rr_a : Ans Tryz.prog 16 [] σ (Bo true) σ := rr_ok.frame (bel_all rfl) σ
end
end Go.Proofs.YtmkmhhjkdaklbaaGreat
namespace Go.Proofs.YtmkmhhjkdaklbaaGreat
open Go Go.Ab Go.Cod
set_option maxRecDepth 100000
theorem mtrR_nil : mtrR [] = none := rfl
theorem mtrR_cons (c : UInt8) (u : Byt) : mtrR (c :: u) = (textR 12 u).bind fun p => (textR 40 p.2).map fun q => (mkM (c, p.1, q.1), q.2) := by
 simp only [mtrR, dressR, seqR, byteR, Option.bind_some]
 cases textR 12 u with
 | none => rfl
 | some p =>
   simp only [Option.bind_some]
   cases textR 40 p.2 with
   | none => rfl
   | some q => rfl
theorem many_succ {α : Type} (r : Rd α) (n : Nat) (b : Byt) : manyR r (n + 1) b = (r b).bind fun p => (manyR r n p.2).map fun q => (p.1 :: q.1, q.2) := rfl
theorem dread_ans0 (σ : St) (b : Byt) (hb : b.length ≤ 50000) : Ans Tryz.prog 63 [.sl 1 (byv b)] σ (readV (listR b) b (fun M => .sl 3 (mvs3 M)) .nils) σ := by
 refine Ans.of_run' t63 (fun hbel _ => ?_)
 simp -implicitDefEqProofs only [c63, r63, go_sem]
 refine CO.intro (dget_ans σ b (by omega)) ?_
 cases hg : getN 0 b with
 | none =>
   have hR : listR b = none := by simp only [listR, onlyR, rowR, numR, hg, Option.bind_none]
   rw [getV_none hg, hR]
   simp -implicitDefEqProofs only [go_sem]
   exact Fini.ret rfl
 | some p =>
   obtain ⟨n, t⟩ := p
   rw [getV_some hg]
   have e1 : decide ((5 : Int) < n) = decide (5 < n) := decNN 5 n
   by_cases h5 : 5 < n
   · have hR : listR b = none := by simp only [listR, onlyR, rowR, numR, hg, Option.bind_some, show ¬ n ≤ 5 by omega, if_false, Option.bind_none]
     rw [hR]
     simp -implicitDefEqProofs only [go_sem, e1, decide_eq_true h5]
     exact Fini.ret rfl
   · have hN : numR 5 b = some (n, t) := by simp only [numR, hg, Option.bind_some, show n ≤ 5 by omega, if_true]
     have hR : listR b = (manyR mtrR n t).bind fun x => if listB x.1 then some x else none := by simp only [listR, onlyR, rowR, hN, Option.bind_some]
     obtain ⟨hd0, _, hl0⟩ := (ends_num 5).drop (b := b) (a := 0) (Nat.zero_le _) hN
     have hwn := wrapI (a := n) (by omega)
     simp -implicitDefEqProofs only [go_sem, e1, decide_eq_false h5]
     refine Go.Ab.L.intro (α := { p : Nat × List Mtr × Nat // p.1 ≤ n ∧ p.2.1.length = p.1 ∧ p.2.2 ≤ b.length ∧ (∀ x ∈ p.2.1, x.2.1.size ≤ 100000) ∧ manyR mtrR n t = (manyR mtrR (n - p.1) (b.drop p.2.2)).map fun r => (p.2.1 ++ r.1, r.2) }) (fun p => n - p.1.1)
      (fun p => mkE 84 [(0, .sl 1 (byv b)), (5, UN n), (6, I p.1.2.2), (8, .osl σ.length p.1.1), (9, I p.1.1)]) (fun p => σ ++ [.row 3 (mvs3 p.1.2.1)]) ?_ ⟨(0, [], b.length - t.length), Nat.zero_le _, rfl, Nat.sub_le _ _, by simp, by rw [hd0]; cases manyR mtrR n t <;> simp⟩ rfl rfl
     rintro ⟨⟨i, l, at_⟩, hi, hll, hat, hsz, hm⟩ J hJ
     simp only at hi hll hat hsz hm hJ
     have hlm : (mvs3 l).length = i := by rw [mvs3_len, hll]
     have hbm : ∀ k, Bel k (.sl 3 (mvs3 l)) := fun k => bel_mvs3 _ _
     -- a way out: nothing was read
     by_cases hlt : i < n
     · obtain ⟨m, hmm⟩ : ∃ m, n - i = m + 1 := ⟨n - i - 1, by omega⟩
       rw [hmm, many_succ] at hm
       have d0 : decide ((i : Int) < n) = true := dec_lt hlt
       by_cases hend : at_ < b.length
       · have hx := byv_get b at_ hend
         have hdr : b.drop at_ = b[at_] :: b.drop (at_ + 1) := List.drop_eq_getElem_cons hend
         have d1 : decide ((b.length : Int) ≤ at_) = false := by simp; omega
         have w1 := wrap_succ (i := at_) (by omega)
         have hcl := (b[at_]).toNat_lt
         rw [hdr] at hm
         generalize b[at_] = c at hx hm hcl
         have wc : IntKind.i64.wrap (c.toNat : Int) = (c.toNat : Int) := wrapI (by omega)
         have hle1 : (((at_ + 1 : Nat) : Int)) ≤ (b.length : Nat) := by omega
         simp -implicitDefEqProofs only [mkE, go_sem, hwn, d0, byv_len, d1, nat_lt hend, hx, bc, wc, w1, hle1, byv_take, byv_drop, List.take_length, Int.le_refl]
         refine CO.intro (dgettext_ans _ (b.drop (at_ + 1)) 12 (by rw [List.length_drop]; omega) (by decide)) ?_
         cases ht1 : textR 12 (b.drop (at_ + 1)) with
         | none =>
           rw [mtrR_cons, ht1] at hm
           simp only [Option.bind_none, Option.map_none] at hm
           rw [hm] at hR
           simp only [Option.bind_none] at hR
           rw [textV_none ht1, hR]
           simp -implicitDefEqProofs only [go_sem]
           exact Fini.trim2 (σ' := σ) rfl rfl (Nat.le_refl _) (by unfold readV; exact bel_tup3 .nils) hbel
         | some x1 =>
           obtain ⟨nm, u2⟩ := x1
           obtain ⟨q1, q2, q3⟩ := (ends_text 12).drop (b := b) (a := at_ + 1) (by omega) ht1
           have hs1 := ((text_fits (most := 12) (by decide)).bwd _ _ _ ht1).1
           have a1 := addN (a := at_ + 1) (b := (b.drop (at_ + 1)).length - u2.length) (by rw [List.length_drop]; omega)
           have e2 : at_ + 1 + ((b.drop (at_ + 1)).length - u2.length) = b.length - u2.length := by rw [List.length_drop]; omega
           rw [e2] at a1
           have hle2 : (((b.length - u2.length : Nat) : Int)) ≤ (b.length : Nat) := by omega
           rw [textV_some ht1]
           simp -implicitDefEqProofs only [go_sem, a1, byv_len, hle2, byv_take, byv_drop, List.take_length, Int.le_refl, q1]
           refine CO.intro (dgettext_ans _ u2 40 (by omega) (by decide)) ?_
           rw [mtrR_cons, ht1] at hm
           simp only [Option.bind_some] at hm
           cases ht2 : textR 40 u2 with
           | none =>
             rw [ht2] at hm
             simp only [Option.bind_none, Option.map_none] at hm
             rw [hm] at hR
             simp only [Option.bind_none] at hR
             rw [textV_none ht2, hR]
             simp -implicitDefEqProofs only [go_sem]
             exact Fini.trim2 (σ' := σ) rfl rfl (Nat.le_refl _) (by unfold readV; exact bel_tup3 .nils) hbel
           | some x2 =>
             obtain ⟨v, u3⟩ := x2
             have ht2' : textR 40 (b.drop (b.length - u2.length)) = some (v, u3) := by rw [q1]; exact ht2
             obtain ⟨z1, z2, z3⟩ := (ends_text 40).drop (b := b) (a := b.length - u2.length) (by omega) ht2'
             have a2 := addN (a := b.length - u2.length) (b := u2.length - u3.length) (by omega)
             have e3 : b.length - u2.length + (u2.length - u3.length) = b.length - u3.length := by omega
             rw [e3] at a2
             rw [ht2] at hm
             simp only [Option.bind_some, Option.map_some] at hm
             have hin := wrap_succ (i := i) (by omega)
             have hle : i + 1 ≤ 4294967296 := by omega
             have hgo := hJ ⟨(i + 1, l ++ [mkM (c, nm, v)], b.length - u3.length), by simp only; omega, by simp [hll], by simp only; omega, (by
              intro y hy
              simp only [List.mem_append, List.mem_singleton] at hy
              rcases hy with hy | rfl
              · exact hsz y hy
              · simp only [mkM]; omega), (by
              simp only
              rw [hm, z1, show n - (i + 1) = m by omega]
              cases manyR mtrR m u3 <;> simp)⟩ (by simp only; omega)
             have hsn := mvs3_snoc l (mkM (c, nm, v))
             rw [textV_some ht2]
             simp -implicitDefEqProofs only [go_sem, a2, g0, s0, hlm, List.length_singleton, hle, hin]
             simp only [← hsn] at hgo
             exact hgo
       · have hnil : b.drop at_ = [] := List.drop_eq_nil_of_le (by omega)
         have d1 : decide ((b.length : Int) ≤ at_) = true := by simp; omega
         rw [hnil, mtrR_nil] at hm
         simp only [Option.bind_none, Option.map_none] at hm
         rw [hm] at hR
         simp only [Option.bind_none] at hR
         rw [hR]
         simp -implicitDefEqProofs only [mkE, go_sem, hwn, d0, byv_len, d1]
         exact Fini.trim2 (σ' := σ) rfl rfl (Nat.le_refl _) (by unfold readV; exact bel_tup3 .nils) hbel
     · have hie : i = n := by omega
       subst hie
       have d0 : decide ((i : Int) < i) = false := by simp
       rw [Nat.sub_self] at hm
       simp only [manyR, Option.map_some, List.append_nil] at hm
       rw [hm] at hR
       simp only [Option.bind_some] at hR
       simp -implicitDefEqProofs only [mkE, go_sem, hwn, d0, g0, s0, hlm]
       refine CO.intro (dlist_ans _ l hsz) ?_
       cases hlb : listB l with
       | false =>
         rw [hlb] at hR
         simp only [Bool.false_eq_true, if_false] at hR
         rw [hR]
         simp -implicitDefEqProofs only [go_sem]
         exact Fini.trim2 (σ' := σ) rfl rfl (Nat.le_refl _) (by unfold readV; exact bel_tup3 .nils) hbel
       | true =>
         rw [hlb] at hR
         simp only [if_true] at hR
         have hlen : b.length - (b.drop at_).length = at_ := by rw [List.length_drop]; omega
         rw [hR]
         unfold readV
         simp only [hlen]
         simp -implicitDefEqProofs only [go_sem]
         exact Fini.trim2 (σ' := σ) rfl rfl (Nat.le_refl _) (bel_tup3 (hbm _)) hbel
theorem dread_ans (σ : St) (b : Byt) (hb : b.length ≤ 50000) : Ans Tryz.prog 63 [.sl 1 (byv b)] σ (readV (listR b) b (fun M => .sl 3 (mvs3 M)) (.sl 3 [])) σ := by
 refine (dread_ans0 σ b hb).subR ?_
 unfold readV
 cases listR b with
 | none => exact .tup (.cons (.nils 3) (.refl _))
 | some p => exact .refl _
end Go.Proofs.YtmkmhhjkdaklbaaGreat
namespace Go.Proofs.YtmkmhhjkdaklbaaGreat
open Go Go.Ab Go.Cod Go.ChangeShapes Go.WideShapes Go.ChangeAt Go.RowKit
set_option maxRecDepth 100000
def eqMt (x y : Mtr) : Bool := x.1 == y.1 && (x.2.1.toList == y.2.1.toList && (x.2.2.toList == y.2.2.toList && true))
def sameM (A B : List Mtr) : Bool := decide (A.length = B.length) && (List.range A.length).all fun i => eqMt (A.getD i noM3) (B.getD i noM3)
theorem eqMt_refl (x : Mtr) : eqMt x x = true := by simp [eqMt]
theorem sameM_refl (A : List Mtr) : sameM A A = true := by simp [sameM, eqMt_refl]
theorem samem_ans (σ : St) (A B : List Mtr) (hA : A.length ≤ 1000) : Ans Tryz.prog 77 [.sl 3 (mvs3 A), .sl 3 (mvs3 B)] σ (Bo (sameM A B)) σ := by
 refine Ans.of_run t77 ?_
 have e0 : ((A.length : Int) != B.length) = !decide (A.length = B.length) := by
  rw [Bool.eq_iff_iff]; simp only [bne_iff_ne, Bool.not_eq_true', decide_eq_false_iff_not]; omega
 unfold sameM
 by_cases hl : A.length = B.length
 · rw [decide_eq_true hl, Bool.true_and]
   rw [decide_eq_true hl] at e0
   simp -implicitDefEqProofs only [c77, r77, go_sem, mvs3_len, e0]
   refine Go.Ab.L.scan A.length (fun i => eqMt (A.getD i noM3) (B.getD i noM3)) (fun i => mkE 26 [(0, .sl 3 (mvs3 A)), (1, .sl 3 (mvs3 B)), (5, I i)]) (fun _ => σ) ?_ ?_ rfl rfl
   · intro i hi hp J hJ
     have hx := mget_D A i hi
     have hy := mget_D B i (by omega)
     have hlB : ((i : Int) < B.length) = True := by simp; omega
     have hF : eqMt (A.getD i noM3) (B.getD i noM3) = false → ((List.range A.length).all fun i => eqMt (A.getD i noM3) (B.getD i noM3)) = false := fun h => List.all_eq_false.2 ⟨i, List.mem_range.2 hi, by rw [h]; decide⟩
     have hin := wrap_succ (i := i) (by omega)
     generalize A.getD i noM3 = x at hx hJ hF
     generalize B.getD i noM3 = y at hy hJ hF
     simp -implicitDefEqProofs only [mkE, go_sem, mvs3_len, nat_lt hi, dec_lt hi, hlB, hx, hy, mv3, Bool.true_xor]
     cases hb : eqMt x y with
     | true =>
       have hgo := hJ hb
       have hb' : (x.1 == y.1 && (x.2.1.toList == y.2.1.toList && (x.2.2.toList == y.2.2.toList && true))) = true := hb
       simp only [Bool.and_true] at hb'
       simp -implicitDefEqProofs only [go_sem, hb', hin]
       exact hgo
     | false =>
       have hb' : (x.1 == y.1 && (x.2.1.toList == y.2.1.toList && (x.2.2.toList == y.2.2.toList && true))) = false := hb
       simp only [Bool.and_true] at hb'
       rw [hF hb]
       simp -implicitDefEqProofs only [go_sem, hb']
       exact Fini.ret rfl
   · intro hp J
     have hd : decide ((A.length : Int) < A.length) = false := by simp
     simp -implicitDefEqProofs only [mkE, go_sem, mvs3_len, hd]
     refine Fini.ret' rfl (bo_congr ?_)
     exact (List.all_eq_true.2 fun i hi => hp i (List.mem_range.1 hi)).symm
 · rw [decide_eq_false hl, Bool.false_and]
   rw [decide_eq_false hl] at e0
   simp -implicitDefEqProofs only [c77, r77, go_sem, mvs3_len, e0]
   exact Fini.ret rfl
theorem wf8 {n : Int} (h : (Lit.int .u8 n).wf = true) : 0 ≤ n ∧ n < 256 := by
 simp [Lit.wf, IntKind.min, IntKind.max, IntKind.bits, IntKind.signed] at h
 omega
theorem byts_of : ∀ {ys : List (List AV)}, (∀ y ∈ ys, QInt .u8 y) → ∃ b : Byt, ys.map (wrapC false) = byv b
 | [], _ => ⟨[], rfl⟩
 | y :: ys, h => by
   obtain ⟨m, hm, rfl⟩ := h y List.mem_cons_self
   obtain ⟨b, hb⟩ := byts_of (ys := ys) (fun z hz => h z (List.mem_cons_of_mem _ hz))
   obtain ⟨h0, h1⟩ := wf8 hm
   obtain ⟨n, rfl⟩ := Int.eq_ofNat_of_zero_le h0
   refine ⟨n.toUInt8 :: b, ?_⟩
   rw [List.map_cons, hb, byv_cons, ← bc_of (show n < 256 by omega)]
   rfl
theorem byts_arg {H : Type} {enc : TypeId × Value → H} {W : World} {base : Nat} {v : Value} {d : DataW H} {ps : List MemPlace} (hv : Value.okWide Tryz.prog W .any base 29 v)
  (h : DataW.Trod enc Tryz.prog W 0 (fun _ => true) true 29 v d ps) : ∃ b : Byt, Rep noM noR W (.sl 1 (byv b)) v := by
 obtain ⟨sa, len, cap, rfl⟩ := okWide_slice Tryz.underlying29 hv
 obtain ⟨x, hx, hq⟩ := Reads.arg (P := Tryz.prog) (t := 29) (Q := QSlice 1 false (QInt .u8)) (fun f => by
  cases f with
  | zero => exact Reads.zero
  | succ f => exact Reads.slice false Tryz.underlying29 (by kernel_rfl) (by decide) (Reads.int Tryz.underlying5 f) (fun y hy _ => by obtain ⟨n, _, rfl⟩ := hy; rfl)) rfl h
 rcases hq with hq | ⟨ys, hys, _, hq⟩
 · simp only [List.cons.injEq, and_true] at hq
   subst hq
   refine ⟨[], ?_⟩
   have := hx.nils_inv
   rw [this]
   exact .sl0 _ _ _
 · obtain ⟨b, hn⟩ := byts_of hys
   simp only [List.cons.injEq, and_true] at hq
   subst hq
   rw [hn] at hx
   exact ⟨b, hx⟩
end Go.Proofs.YtmkmhhjkdaklbaaGreat
namespace Go.Proofs.YtmkmhhjkdaklbaaGreat
open Go Go.Ab
set_option maxRecDepth 100000
def c48 : ACode :=
 (.seq (.ops [⟨some 2, none, .prim (.mov (.const (.int .u64 0)))⟩])
 (.seq (.seq (.ops [⟨some 3, none, .prim (.mov (.tmp 0))⟩,
 ⟨some 4, none, .prim (.mov (.tmp 0))⟩,
 ⟨some 5, none, .prim (.bin false .neq (.tmp 3) (.tmp 4))⟩])
 (.cond (.tmp 5)
 (.seq (.ops [⟨some 2, none, .prim (.mov (.const (.int .u64 9221120237041090561)))⟩])
 .ret)
 .skip))
 (.seq (.ops [⟨some 6, none, .prim (.mov (.tmp 0))⟩,
 ⟨some 7, none, .call (.func 47) [(.tmp 6)]⟩,
 ⟨some 2, none, .prim (.mov (.tmp 7))⟩])
 .ret)))
def o48 : List Tmp := []
def r48 : List RV := [.tmp 2]
theorem t48 : Text Tryz.prog 48 o48 c48 r48 8 := ⟨⟨Tryz.f48, _, by kernel_rfl, by kernel_rfl, rfl, by kernel_rfl, by kernel_rfl, rfl⟩, by kernel_rfl⟩
def c67 : ACode :=
 (.seq (.ops [⟨some 1, none, .prim (.boxr (.tmp 0))⟩,
 ⟨some 2, none, .prim (.mov (.const (.bool false)))⟩])
 (.seq (.seq (.ops [⟨some 4, none, .prim (.fadr 0 (.tmp 1))⟩,
 ⟨some 5, none, .prim (.load 1 false (.tmp 4))⟩,
 ⟨some 6, none, .prim (.lenv (.tmp 5))⟩,
 ⟨some 7, none, .prim (.bin false .eql (.tmp 6) (.const (.int .i64 0)))⟩,
 ⟨some 8, none, .prim (.mov (.tmp 7))⟩,
 ⟨some 9, (some (8, false)), .prim (.fadr 1 (.tmp 1))⟩,
 ⟨some 10, (some (8, false)), .prim (.load 1 false (.tmp 9))⟩,
 ⟨some 11, (some (8, false)), .prim (.lenv (.tmp 10))⟩,
 ⟨some 12, (some (8, false)), .prim (.bin false .eql (.tmp 11) (.const (.int .i64 0)))⟩,
 ⟨some 13, none, .prim (.pick (.tmp 8) (.const (.bool true)) (.tmp 12))⟩,
 ⟨some 14, none, .prim (.mov (.tmp 13))⟩,
 ⟨some 15, (some (14, false)), .prim (.fadr 0 (.tmp 1))⟩,
 ⟨some 16, (some (14, false)), .prim (.load 1 false (.tmp 15))⟩,
 ⟨some 17, (some (14, false)), .call (.func 117) [(.tmp 16)]⟩,
 ⟨some 18, (some (14, false)), .prim (.un .not (.tmp 17))⟩,
 ⟨some 19, none, .prim (.pick (.tmp 14) (.const (.bool true)) (.tmp 18))⟩,
 ⟨some 20, none, .prim (.mov (.tmp 19))⟩,
 ⟨some 21, (some (20, false)), .prim (.fadr 1 (.tmp 1))⟩,
 ⟨some 22, (some (20, false)), .prim (.load 1 false (.tmp 21))⟩,
 ⟨some 23, (some (20, false)), .call (.func 117) [(.tmp 22)]⟩,
 ⟨some 24, (some (20, false)), .prim (.un .not (.tmp 23))⟩,
 ⟨some 25, none, .prim (.pick (.tmp 20) (.const (.bool true)) (.tmp 24))⟩,
 ⟨some 26, none, .prim (.mov (.tmp 25))⟩,
 ⟨some 27, (some (26, false)), .prim (.fadr 2 (.tmp 1))⟩,
 ⟨some 28, (some (26, false)), .prim (.load 3 true (.tmp 27))⟩,
 ⟨some 29, (some (26, false)), .call (.func 120) [(.tmp 28)]⟩,
 ⟨some 30, (some (26, false)), .prim (.un .not (.tmp 29))⟩,
 ⟨some 31, none, .prim (.pick (.tmp 26) (.const (.bool true)) (.tmp 30))⟩,
 ⟨some 32, none, .prim (.mov (.tmp 31))⟩,
 ⟨some 33, (some (32, false)), .prim (.fadr 5 (.tmp 1))⟩,
 ⟨some 34, (some (32, false)), .prim (.load 1 false (.tmp 33))⟩,
 ⟨some 35, (some (32, false)), .prim (.lenv (.tmp 34))⟩,
 ⟨some 36, (some (32, false)), .prim (.bin false .gtr (.tmp 35) (.const (.int .i64 4)))⟩,
 ⟨some 37, none, .prim (.pick (.tmp 32) (.const (.bool true)) (.tmp 36))⟩])
 (.cond (.tmp 37)
 (.seq (.ops [⟨some 2, none, .prim (.mov (.const (.bool false)))⟩])
 .ret)
 .skip))
 (.seq (.seq (.ops [⟨some 3, none, .prim (.mov (.const (.int .i64 0)))⟩])
 (.block 0 (.loop [0, 2, 4, 5, 6, 7, 8, 9, 10, 11, 12, 13, 14, 15, 16, 17, 18, 19, 20, 21, 22, 23, 24, 25, 26, 27, 28, 29, 30, 31, 32, 33, 34, 35, 36, 37, 38, 39, 40, 41, 42, 43, 44, 45, 46, 47, 48, 49, 50, 51, 52, 53, 54, 55, 56, 57, 58, 59, 60, 61, 62, 63, 64, 65, 66, 67, 68, 69] (.seq (.seq (.ops [⟨some 38, none, .prim (.mov (.tmp 3))⟩,
 ⟨some 39, none, .prim (.fadr 5 (.tmp 1))⟩,
 ⟨some 40, none, .prim (.load 1 false (.tmp 39))⟩,
 ⟨some 41, none, .prim (.lenv (.tmp 40))⟩,
 ⟨some 42, none, .prim (.bin false .lss (.tmp 38) (.tmp 41))⟩])
 (.cond (.tmp 42)
 .skip
 (.exit 0)))
 (.seq (.block 1 (.seq (.draw [⟨⟨some 45, none, .prim (.fadr 5 (.tmp 1))⟩, [], false, 0, 0⟩,
 ⟨⟨some 46, none, .prim (.load 1 false (.tmp 45))⟩, [0], false, 0, 0⟩,
 ⟨⟨some 47, none, .prim (.mov (.tmp 3))⟩, [], false, 0, 0⟩,
 ⟨⟨some 48, none, .prim (.iadrs 1 (.tmp 46) (.tmp 47))⟩, [0, 1, 2], false, 0, 0⟩,
 ⟨⟨some 49, none, .prim (.load 1 false (.tmp 48))⟩, [0, 1, 2, 3], false, 0, 0⟩,
 ⟨⟨some 50, none, .call (.func 121) [(.tmp 49)]⟩, [0, 1, 2, 3, 4], true, 0, 0⟩,
 ⟨⟨some 51, none, .prim (.un .not (.tmp 50))⟩, (List.range 6), false, 1, 1⟩,
 ⟨⟨some 52, none, .prim (.mov (.tmp 51))⟩, (List.range 7), false, 1, 1⟩,
 ⟨⟨some 53, (some (52, false)), .prim (.mov (.tmp 3))⟩, (List.range 8), false, 1, 1⟩,
 ⟨⟨some 54, (some (52, false)), .prim (.bin false .gtr (.tmp 53) (.const (.int .i64 0)))⟩, (List.range 9), false, 1, 1⟩,
 ⟨⟨some 55, (some (52, false)), .prim (.mov (.tmp 54))⟩, (List.range 10), false, 1, 1⟩,
 ⟨⟨some 56, (some (55, true)), .prim (.fadr 5 (.tmp 1))⟩, (List.range 11), false, 1, 1⟩,
 ⟨⟨some 57, (some (55, true)), .prim (.load 1 false (.tmp 56))⟩, (List.range 12), false, 1, 1⟩,
 ⟨⟨some 58, (some (55, true)), .prim (.mov (.tmp 3))⟩, (List.range 11), false, 1, 1⟩,
 ⟨⟨some 59, (some (55, true)), .prim (.iadrs 1 (.tmp 57) (.tmp 58))⟩, (List.range 14), false, 1, 1⟩,
 ⟨⟨some 60, (some (55, true)), .prim (.load 1 false (.tmp 59))⟩, (List.range 15), false, 1, 1⟩,
 ⟨⟨some 61, (some (55, true)), .prim (.fadr 5 (.tmp 1))⟩, (List.range 11), false, 1, 1⟩,
 ⟨⟨some 62, (some (55, true)), .prim (.load 1 false (.tmp 61))⟩, [0, 1, 2, 3, 4, 5, 6, 7, 8, 9, 10, 16], false, 1, 1⟩,
 ⟨⟨some 63, (some (55, true)), .prim (.mov (.tmp 3))⟩, (List.range 11), false, 1, 1⟩,
 ⟨⟨some 64, (some (55, true)), .prim (.bin false .sub (.tmp 63) (.const (.int .i64 1)))⟩, [0, 1, 2, 3, 4, 5, 6, 7, 8, 9, 10, 18], false, 1, 1⟩,
 ⟨⟨some 65, (some (55, true)), .prim (.iadrs 1 (.tmp 62) (.tmp 64))⟩, [0, 1, 2, 3, 4, 5, 6, 7, 8, 9, 10, 16, 17, 18, 19], false, 1, 1⟩,
 ⟨⟨some 66, (some (55, true)), .prim (.load 1 false (.tmp 65))⟩, [0, 1, 2, 3, 4, 5, 6, 7, 8, 9, 10, 16, 17, 18, 19, 20], false, 1, 1⟩,
 ⟨⟨some 67, (some (55, true)), .prim (.bin false .leq (.tmp 60) (.tmp 66))⟩, (List.range 22), false, 1, 1⟩,
 ⟨⟨some 68, (some (52, false)), .prim (.pick (.tmp 55) (.tmp 67) (.const (.bool false)))⟩, (List.range 23), false, 1, 1⟩,
 ⟨⟨some 69, none, .prim (.pick (.tmp 52) (.const (.bool true)) (.tmp 68))⟩, (List.range 24), false, 1, 1⟩])
 (.cond (.tmp 69)
 (.seq (.ops [⟨some 2, none, .prim (.mov (.const (.bool false)))⟩])
 .ret)
 .skip)))
 (.ops [⟨some 43, none, .prim (.mov (.tmp 3))⟩,
 ⟨some 44, none, .prim (.bin false .add (.tmp 43) (.const (.int .i64 1)))⟩,
 ⟨some 3, none, .prim (.mov (.tmp 44))⟩]))))))
 (.seq (.ops [⟨some 2, none, .prim (.mov (.const (.bool true)))⟩])
 .ret))))
def o67 : List Tmp := []
def r67 : List RV := [.tmp 2]
theorem t67 : Text Tryz.prog 67 o67 c67 r67 70 := ⟨⟨Tryz.f67, _, by kernel_rfl, by kernel_rfl, rfl, by kernel_rfl, by kernel_rfl, rfl⟩, by kernel_rfl⟩
def c120 : ACode :=
 (.seq (.ops [⟨some 1, none, .prim (.boxr (.tmp 0))⟩,
 ⟨some 2, none, .prim (.mov (.const (.bool false)))⟩])
 (.seq (.seq (.ops [⟨some 3, none, .prim (.fadr 0 (.tmp 1))⟩,
 ⟨some 4, none, .prim (.load 1 false (.tmp 3))⟩])
 (.cond (.tmp 4)
 (.seq (.ops [⟨some 5, none, .prim (.fadr 1 (.tmp 1))⟩,
 ⟨some 6, none, .prim (.load 1 false (.tmp 5))⟩,
 ⟨some 7, none, .call (.func 48) [(.tmp 6)]⟩,
 ⟨some 8, none, .prim (.bin false .eql (.tmp 7) (.const (.int .u64 0)))⟩,
 ⟨some 9, none, .prim (.mov (.tmp 8))⟩,
 ⟨some 10, (some (9, true)), .prim (.fadr 2 (.tmp 1))⟩,
 ⟨some 11, (some (9, true)), .prim (.load 1 false (.tmp 10))⟩,
 ⟨some 12, (some (9, true)), .call (.func 48) [(.tmp 11)]⟩,
 ⟨some 13, (some (9, true)), .prim (.bin false .eql (.tmp 12) (.const (.int .u64 0)))⟩,
 ⟨some 14, none, .prim (.pick (.tmp 9) (.tmp 13) (.const (.bool false)))⟩,
 ⟨some 2, none, .prim (.mov (.tmp 14))⟩])
 .ret)
 .skip))
 (.seq (.ops [⟨some 15, none, .prim (.fadr 1 (.tmp 1))⟩,
 ⟨some 16, none, .prim (.load 1 false (.tmp 15))⟩,
 ⟨some 17, none, .prim (.fadr 2 (.tmp 1))⟩,
 ⟨some 18, none, .prim (.load 1 false (.tmp 17))⟩,
 ⟨some 19, none, .prim (.bin false .leq (.tmp 16) (.tmp 18))⟩,
 ⟨some 2, none, .prim (.mov (.tmp 19))⟩])
 .ret)))
def o120 : List Tmp := []
def r120 : List RV := [.tmp 2]
theorem t120 : Text Tryz.prog 120 o120 c120 r120 20 := ⟨⟨Tryz.f120, _, by kernel_rfl, by kernel_rfl, rfl, by kernel_rfl, by kernel_rfl, rfl⟩, by kernel_rfl⟩
end Go.Proofs.YtmkmhhjkdaklbaaGreat
namespace Go.Proofs.YtmkmhhjkdaklbaaGreat
open Go Go.Ab Go.Cod
set_option maxRecDepth 100000
section
variable (σ : St)
theorem dbits_ans (a : Nat) : Ans Tryz.prog 48 [Fl a] σ (UN (bitsF a)) σ := by
 refine Ans.of_run t48 ?_
 unfold bitsF
 simp -implicitDefEqProofs only [c48, r48, go_sem, nanF_def]
 cases nanF a with
 | true =>
   simp -implicitDefEqProofs only [go_sem]
   exact Fini.ret rfl
 | false =>
   simp -implicitDefEqProofs only [go_sem]
   refine CO.intro (f64bits_ans σ a) ?_
   simp -implicitDefEqProofs only [go_sem]
   exact Fini.ret rfl
theorem dmay_ans (any : Bool) (lo hi : Nat) : Ans Tryz.prog 120 [.agg [Bo any, Fl lo, Fl hi]] σ (Bo (mayB any lo hi)) σ := by
 refine Ans.of_run t120 ?_
 unfold mayB
 cases any with
 | true =>
   simp -implicitDefEqProofs only [c120, r120, go_sem]
   refine CO.intro (dbits_ans σ lo) ?_
   cases h : (((bitsF lo : Nat) : Int) == 0) with
   | false =>
     simp -implicitDefEqProofs only [go_sem, h]
     exact Fini.ret rfl
   | true =>
     simp -implicitDefEqProofs only [go_sem, h]
     refine CO.intro (dbits_ans σ hi) ?_
     simp -implicitDefEqProofs only [go_sem, h]
     exact Fini.ret rfl
 | false =>
   simp -implicitDefEqProofs only [c120, r120, go_sem, leF_def]
   exact Fini.ret rfl
structure RSm (r : RuM) : Prop where
 src : ∀ x ∈ r.src, x.2.1.size ≤ 100000
 tgt : ∀ x ∈ r.tgt, x.2.1.size ≤ 100000
 eq : ∀ s ∈ r.eq, s.size ≤ 100000
theorem druis_ans (r : RuM) (hr : RSm r) : Ans Tryz.prog 67 [ruV r] σ (Bo (ruIs r)) σ := by
 obtain ⟨src, tgt, any, lo, hi, eq⟩ := r
 obtain ⟨hs, ht, he⟩ := hr
 simp only at hs ht he
 have d4 : decide ((4 : Int) < eq.length) = decide (4 < eq.length) := decNN 4 _
 refine Ans.of_run t67 ?_
 unfold ruIs ruV
 simp only
 cases h1 : (((src.length : Nat) : Int) == 0) with
 | true =>
   simp -implicitDefEqProofs only [c67, r67, go_sem, mvs3_len, h1]
   exact Fini.ret rfl
 | false =>
 cases h2 : (((tgt.length : Nat) : Int) == 0) with
 | true =>
   simp -implicitDefEqProofs only [c67, r67, go_sem, mvs3_len, h1, h2]
   exact Fini.ret rfl
 | false =>
 simp -implicitDefEqProofs only [c67, r67, go_sem, mvs3_len, h1, h2]
 refine CO.intro (dlist_ans σ src hs) ?_
 cases h3 : listB src with
 | false =>
   simp -implicitDefEqProofs only [go_sem]
   exact Fini.ret rfl
 | true =>
 simp -implicitDefEqProofs only [go_sem]
 refine CO.intro (dlist_ans σ tgt ht) ?_
 cases h4 : listB tgt with
 | false =>
   simp -implicitDefEqProofs only [go_sem]
   exact Fini.ret rfl
 | true =>
 simp -implicitDefEqProofs only [go_sem]
 refine CO.intro (dmay_ans σ any lo hi) ?_
 cases h5 : mayB any lo hi with
 | false =>
   simp -implicitDefEqProofs only [go_sem]
   exact Fini.ret rfl
 | true =>
 unfold eqB
 by_cases h6 : eq.length ≤ 4
 · have x4 : decide (4 < eq.length) = false := decide_eq_false (by omega)
   rw [decide_eq_true h6]
   simp -implicitDefEqProofs only [go_sem, txs_len, d4, x4]
   refine Go.Ab.L.scan eq.length (eqOk eq) (fun i => mkE 70 [(1, .rp [.sl 3 (mvs3 src), .sl 3 (mvs3 tgt), Bo any, Fl lo, Fl hi, .sl 1 (txs eq)]), (3, I i)]) (fun _ => σ) ?_ ?_ rfl rfl
   · intro i hi hp J hJ
     have hx := txs_D eq i hi
     have hsz : (eq.getD i ⟨#[]⟩).size ≤ 100000 := by
      rw [List.getD_eq_getElem?_getD, List.getElem?_eq_getElem hi]; exact he _ (List.getElem_mem hi)
     have hF : eqOk eq i = false → (List.range eq.length).all (eqOk eq) = false := fun h => List.all_eq_false.2 ⟨i, List.mem_range.2 hi, by rw [h]; decide⟩
     have hin := wrap_succ (i := i) (by omega)
     have d0 : decide ((0 : Int) < i) = decide (0 < i) := by rw [Bool.eq_iff_iff]; simp
     have hO : eqOk eq i = (nameB (eq.getD i ⟨#[]⟩) && !(decide (0 < i) && leS (eq.getD i ⟨#[]⟩) (eq.getD (i - 1) ⟨#[]⟩))) := rfl
     rw [hO] at hJ hF
     have hnm := fun σ => dname_ans σ (eq.getD i ⟨#[]⟩) hsz
     simp -implicitDefEqProofs only [mkE, go_sem, txs_len, nat_lt hi, dec_lt hi, hx, D_callS]
     first | refine CD.intro (hnm _) ?_ | refine CS.intro hnm ?_
     generalize eq.getD i ⟨#[]⟩ = s at hJ hF hx
     cases hb : nameB s with
     | false =>
       rw [hb] at hF
       rw [hF rfl]
       simp -implicitDefEqProofs only [go_sem]
       exact Fini.ret rfl
     | true =>
       rw [hb] at hJ hF
       by_cases hz : i = 0
       · subst hz
         have hgo := hJ rfl
         simp -implicitDefEqProofs only [go_sem, d0, hin]
         exact hgo
       · have hpos : decide (0 < i) = true := decide_eq_true (by omega)
         have hx1 := txs_D eq (i - 1) (by omega)
         have w1 : IntKind.i64.wrap ((i : Int) - 1) = ((i - 1 : Nat) : Int) := by rw [wrapN (by omega) (by omega)]; omega
         have hlt1 : (((i - 1 : Nat) : Int) < eq.length) = True := by simp; omega
         rw [hpos] at hJ hF
         generalize eq.getD (i - 1) ⟨#[]⟩ = s1 at hJ hF hx1
         have hle : (Op.bytesLess s.toList s1.toList || s.toList == s1.toList) = leS s s1 := rfl
         simp -implicitDefEqProofs only [go_sem, d0, hpos, w1, txs_len, hlt1, hx1, hx, nat_lt hi, hle]
         cases h7 : leS s s1 with
         | true =>
           rw [h7] at hF
           rw [hF rfl]
           simp -implicitDefEqProofs only [go_sem]
           exact Fini.ret rfl
         | false =>
           rw [h7] at hJ
           have hgo := hJ rfl
           simp -implicitDefEqProofs only [go_sem, hin]
           exact hgo
   · intro hp J
     have hd : decide ((eq.length : Int) < eq.length) = false := by simp
     simp -implicitDefEqProofs only [mkE, go_sem, txs_len, hd]
     refine Fini.ret' rfl (bo_congr ?_)
     exact (List.all_eq_true.2 fun i hi => hp i (List.mem_range.1 hi)).symm
 · have x4 : decide (4 < eq.length) = true := decide_eq_true (by omega)
   rw [decide_eq_false h6]
   simp -implicitDefEqProofs only [go_sem, txs_len, d4, x4]
   exact Fini.ret rfl
end
end Go.Proofs.YtmkmhhjkdaklbaaGreat
namespace Go.Proofs.YtmkmhhjkdaklbaaGreat
open Go Go.Ab
set_option maxRecDepth 100000
def c18 : ACode :=
 (.seq (.ops [⟨some 2, none, .prim (.allocm [.nils, .nils, .pl (.bool false), .pl (.float .f64 0), .pl (.float .f64 0), .nils])⟩,
 ⟨some 3, none, .prim (.mov (.const (.int .i64 0)))⟩,
 ⟨some 4, none, .prim (.mov (.const (.bool false)))⟩])
 (.seq (.ops [⟨some 17, none, .prim (.build [.nils, .nils, .pl (.bool false), .pl (.float .f64 0), .pl (.float .f64 0), .nils] [])⟩,
 ⟨some 5, none, .fresh 6 5 (.tmp 17)⟩])
 (.seq (.ops [⟨some 18, none, .prim (.build [.nils, .nils, .pl (.bool false), .pl (.float .f64 0), .pl (.float .f64 0), .nils] [])⟩,
 ⟨some 6, none, .prim (.allocm [.nils, .nils, .pl (.bool false), .pl (.float .f64 0), .pl (.float .f64 0), .nils])⟩,
 ⟨none, none, .prim (.store 6 (.tmp 6) (.tmp 18))⟩])
 (.seq (.ops [⟨some 20, none, .prim (.mov (.tmp 0))⟩,
 ⟨some 21, none, .call (.func 63) [(.tmp 20)]⟩,
 ⟨some 19, none, .prim (.mov (.tmp 21))⟩,
 ⟨some 22, none, .prim (.extr 0 (.tmp 19))⟩,
 ⟨some 23, none, .prim (.extr 1 (.tmp 19))⟩,
 ⟨some 24, none, .prim (.extr 2 (.tmp 19))⟩,
 ⟨some 7, none, .prim (.mov (.tmp 22))⟩,
 ⟨some 8, none, .prim (.mov (.tmp 23))⟩,
 ⟨some 9, none, .prim (.mov (.tmp 24))⟩])
 (.seq (.seq (.ops [⟨some 25, none, .prim (.mov (.tmp 9))⟩,
 ⟨some 26, none, .prim (.un .not (.tmp 25))⟩])
 (.cond (.tmp 26)
 (.seq (.ops [⟨some 27, none, .prim (.load 6 true (.tmp 5))⟩,
 ⟨none, none, .prim (.store 6 (.tmp 2) (.tmp 27))⟩,
 ⟨some 3, none, .prim (.mov (.const (.int .i64 0)))⟩,
 ⟨some 4, none, .prim (.mov (.const (.bool false)))⟩])
 .ret)
 .skip))
 (.seq (.ops [⟨some 28, none, .prim (.mov (.tmp 7))⟩,
 ⟨some 29, none, .prim (.fadr 0 (.tmp 6))⟩,
 ⟨none, none, .prim (.store 1 (.tmp 29) (.tmp 28))⟩])
 (.seq (.ops [⟨some 31, none, .prim (.mov (.tmp 0))⟩,
 ⟨some 32, none, .prim (.mov (.tmp 8))⟩,
 ⟨some 33, none, .prim (.slcv 1 (.tmp 31) (some (.tmp 32)) none)⟩,
 ⟨some 34, none, .call (.func 63) [(.tmp 33)]⟩,
 ⟨some 30, none, .prim (.mov (.tmp 34))⟩,
 ⟨some 35, none, .prim (.extr 0 (.tmp 30))⟩,
 ⟨some 36, none, .prim (.extr 1 (.tmp 30))⟩,
 ⟨some 37, none, .prim (.extr 2 (.tmp 30))⟩,
 ⟨some 7, none, .prim (.mov (.tmp 35))⟩,
 ⟨some 10, none, .prim (.mov (.tmp 36))⟩,
 ⟨some 9, none, .prim (.mov (.tmp 37))⟩])
 (.seq (.seq (.ops [⟨some 38, none, .prim (.mov (.tmp 9))⟩,
 ⟨some 39, none, .prim (.un .not (.tmp 38))⟩])
 (.cond (.tmp 39)
 (.seq (.ops [⟨some 40, none, .prim (.load 6 true (.tmp 5))⟩,
 ⟨none, none, .prim (.store 6 (.tmp 2) (.tmp 40))⟩,
 ⟨some 3, none, .prim (.mov (.const (.int .i64 0)))⟩,
 ⟨some 4, none, .prim (.mov (.const (.bool false)))⟩])
 .ret)
 .skip))
 (.seq (.ops [⟨some 41, none, .prim (.mov (.tmp 7))⟩,
 ⟨some 42, none, .prim (.fadr 1 (.tmp 6))⟩,
 ⟨none, none, .prim (.store 1 (.tmp 42) (.tmp 41))⟩])
 (.seq (.ops [⟨some 43, none, .prim (.mov (.tmp 8))⟩,
 ⟨some 44, none, .prim (.mov (.tmp 10))⟩,
 ⟨some 45, none, .prim (.bin false .add (.tmp 43) (.tmp 44))⟩,
 ⟨some 8, none, .prim (.mov (.tmp 45))⟩])
 (.seq (.ops [⟨some 47, none, .prim (.mov (.tmp 0))⟩,
 ⟨some 48, none, .prim (.mov (.tmp 8))⟩,
 ⟨some 49, none, .prim (.slcv 1 (.tmp 47) (some (.tmp 48)) none)⟩,
 ⟨some 50, none, .call (.func 64) [(.tmp 49)]⟩,
 ⟨some 46, none, .prim (.mov (.tmp 50))⟩,
 ⟨some 51, none, .prim (.extr 0 (.tmp 46))⟩,
 ⟨some 52, none, .prim (.extr 1 (.tmp 46))⟩,
 ⟨some 53, none, .prim (.extr 2 (.tmp 46))⟩,
 ⟨some 11, none, .fresh 3 11 (.tmp 51)⟩,
 ⟨some 10, none, .prim (.mov (.tmp 52))⟩,
 ⟨some 9, none, .prim (.mov (.tmp 53))⟩])
 (.seq (.seq (.ops [⟨some 54, none, .prim (.mov (.tmp 9))⟩,
 ⟨some 55, none, .prim (.un .not (.tmp 54))⟩])
 (.cond (.tmp 55)
 (.seq (.ops [⟨some 56, none, .prim (.load 6 true (.tmp 5))⟩,
 ⟨none, none, .prim (.store 6 (.tmp 2) (.tmp 56))⟩,
 ⟨some 3, none, .prim (.mov (.const (.int .i64 0)))⟩,
 ⟨some 4, none, .prim (.mov (.const (.bool false)))⟩])
 .ret)
 .skip))
 (.seq (.ops [⟨some 57, none, .prim (.load 3 true (.tmp 11))⟩,
 ⟨some 58, none, .prim (.fadr 2 (.tmp 6))⟩,
 ⟨none, none, .prim (.store 3 (.tmp 58) (.tmp 57))⟩])
 (.seq (.ops [⟨some 59, none, .prim (.mov (.tmp 8))⟩,
 ⟨some 60, none, .prim (.mov (.tmp 10))⟩,
 ⟨some 61, none, .prim (.bin false .add (.tmp 59) (.tmp 60))⟩,
 ⟨some 8, none, .prim (.mov (.tmp 61))⟩])
 (.seq (.ops [⟨some 63, none, .prim (.mov (.tmp 0))⟩,
 ⟨some 64, none, .prim (.mov (.tmp 8))⟩,
 ⟨some 65, none, .prim (.slcv 1 (.tmp 63) (some (.tmp 64)) none)⟩,
 ⟨some 66, none, .call (.func 65) [(.tmp 65)]⟩,
 ⟨some 62, none, .prim (.mov (.tmp 66))⟩,
 ⟨some 67, none, .prim (.extr 0 (.tmp 62))⟩,
 ⟨some 68, none, .prim (.extr 1 (.tmp 62))⟩,
 ⟨some 69, none, .prim (.extr 2 (.tmp 62))⟩,
 ⟨some 12, none, .prim (.mov (.tmp 67))⟩,
 ⟨some 10, none, .prim (.mov (.tmp 68))⟩,
 ⟨some 9, none, .prim (.mov (.tmp 69))⟩])
 (.seq (.seq (.ops [⟨some 70, none, .prim (.mov (.tmp 9))⟩,
 ⟨some 71, none, .prim (.un .not (.tmp 70))⟩,
 ⟨some 72, none, .prim (.mov (.tmp 71))⟩,
 ⟨some 73, (some (72, false)), .prim (.mov (.tmp 12))⟩,
 ⟨some 74, (some (72, false)), .prim (.bin false .gtr (.tmp 73) (.const (.int .u64 4)))⟩,
 ⟨some 75, none, .prim (.pick (.tmp 72) (.const (.bool true)) (.tmp 74))⟩])
 (.cond (.tmp 75)
 (.seq (.ops [⟨some 76, none, .prim (.load 6 true (.tmp 5))⟩,
 ⟨none, none, .prim (.store 6 (.tmp 2) (.tmp 76))⟩,
 ⟨some 3, none, .prim (.mov (.const (.int .i64 0)))⟩,
 ⟨some 4, none, .prim (.mov (.const (.bool false)))⟩])
 .ret)
 .skip))
 (.seq (.ops [⟨some 77, none, .prim (.mov (.tmp 8))⟩,
 ⟨some 78, none, .prim (.mov (.tmp 10))⟩,
 ⟨some 79, none, .prim (.bin false .add (.tmp 77) (.tmp 78))⟩,
 ⟨some 8, none, .prim (.mov (.tmp 79))⟩])
 (.seq (.seq (.ops [⟨some 13, none, .prim (.mov (.const (.int .i64 0)))⟩])
 (.block 0 (.loop [1, 3, 4, 7, 9, 10, 11, 14, 15, 16, 17, 18, 19, 20, 21, 22, 23, 24, 25, 26, 27, 28, 29, 30, 31, 32, 33, 34, 35, 36, 37, 38, 39, 40, 41, 42, 43, 44, 45, 46, 47, 48, 49, 50, 51, 52, 53, 54, 55, 56, 57, 58, 59, 60, 61, 62, 63, 64, 65, 66, 67, 68, 69, 70, 71, 72, 73, 74, 75, 76, 77, 78, 79, 80, 81, 82, 83, 84, 85, 86, 87, 88, 89, 90, 91, 92, 93, 94, 95, 96, 97, 98, 99, 100, 101, 102, 103, 104, 105, 106, 107, 108, 109, 110, 111] (.seq (.seq (.ops [⟨some 80, none, .prim (.mov (.tmp 13))⟩,
 ⟨some 81, none, .prim (.mov (.tmp 12))⟩,
 ⟨some 82, none, .prim (.convi .i64 (.tmp 81))⟩,
 ⟨some 83, none, .prim (.bin false .lss (.tmp 80) (.tmp 82))⟩])
 (.cond (.tmp 83)
 .skip
 (.exit 0)))
 (.seq (.block 1 (.seq (.ops [⟨some 87, none, .prim (.mov (.tmp 0))⟩,
 ⟨some 88, none, .prim (.mov (.tmp 8))⟩,
 ⟨some 89, none, .prim (.slcv 1 (.tmp 87) (some (.tmp 88)) none)⟩,
 ⟨some 90, none, .call (.func 66) [(.tmp 89), (.const (.int .i64 12))]⟩,
 ⟨some 86, none, .prim (.mov (.tmp 90))⟩,
 ⟨some 91, none, .prim (.extr 0 (.tmp 86))⟩,
 ⟨some 92, none, .prim (.extr 1 (.tmp 86))⟩,
 ⟨some 93, none, .prim (.extr 2 (.tmp 86))⟩,
 ⟨some 14, none, .prim (.mov (.tmp 91))⟩,
 ⟨some 15, none, .prim (.mov (.tmp 92))⟩,
 ⟨some 16, none, .prim (.mov (.tmp 93))⟩])
 (.seq (.seq (.ops [⟨some 94, none, .prim (.mov (.tmp 16))⟩,
 ⟨some 95, none, .prim (.un .not (.tmp 94))⟩])
 (.cond (.tmp 95)
 (.seq (.ops [⟨some 96, none, .prim (.load 6 true (.tmp 5))⟩,
 ⟨none, none, .prim (.store 6 (.tmp 2) (.tmp 96))⟩,
 ⟨some 3, none, .prim (.mov (.const (.int .i64 0)))⟩,
 ⟨some 4, none, .prim (.mov (.const (.bool false)))⟩])
 .ret)
 .skip))
 (.seq (.ops [⟨some 97, none, .prim (.mov (.tmp 8))⟩,
 ⟨some 98, none, .prim (.mov (.tmp 15))⟩,
 ⟨some 99, none, .prim (.bin false .add (.tmp 97) (.tmp 98))⟩,
 ⟨some 8, none, .prim (.mov (.tmp 99))⟩])
 (.ops [⟨some 100, none, .prim (.fadr 5 (.tmp 6))⟩,
 ⟨some 101, none, .prim (.load 1 false (.tmp 100))⟩,
 ⟨some 102, none, .prim (.mov (.tmp 14))⟩,
 ⟨some 103, none, .prim (.bsl false 1 false 1 [.pl (.string .empty)] [(0, 1, (.tmp 102))])⟩,
 ⟨some 104, none, .prim (.app 1 (.tmp 101) (.tmp 103))⟩,
 ⟨some 105, none, .prim (.fadr 5 (.tmp 6))⟩,
 ⟨none, none, .prim (.store 1 (.tmp 105) (.tmp 104))⟩])))))
 (.ops [⟨some 84, none, .prim (.mov (.tmp 13))⟩,
 ⟨some 85, none, .prim (.bin false .add (.tmp 84) (.const (.int .i64 1)))⟩,
 ⟨some 13, none, .prim (.mov (.tmp 85))⟩]))))))
 (.seq (.seq (.ghost (.shutc 6 5 1) (.ops [⟨some 106, none, .prim (.load 6 true (.tmp 6))⟩,
 ⟨some 107, none, .call (.func 67) [(.tmp 106)]⟩,
 ⟨some 108, none, .prim (.un .not (.tmp 107))⟩]))
 (.cond (.tmp 108)
 (.seq (.ops [⟨some 109, none, .prim (.load 6 true (.tmp 5))⟩,
 ⟨none, none, .prim (.store 6 (.tmp 2) (.tmp 109))⟩,
 ⟨some 3, none, .prim (.mov (.const (.int .i64 0)))⟩,
 ⟨some 4, none, .prim (.mov (.const (.bool false)))⟩])
 .ret)
 .skip))
 (.seq (.ops [⟨some 110, none, .prim (.load 6 true (.tmp 6))⟩,
 ⟨some 111, none, .prim (.mov (.tmp 8))⟩,
 ⟨none, none, .prim (.store 6 (.tmp 2) (.tmp 110))⟩,
 ⟨some 3, none, .prim (.mov (.tmp 111))⟩,
 ⟨some 4, none, .prim (.mov (.const (.bool true)))⟩])
 .ret))))))))))))))))))))
def o18 : List Tmp := [2, 6]
def r18 : List RV := [.cell 2 6 true, .tmp 3, .tmp 4]
theorem t18 : Text Tryz.prog 18 o18 c18 r18 112 := ⟨⟨Tryz.f18, _, by kernel_rfl, by kernel_rfl, rfl, by kernel_rfl, by kernel_rfl, rfl⟩, by kernel_rfl⟩
def c20 : ACode :=
 (.seq (.ops [⟨some 1, none, .prim (.boxr (.tmp 0))⟩,
 ⟨some 2, none, .prim (.mov (.const (.slice none 0 0)))⟩])
 (.seq (.seq (.ops [⟨some 5, none, .prim (.load 6 true (.tmp 1))⟩,
 ⟨some 6, none, .call (.func 67) [(.tmp 5)]⟩,
 ⟨some 7, none, .prim (.un .not (.tmp 6))⟩])
 (.cond (.tmp 7)
 (.seq (.ops [⟨some 2, none, .prim (.mov (.const (.slice none 0 0)))⟩])
 (.ghost (.shut 2) .ret))
 .skip))
 (.seq (.draw [⟨⟨some 8, none, .prim (.fadr 0 (.tmp 1))⟩, [], false, 0, 0⟩,
 ⟨⟨some 9, none, .prim (.load 1 false (.tmp 8))⟩, [0], false, 0, 0⟩,
 ⟨⟨some 10, none, .call (.func 73) [(.tmp 9)]⟩, [0, 1], true, 0, 0⟩,
 ⟨⟨some 11, none, .prim (.fadr 1 (.tmp 1))⟩, [], false, 0, 1⟩,
 ⟨⟨some 12, none, .prim (.load 1 false (.tmp 11))⟩, [3], false, 0, 1⟩,
 ⟨⟨some 13, none, .call (.func 73) [(.tmp 12)]⟩, [0, 1, 2, 3, 4], true, 0, 0⟩,
 ⟨⟨some 14, none, .prim (.app 1 (.tmp 10) (.tmp 13))⟩, (List.range 6), true, 0, 0⟩,
 ⟨⟨some 15, none, .prim (.fadr 2 (.tmp 1))⟩, [], false, 0, 3⟩,
 ⟨⟨some 16, none, .prim (.load 3 true (.tmp 15))⟩, [7], false, 0, 3⟩,
 ⟨⟨some 17, none, .call (.func 74) [(.tmp 16)]⟩, (List.range 9), true, 0, 0⟩,
 ⟨⟨some 18, none, .prim (.app 1 (.tmp 14) (.tmp 17))⟩, (List.range 10), true, 0, 0⟩,
 ⟨⟨some 3, none, .prim (.mov (.tmp 18))⟩, (List.range 11), false, 5, 5⟩])
 (.seq (.ops [⟨some 19, none, .prim (.mov (.tmp 3))⟩,
 ⟨some 20, none, .prim (.fadr 5 (.tmp 1))⟩,
 ⟨some 21, none, .prim (.load 1 false (.tmp 20))⟩,
 ⟨some 22, none, .prim (.lenv (.tmp 21))⟩,
 ⟨some 23, none, .prim (.convi .u64 (.tmp 22))⟩,
 ⟨some 24, none, .call (.func 75) [(.tmp 23)]⟩,
 ⟨some 25, none, .prim (.app 1 (.tmp 19) (.tmp 24))⟩,
 ⟨some 3, none, .prim (.mov (.tmp 25))⟩])
 (.seq (.seq (.ops [⟨some 4, none, .prim (.mov (.const (.int .i64 0)))⟩])
 (.block 0 (.loop [0, 2, 5, 6, 7, 8, 9, 10, 11, 12, 13, 14, 15, 16, 17, 18, 19, 20, 21, 22, 23, 24, 25, 26, 27, 28, 29, 30, 31, 32, 33, 34, 35, 36, 37, 38, 39, 40, 41] (.seq (.seq (.ops [⟨some 26, none, .prim (.mov (.tmp 4))⟩,
 ⟨some 27, none, .prim (.fadr 5 (.tmp 1))⟩,
 ⟨some 28, none, .prim (.load 1 false (.tmp 27))⟩,
 ⟨some 29, none, .prim (.lenv (.tmp 28))⟩,
 ⟨some 30, none, .prim (.bin false .lss (.tmp 26) (.tmp 29))⟩])
 (.cond (.tmp 30)
 .skip
 (.exit 0)))
 (.seq (.block 1 (.ops [⟨some 33, none, .prim (.mov (.tmp 3))⟩,
 ⟨some 34, none, .prim (.fadr 5 (.tmp 1))⟩,
 ⟨some 35, none, .prim (.load 1 false (.tmp 34))⟩,
 ⟨some 36, none, .prim (.mov (.tmp 4))⟩,
 ⟨some 37, none, .prim (.iadrs 1 (.tmp 35) (.tmp 36))⟩,
 ⟨some 38, none, .prim (.load 1 false (.tmp 37))⟩,
 ⟨some 39, none, .call (.func 76) [(.tmp 38)]⟩,
 ⟨some 40, none, .prim (.app 1 (.tmp 33) (.tmp 39))⟩,
 ⟨some 3, none, .prim (.mov (.tmp 40))⟩]))
 (.ops [⟨some 31, none, .prim (.mov (.tmp 4))⟩,
 ⟨some 32, none, .prim (.bin false .add (.tmp 31) (.const (.int .i64 1)))⟩,
 ⟨some 4, none, .prim (.mov (.tmp 32))⟩]))))))
 (.seq (.ops [⟨some 41, none, .prim (.mov (.tmp 3))⟩,
 ⟨some 2, none, .prim (.mov (.tmp 41))⟩])
 (.ghost (.shut 2) .ret)))))))
def o20 : List Tmp := []
def r20 : List RV := [.tmp 2]
theorem t20 : Text Tryz.prog 20 o20 c20 r20 42 := ⟨⟨Tryz.f20, _, by kernel_rfl, by kernel_rfl, rfl, by kernel_rfl, by kernel_rfl, rfl⟩, by kernel_rfl⟩
def c21 : ACode :=
 (.seq (.ops [⟨some 2, none, .prim (.boxr (.tmp 0))⟩,
 ⟨some 3, none, .prim (.boxr (.tmp 1))⟩,
 ⟨some 4, none, .prim (.mov (.const (.bool false)))⟩])
 (.seq (.seq (.ops [⟨some 6, none, .prim (.fadr 5 (.tmp 2))⟩,
 ⟨some 7, none, .prim (.load 1 false (.tmp 6))⟩,
 ⟨some 8, none, .prim (.lenv (.tmp 7))⟩,
 ⟨some 9, none, .prim (.fadr 5 (.tmp 3))⟩,
 ⟨some 10, none, .prim (.load 1 false (.tmp 9))⟩,
 ⟨some 11, none, .prim (.lenv (.tmp 10))⟩,
 ⟨some 12, none, .prim (.bin false .neq (.tmp 8) (.tmp 11))⟩,
 ⟨some 13, none, .prim (.mov (.tmp 12))⟩,
 ⟨some 14, (some (13, false)), .prim (.fadr 0 (.tmp 2))⟩,
 ⟨some 15, (some (13, false)), .prim (.load 1 false (.tmp 14))⟩,
 ⟨some 16, (some (13, false)), .prim (.fadr 0 (.tmp 3))⟩,
 ⟨some 17, (some (13, false)), .prim (.load 1 false (.tmp 16))⟩,
 ⟨some 18, (some (13, false)), .call (.func 77) [(.tmp 15), (.tmp 17)]⟩,
 ⟨some 19, (some (13, false)), .prim (.un .not (.tmp 18))⟩,
 ⟨some 20, none, .prim (.pick (.tmp 13) (.const (.bool true)) (.tmp 19))⟩,
 ⟨some 21, none, .prim (.mov (.tmp 20))⟩,
 ⟨some 22, (some (21, false)), .prim (.fadr 1 (.tmp 2))⟩,
 ⟨some 23, (some (21, false)), .prim (.load 1 false (.tmp 22))⟩,
 ⟨some 24, (some (21, false)), .prim (.fadr 1 (.tmp 3))⟩,
 ⟨some 25, (some (21, false)), .prim (.load 1 false (.tmp 24))⟩,
 ⟨some 26, (some (21, false)), .call (.func 77) [(.tmp 23), (.tmp 25)]⟩,
 ⟨some 27, (some (21, false)), .prim (.un .not (.tmp 26))⟩,
 ⟨some 28, none, .prim (.pick (.tmp 21) (.const (.bool true)) (.tmp 27))⟩,
 ⟨some 29, none, .prim (.mov (.tmp 28))⟩,
 ⟨some 30, (some (29, false)), .prim (.fadr 2 (.tmp 2))⟩,
 ⟨some 31, (some (29, false)), .prim (.load 3 true (.tmp 30))⟩,
 ⟨some 32, (some (29, false)), .prim (.fadr 2 (.tmp 3))⟩,
 ⟨some 33, (some (29, false)), .prim (.load 3 true (.tmp 32))⟩,
 ⟨some 34, (some (29, false)), .call (.func 78) [(.tmp 31), (.tmp 33)]⟩,
 ⟨some 35, (some (29, false)), .prim (.un .not (.tmp 34))⟩,
 ⟨some 36, none, .prim (.pick (.tmp 29) (.const (.bool true)) (.tmp 35))⟩])
 (.cond (.tmp 36)
 (.seq (.ops [⟨some 4, none, .prim (.mov (.const (.bool false)))⟩])
 .ret)
 .skip))
 (.seq (.seq (.ops [⟨some 5, none, .prim (.mov (.const (.int .i64 0)))⟩])
 (.block 0 (.loop [0, 1, 4, 6, 7, 8, 9, 10, 11, 12, 13, 14, 15, 16, 17, 18, 19, 20, 21, 22, 23, 24, 25, 26, 27, 28, 29, 30, 31, 32, 33, 34, 35, 36, 37, 38, 39, 40, 41, 42, 43, 44, 45, 46, 47, 48, 49, 50, 51, 52, 53, 54] (.seq (.seq (.ops [⟨some 37, none, .prim (.mov (.tmp 5))⟩,
 ⟨some 38, none, .prim (.fadr 5 (.tmp 2))⟩,
 ⟨some 39, none, .prim (.load 1 false (.tmp 38))⟩,
 ⟨some 40, none, .prim (.lenv (.tmp 39))⟩,
 ⟨some 41, none, .prim (.bin false .lss (.tmp 37) (.tmp 40))⟩])
 (.cond (.tmp 41)
 .skip
 (.exit 0)))
 (.seq (.block 1 (.seq (.draw [⟨⟨some 44, none, .prim (.fadr 5 (.tmp 2))⟩, [], false, 0, 0⟩,
 ⟨⟨some 45, none, .prim (.load 1 false (.tmp 44))⟩, [0], false, 0, 0⟩,
 ⟨⟨some 46, none, .prim (.mov (.tmp 5))⟩, [], false, 0, 0⟩,
 ⟨⟨some 47, none, .prim (.iadrs 1 (.tmp 45) (.tmp 46))⟩, [0, 1, 2], false, 0, 0⟩,
 ⟨⟨some 48, none, .prim (.load 1 false (.tmp 47))⟩, [0, 1, 2, 3], false, 0, 0⟩,
 ⟨⟨some 49, none, .prim (.fadr 5 (.tmp 3))⟩, [], false, 0, 0⟩,
 ⟨⟨some 50, none, .prim (.load 1 false (.tmp 49))⟩, [5], false, 0, 0⟩,
 ⟨⟨some 51, none, .prim (.mov (.tmp 5))⟩, [], false, 0, 0⟩,
 ⟨⟨some 52, none, .prim (.iadrs 1 (.tmp 50) (.tmp 51))⟩, [5, 6, 7], false, 0, 0⟩,
 ⟨⟨some 53, none, .prim (.load 1 false (.tmp 52))⟩, [5, 6, 7, 8], false, 0, 0⟩,
 ⟨⟨some 54, none, .prim (.bin false .neq (.tmp 48) (.tmp 53))⟩, (List.range 10), false, 0, 0⟩])
 (.cond (.tmp 54)
 (.seq (.ops [⟨some 4, none, .prim (.mov (.const (.bool false)))⟩])
 .ret)
 .skip)))
 (.ops [⟨some 42, none, .prim (.mov (.tmp 5))⟩,
 ⟨some 43, none, .prim (.bin false .add (.tmp 42) (.const (.int .i64 1)))⟩,
 ⟨some 5, none, .prim (.mov (.tmp 43))⟩]))))))
 (.seq (.ops [⟨some 4, none, .prim (.mov (.const (.bool true)))⟩])
 .ret))))
def o21 : List Tmp := []
def r21 : List RV := [.tmp 4]
theorem t21 : Text Tryz.prog 21 o21 c21 r21 55 := ⟨⟨Tryz.f21, _, by kernel_rfl, by kernel_rfl, rfl, by kernel_rfl, by kernel_rfl, rfl⟩, by kernel_rfl⟩
def c64 : ACode :=
 (.seq (.ops [⟨some 2, none, .prim (.allocm [.pl (.bool false), .pl (.float .f64 0), .pl (.float .f64 0)])⟩,
 ⟨some 3, none, .prim (.mov (.const (.int .i64 0)))⟩,
 ⟨some 4, none, .prim (.mov (.const (.bool false)))⟩])
 (.seq (.seq (.ops [⟨some 14, none, .prim (.mov (.tmp 0))⟩,
 ⟨some 15, none, .prim (.lenv (.tmp 14))⟩,
 ⟨some 16, none, .prim (.bin false .gtr (.tmp 15) (.const (.int .i64 0)))⟩,
 ⟨some 17, none, .prim (.mov (.tmp 16))⟩,
 ⟨some 18, (some (17, true)), .prim (.mov (.tmp 0))⟩,
 ⟨some 19, (some (17, true)), .prim (.iadrs 1 (.tmp 18) (.const (.int .i64 0)))⟩,
 ⟨some 20, (some (17, true)), .prim (.load 1 false (.tmp 19))⟩,
 ⟨some 21, (some (17, true)), .prim (.bin false .eql (.tmp 20) (.const (.int .u8 1)))⟩,
 ⟨some 22, none, .prim (.pick (.tmp 17) (.tmp 21) (.const (.bool false)))⟩])
 (.cond (.tmp 22)
 (.seq (.ops [⟨some 23, none, .prim (.build [.pl (.bool false), .pl (.float .f64 0), .pl (.float .f64 0)] [(0, 1, (.const (.bool true)))])⟩,
 ⟨none, none, .prim (.store 3 (.tmp 2) (.tmp 23))⟩,
 ⟨some 3, none, .prim (.mov (.const (.int .i64 1)))⟩,
 ⟨some 4, none, .prim (.mov (.const (.bool true)))⟩])
 .ret)
 .skip))
 (.seq (.seq (.ops [⟨some 24, none, .prim (.mov (.tmp 0))⟩,
 ⟨some 25, none, .prim (.lenv (.tmp 24))⟩,
 ⟨some 26, none, .prim (.bin false .lss (.tmp 25) (.const (.int .i64 17)))⟩,
 ⟨some 27, none, .prim (.mov (.tmp 26))⟩,
 ⟨some 28, (some (27, false)), .prim (.mov (.tmp 0))⟩,
 ⟨some 29, (some (27, false)), .prim (.iadrs 1 (.tmp 28) (.const (.int .i64 0)))⟩,
 ⟨some 30, (some (27, false)), .prim (.load 1 false (.tmp 29))⟩,
 ⟨some 31, (some (27, false)), .prim (.bin false .neq (.tmp 30) (.const (.int .u8 0)))⟩,
 ⟨some 32, none, .prim (.pick (.tmp 27) (.const (.bool true)) (.tmp 31))⟩])
 (.cond (.tmp 32)
 (.seq (.ops [⟨some 33, none, .prim (.build [.pl (.bool false), .pl (.float .f64 0), .pl (.float .f64 0)] [])⟩,
 ⟨none, none, .prim (.store 3 (.tmp 2) (.tmp 33))⟩,
 ⟨some 3, none, .prim (.mov (.const (.int .i64 0)))⟩,
 ⟨some 4, none, .prim (.mov (.const (.bool false)))⟩])
 .ret)
 .skip))
 (.seq (.ops [⟨some 35, none, .prim (.mov (.tmp 0))⟩,
 ⟨some 36, none, .prim (.slcv 1 (.tmp 35) (some (.const (.int .i64 1))) none)⟩,
 ⟨some 37, none, .call (.func 118) [(.tmp 36)]⟩,
 ⟨some 34, none, .prim (.mov (.tmp 37))⟩,
 ⟨some 38, none, .prim (.extr 0 (.tmp 34))⟩,
 ⟨some 39, none, .prim (.extr 1 (.tmp 34))⟩,
 ⟨some 5, none, .prim (.mov (.tmp 38))⟩,
 ⟨some 6, none, .prim (.mov (.tmp 39))⟩])
 (.seq (.ops [⟨some 41, none, .prim (.mov (.tmp 0))⟩,
 ⟨some 42, none, .prim (.slcv 1 (.tmp 41) (some (.const (.int .i64 9))) none)⟩,
 ⟨some 43, none, .call (.func 118) [(.tmp 42)]⟩,
 ⟨some 40, none, .prim (.mov (.tmp 43))⟩,
 ⟨some 44, none, .prim (.extr 0 (.tmp 40))⟩,
 ⟨some 45, none, .prim (.extr 1 (.tmp 40))⟩,
 ⟨some 7, none, .prim (.mov (.tmp 44))⟩,
 ⟨some 8, none, .prim (.mov (.tmp 45))⟩])
 (.seq (.ops [⟨some 47, none, .prim (.mov (.tmp 5))⟩,
 ⟨some 48, none, .call (.func 119) [(.tmp 47)]⟩,
 ⟨some 46, none, .prim (.mov (.tmp 48))⟩,
 ⟨some 49, none, .prim (.extr 0 (.tmp 46))⟩,
 ⟨some 50, none, .prim (.extr 1 (.tmp 46))⟩,
 ⟨some 9, none, .prim (.mov (.tmp 49))⟩,
 ⟨some 10, none, .prim (.mov (.tmp 50))⟩])
 (.seq (.ops [⟨some 52, none, .prim (.mov (.tmp 7))⟩,
 ⟨some 53, none, .call (.func 119) [(.tmp 52)]⟩,
 ⟨some 51, none, .prim (.mov (.tmp 53))⟩,
 ⟨some 54, none, .prim (.extr 0 (.tmp 51))⟩,
 ⟨some 55, none, .prim (.extr 1 (.tmp 51))⟩,
 ⟨some 11, none, .prim (.mov (.tmp 54))⟩,
 ⟨some 12, none, .prim (.mov (.tmp 55))⟩])
 (.seq (.ops [⟨some 56, none, .prim (.mov (.tmp 9))⟩,
 ⟨some 57, none, .prim (.mov (.tmp 11))⟩,
 ⟨some 58, none, .prim (.build [.pl (.bool false), .pl (.float .f64 0), .pl (.float .f64 0)] [(1, 1, (.tmp 56)), (2, 1, (.tmp 57))])⟩,
 ⟨some 13, none, .fresh 3 13 (.tmp 58)⟩])
 (.seq (.seq (.ops [⟨some 59, none, .prim (.mov (.tmp 10))⟩,
 ⟨some 60, none, .prim (.un .not (.tmp 59))⟩,
 ⟨some 61, none, .prim (.mov (.tmp 60))⟩,
 ⟨some 62, (some (61, false)), .prim (.mov (.tmp 12))⟩,
 ⟨some 63, (some (61, false)), .prim (.un .not (.tmp 62))⟩,
 ⟨some 64, none, .prim (.pick (.tmp 61) (.const (.bool true)) (.tmp 63))⟩,
 ⟨some 65, none, .prim (.mov (.tmp 64))⟩,
 ⟨some 66, (some (65, false)), .prim (.load 3 true (.tmp 13))⟩,
 ⟨some 67, (some (65, false)), .call (.func 120) [(.tmp 66)]⟩,
 ⟨some 68, (some (65, false)), .prim (.un .not (.tmp 67))⟩,
 ⟨some 69, none, .prim (.pick (.tmp 65) (.const (.bool true)) (.tmp 68))⟩])
 (.cond (.tmp 69)
 (.seq (.ops [⟨some 70, none, .prim (.build [.pl (.bool false), .pl (.float .f64 0), .pl (.float .f64 0)] [])⟩,
 ⟨none, none, .prim (.store 3 (.tmp 2) (.tmp 70))⟩,
 ⟨some 3, none, .prim (.mov (.const (.int .i64 0)))⟩,
 ⟨some 4, none, .prim (.mov (.const (.bool false)))⟩])
 .ret)
 .skip))
 (.seq (.ops [⟨some 71, none, .prim (.load 3 true (.tmp 13))⟩,
 ⟨none, none, .prim (.store 3 (.tmp 2) (.tmp 71))⟩,
 ⟨some 3, none, .prim (.mov (.const (.int .i64 17)))⟩,
 ⟨some 4, none, .prim (.mov (.const (.bool true)))⟩])
 .ret))))))))))
def o64 : List Tmp := [2]
def r64 : List RV := [.cell 2 3 true, .tmp 3, .tmp 4]
theorem t64 : Text Tryz.prog 64 o64 c64 r64 72 := ⟨⟨Tryz.f64, _, by kernel_rfl, by kernel_rfl, rfl, by kernel_rfl, by kernel_rfl, rfl⟩, by kernel_rfl⟩
def c74 : ACode :=
 (.seq (.ops [⟨some 1, none, .prim (.boxr (.tmp 0))⟩,
 ⟨some 2, none, .prim (.mov (.const (.slice none 0 0)))⟩])
 (.seq (.seq (.ops [⟨some 3, none, .prim (.fadr 0 (.tmp 1))⟩,
 ⟨some 4, none, .prim (.load 1 false (.tmp 3))⟩])
 (.cond (.tmp 4)
 (.seq (.ops [⟨some 5, none, .prim (.bsl false 1 false 1 [.pl (.int .u8 0)] [(0, 1, (.const (.int .u8 1)))])⟩,
 ⟨some 2, none, .prim (.mov (.tmp 5))⟩])
 (.ghost (.shut 2) .ret))
 .skip))
 (.seq (.draw [⟨⟨some 6, none, .prim (.bsl true 1 false 1 [.pl (.int .u8 0)] [(0, 1, (.const (.int .u8 0)))])⟩, [], true, 0, 0⟩,
 ⟨⟨some 7, none, .prim (.fadr 1 (.tmp 1))⟩, [], false, 0, 1⟩,
 ⟨⟨some 8, none, .prim (.load 1 false (.tmp 7))⟩, [1], false, 0, 1⟩,
 ⟨⟨some 9, none, .call (.func 48) [(.tmp 8)]⟩, [1, 2], false, 0, 1⟩,
 ⟨⟨some 10, none, .call (.func 97) [(.tmp 9)]⟩, [1, 2, 3], false, 0, 1⟩,
 ⟨⟨some 11, none, .prim (.app 1 (.tmp 6) (.tmp 10))⟩, [0, 1, 2, 3, 4], true, 0, 0⟩,
 ⟨⟨some 12, none, .prim (.fadr 2 (.tmp 1))⟩, [], false, 0, 2⟩,
 ⟨⟨some 13, none, .prim (.load 1 false (.tmp 12))⟩, [6], false, 0, 2⟩,
 ⟨⟨some 14, none, .call (.func 48) [(.tmp 13)]⟩, (List.range 8), true, 0, 0⟩,
 ⟨⟨some 15, none, .call (.func 97) [(.tmp 14)]⟩, (List.range 9), true, 0, 0⟩,
 ⟨⟨some 16, none, .prim (.app 1 (.tmp 11) (.tmp 15))⟩, (List.range 10), true, 0, 0⟩,
 ⟨⟨some 2, none, .prim (.mov (.tmp 16))⟩, (List.range 11), false, 5, 5⟩])
 (.ghost (.shut 2) .ret))))
def o74 : List Tmp := [6]
def r74 : List RV := [.tmp 2]
theorem t74 : Text Tryz.prog 74 o74 c74 r74 17 := ⟨⟨Tryz.f74, _, by kernel_rfl, by kernel_rfl, rfl, by kernel_rfl, by kernel_rfl, rfl⟩, by kernel_rfl⟩
def c78 : ACode :=
 (.seq (.ops [⟨some 2, none, .prim (.boxr (.tmp 0))⟩,
 ⟨some 3, none, .prim (.boxr (.tmp 1))⟩,
 ⟨some 4, none, .prim (.mov (.const (.bool false)))⟩])
 (.seq (.draw [⟨⟨some 5, none, .prim (.fadr 0 (.tmp 2))⟩, [], false, 0, 0⟩,
 ⟨⟨some 6, none, .prim (.load 1 false (.tmp 5))⟩, [0], false, 0, 0⟩,
 ⟨⟨some 7, none, .prim (.fadr 0 (.tmp 3))⟩, [], false, 0, 0⟩,
 ⟨⟨some 8, none, .prim (.load 1 false (.tmp 7))⟩, [2], false, 0, 0⟩,
 ⟨⟨some 9, none, .prim (.bin true .eql (.tmp 6) (.tmp 8))⟩, [0, 1, 2, 3], false, 0, 0⟩,
 ⟨⟨some 10, none, .prim (.mov (.tmp 9))⟩, [0, 1, 2, 3, 4], false, 0, 0⟩,
 ⟨⟨some 11, (some (10, true)), .prim (.fadr 1 (.tmp 2))⟩, (List.range 6), false, 0, 0⟩,
 ⟨⟨some 12, (some (10, true)), .prim (.load 1 false (.tmp 11))⟩, (List.range 7), false, 0, 0⟩,
 ⟨⟨some 13, (some (10, true)), .call (.func 48) [(.tmp 12)]⟩, (List.range 8), true, 0, 0⟩,
 ⟨⟨some 14, (some (10, true)), .prim (.fadr 1 (.tmp 3))⟩, (List.range 6), false, 0, 1⟩,
 ⟨⟨some 15, (some (10, true)), .prim (.load 1 false (.tmp 14))⟩, [0, 1, 2, 3, 4, 5, 9], false, 0, 1⟩,
 ⟨⟨some 16, (some (10, true)), .call (.func 48) [(.tmp 15)]⟩, (List.range 11), true, 0, 0⟩,
 ⟨⟨some 17, (some (10, true)), .prim (.bin false .eql (.tmp 13) (.tmp 16))⟩, (List.range 12), false, 2, 2⟩,
 ⟨⟨some 18, none, .prim (.pick (.tmp 10) (.tmp 17) (.const (.bool false)))⟩, (List.range 13), false, 2, 2⟩,
 ⟨⟨some 19, none, .prim (.mov (.tmp 18))⟩, (List.range 14), false, 2, 2⟩,
 ⟨⟨some 20, (some (19, true)), .prim (.fadr 2 (.tmp 2))⟩, (List.range 15), false, 2, 2⟩,
 ⟨⟨some 21, (some (19, true)), .prim (.load 1 false (.tmp 20))⟩, (List.range 16), false, 2, 2⟩,
 ⟨⟨some 22, (some (19, true)), .call (.func 48) [(.tmp 21)]⟩, (List.range 17), true, 0, 0⟩,
 ⟨⟨some 23, (some (19, true)), .prim (.fadr 2 (.tmp 3))⟩, (List.range 15), false, 2, 3⟩,
 ⟨⟨some 24, (some (19, true)), .prim (.load 1 false (.tmp 23))⟩, [0, 1, 2, 3, 4, 5, 6, 7, 8, 9, 10, 11, 12, 13, 14, 18], false, 2, 3⟩,
 ⟨⟨some 25, (some (19, true)), .call (.func 48) [(.tmp 24)]⟩, (List.range 20), true, 0, 0⟩,
 ⟨⟨some 26, (some (19, true)), .prim (.bin false .eql (.tmp 22) (.tmp 25))⟩, (List.range 21), false, 4, 4⟩,
 ⟨⟨some 27, none, .prim (.pick (.tmp 19) (.tmp 26) (.const (.bool false)))⟩, (List.range 22), false, 4, 4⟩,
 ⟨⟨some 4, none, .prim (.mov (.tmp 27))⟩, (List.range 23), false, 4, 4⟩])
 .ret))
def o78 : List Tmp := []
def r78 : List RV := [.tmp 4]
theorem t78 : Text Tryz.prog 78 o78 c78 r78 28 := ⟨⟨Tryz.f78, _, by kernel_rfl, by kernel_rfl, rfl, by kernel_rfl, by kernel_rfl, rfl⟩, by kernel_rfl⟩
def c97 : ACode :=
 (.seq (.ops [⟨some 2, none, .prim (.mov (.const (.slice none 0 0)))⟩])
 (.seq (.ops [⟨some 5, none, .prim (.mks 1 false [.pl (.int .u8 0)] (.const (.int .i64 8)) (.const (.int .i64 8)))⟩,
 ⟨some 3, none, .prim (.mov (.tmp 5))⟩])
 (.seq (.seq (.ops [⟨some 4, none, .prim (.mov (.const (.int .i64 0)))⟩])
 (.block 0 (.loop [1, 2, 5, 6, 7, 8, 9, 10, 11, 12, 13, 14, 15, 16, 17, 18, 19, 20] (.seq (.seq (.ops [⟨some 6, none, .prim (.mov (.tmp 4))⟩,
 ⟨some 7, none, .prim (.bin false .lss (.tmp 6) (.const (.int .i64 8)))⟩])
 (.cond (.tmp 7)
 .skip
 (.exit 0)))
 (.seq (.block 1 (.ops [⟨some 10, none, .prim (.mov (.tmp 3))⟩,
 ⟨some 11, none, .prim (.mov (.tmp 4))⟩,
 ⟨some 12, none, .prim (.mov (.tmp 0))⟩,
 ⟨some 13, none, .prim (.mov (.tmp 4))⟩,
 ⟨some 14, none, .prim (.bin false .mul (.const (.int .i64 8)) (.tmp 13))⟩,
 ⟨some 15, none, .prim (.bin false .sub (.const (.int .i64 56)) (.tmp 14))⟩,
 ⟨some 16, none, .prim (.convi .u64 (.tmp 15))⟩,
 ⟨some 17, none, .prim (.bin false .shr (.tmp 12) (.tmp 16))⟩,
 ⟨some 18, none, .prim (.convi .u8 (.tmp 17))⟩,
 ⟨some 19, none, .prim (.iadrs 1 (.tmp 10) (.tmp 11))⟩,
 ⟨none, none, .prim (.store 1 (.tmp 19) (.tmp 18))⟩]))
 (.ops [⟨some 8, none, .prim (.mov (.tmp 4))⟩,
 ⟨some 9, none, .prim (.bin false .add (.tmp 8) (.const (.int .i64 1)))⟩,
 ⟨some 4, none, .prim (.mov (.tmp 9))⟩]))))))
 (.seq (.ops [⟨some 20, none, .prim (.mov (.tmp 3))⟩,
 ⟨some 2, none, .prim (.mov (.tmp 20))⟩])
 (.ghost (.shut 2) .ret)))))
def o97 : List Tmp := []
def r97 : List RV := [.tmp 2]
theorem t97 : Text Tryz.prog 97 o97 c97 r97 21 := ⟨⟨Tryz.f97, _, by kernel_rfl, by kernel_rfl, rfl, by kernel_rfl, by kernel_rfl, rfl⟩, by kernel_rfl⟩
def c118 : ACode :=
 (.seq (.ops [⟨some 2, none, .prim (.mov (.const (.int .u64 0)))⟩,
 ⟨some 3, none, .prim (.mov (.const (.bool false)))⟩])
 (.seq (.seq (.ops [⟨some 6, none, .prim (.mov (.tmp 0))⟩,
 ⟨some 7, none, .prim (.lenv (.tmp 6))⟩,
 ⟨some 8, none, .prim (.bin false .lss (.tmp 7) (.const (.int .i64 8)))⟩])
 (.cond (.tmp 8)
 (.seq (.ops [⟨some 2, none, .prim (.mov (.const (.int .u64 0)))⟩,
 ⟨some 3, none, .prim (.mov (.const (.bool false)))⟩])
 .ret)
 .skip))
 (.seq (.ops [⟨some 4, none, .prim (.mov (.const (.int .u64 0)))⟩])
 (.seq (.seq (.ops [⟨some 5, none, .prim (.mov (.const (.int .i64 0)))⟩])
 (.block 0 (.loop [1, 2, 3, 6, 7, 8, 9, 10, 11, 12, 13, 14, 15, 16, 17, 18, 19, 20, 21] (.seq (.seq (.ops [⟨some 9, none, .prim (.mov (.tmp 5))⟩,
 ⟨some 10, none, .prim (.bin false .lss (.tmp 9) (.const (.int .i64 8)))⟩])
 (.cond (.tmp 10)
 .skip
 (.exit 0)))
 (.seq (.block 1 (.ops [⟨some 13, none, .prim (.mov (.tmp 4))⟩,
 ⟨some 14, none, .prim (.bin false .shl (.tmp 13) (.const (.int .u64 8)))⟩,
 ⟨some 15, none, .prim (.mov (.tmp 0))⟩,
 ⟨some 16, none, .prim (.mov (.tmp 5))⟩,
 ⟨some 17, none, .prim (.iadrs 1 (.tmp 15) (.tmp 16))⟩,
 ⟨some 18, none, .prim (.load 1 false (.tmp 17))⟩,
 ⟨some 19, none, .prim (.convi .u64 (.tmp 18))⟩,
 ⟨some 20, none, .prim (.bin false .or (.tmp 14) (.tmp 19))⟩,
 ⟨some 4, none, .prim (.mov (.tmp 20))⟩]))
 (.ops [⟨some 11, none, .prim (.mov (.tmp 5))⟩,
 ⟨some 12, none, .prim (.bin false .add (.tmp 11) (.const (.int .i64 1)))⟩,
 ⟨some 5, none, .prim (.mov (.tmp 12))⟩]))))))
 (.seq (.ops [⟨some 21, none, .prim (.mov (.tmp 4))⟩,
 ⟨some 2, none, .prim (.mov (.tmp 21))⟩,
 ⟨some 3, none, .prim (.mov (.const (.bool true)))⟩])
 .ret)))))
def o118 : List Tmp := []
def r118 : List RV := [.tmp 2, .tmp 3]
theorem t118 : Text Tryz.prog 118 o118 c118 r118 22 := ⟨⟨Tryz.f118, _, by kernel_rfl, by kernel_rfl, rfl, by kernel_rfl, by kernel_rfl, rfl⟩, by kernel_rfl⟩
def c119 : ACode :=
 (.seq (.ops [⟨some 2, none, .prim (.mov (.const (.float Go.FloatKind.f64 0)))⟩,
 ⟨some 3, none, .prim (.mov (.const (.bool false)))⟩])
 (.seq (.ops [⟨some 5, none, .prim (.mov (.tmp 0))⟩,
 ⟨some 6, none, .call (.func 151) [(.tmp 5)]⟩,
 ⟨some 4, none, .prim (.mov (.tmp 6))⟩])
 (.seq (.seq (.ops [⟨some 7, none, .prim (.mov (.tmp 4))⟩,
 ⟨some 8, none, .prim (.mov (.tmp 4))⟩,
 ⟨some 9, none, .prim (.bin false .neq (.tmp 7) (.tmp 8))⟩,
 ⟨some 10, none, .prim (.mov (.tmp 9))⟩,
 ⟨some 11, (some (10, true)), .prim (.mov (.tmp 0))⟩,
 ⟨some 12, (some (10, true)), .prim (.bin false .neq (.tmp 11) (.const (.int .u64 9221120237041090561)))⟩,
 ⟨some 13, none, .prim (.pick (.tmp 10) (.tmp 12) (.const (.bool false)))⟩])
 (.cond (.tmp 13)
 (.seq (.ops [⟨some 2, none, .prim (.mov (.const (.float Go.FloatKind.f64 0)))⟩,
 ⟨some 3, none, .prim (.mov (.const (.bool false)))⟩])
 .ret)
 .skip))
 (.seq (.ops [⟨some 14, none, .prim (.mov (.tmp 4))⟩,
 ⟨some 2, none, .prim (.mov (.tmp 14))⟩,
 ⟨some 3, none, .prim (.mov (.const (.bool true)))⟩])
 .ret))))
def o119 : List Tmp := []
def r119 : List RV := [.tmp 2, .tmp 3]
theorem t119 : Text Tryz.prog 119 o119 c119 r119 15 := ⟨⟨Tryz.f119, _, by kernel_rfl, by kernel_rfl, rfl, by kernel_rfl, by kernel_rfl, rfl⟩, by kernel_rfl⟩
end Go.Proofs.YtmkmhhjkdaklbaaGreat
