/- Drawn alerts, bands, rules. No condition. -/
import Derived.Test.YtoadgajhkhejiaaGreatYDr7aA
import Derived.Test.YtoadgajhkhejiaaGreatYMArgA
import Derived.Test.YtoadgajhkhejiaaGreatCod2A
import Derived.Test.YtoadgajhkhejiaaGreatYPChkBA
import Derived.Test.YtoadgajhkhejiaaGreatProg
import Derived.Test.YtoadgajhkhejiaaGreatAbStepA
set_option linter.unusedSimpArgs false
set_option linter.unusedVariables false
namespace Go.Proofs.YtoadgajhkhejiaaGreat
open Go Go.Ab Go.Cod
set_option maxRecDepth 100000
def drawnLabs (ns : List Int) : List Lab := if isSetL (setL (labs ns)) then setL (labs ns) else []
theorem labels_sl (σ : St) (ns : List Int) : Ans Tryz.prog 24 [.sl 1 (ns.map I)] σ (.sl 2 (lvs (drawnLabs ns))) σ := by
 refine (labels_ans σ ns).subR ?_
 unfold setV drawnLabs
 split
 · exact .refl _
 · exact .nils 2
theorem drawnLabs_ok (ns : List Int) : (drawnLabs ns).length ≤ 5 ∧ ∀ x ∈ drawnLabs ns, x.2.size ≤ 24 := by
 unfold drawnLabs
 split
 · refine ⟨by rw [setL_len]; exact labs_len ns, fun x hx => ?_⟩
   exact (values_size _ (labs_drawn ns x (setL_mem _ x hx)).2).2
 · exact ⟨by simp, fun x hx => by cases hx⟩
theorem drawnLabs_get (ns : List Int) (nm : ByteArray) : (getL (drawnLabs ns) nm).size ≤ 100000 := by
 rcases getL_mem (drawnLabs ns) nm with h | ⟨x, hx, h⟩
 · rw [h]; decide
 · rw [h]; have := (drawnLabs_ok ns).2 x hx; omega
theorem bel_alV (n : Nat) (k : Int) (L : List Lab) (v : Nat) : Bel n (alV k L v) := .agg _ fun i hi => by
 have : ∀ y ∈ ([I k, .sl 2 (lvs L), Fl v] : List AV), Bel n y := by
  intro y hy
  simp only [List.mem_cons, List.not_mem_nil, or_false] at hy
  rcases hy with rfl | rfl | rfl
  · exact .pl _
  · exact bel_lvs n L
  · exact .pl _
 exact this _ (List.getElem_mem hi)
section
variable (σ : St)
theorem alert_ans (ns : List Int) (v : Nat) : Ans Tryz.prog 7 [.agg [.sl 1 (ns.map I), Fl v]] σ (alV 0 (drawnLabs ns) v) σ := by
 have hl := fun σ => labels_sl σ ns
 have hb := bel_alV σ.length 0 (drawnLabs ns) v
 generalize drawnLabs ns = L at hl hb ⊢
 unfold alV at hb ⊢
 refine Ans.of_run' t7 (fun hbel _ => ?_)
 simp -implicitDefEqProofs only [c7, r7, go_sem, D_callS]
 first | refine CD.intro (hl _) ?_ | refine CS.intro hl ?_
 simp -implicitDefEqProofs only [go_sem, g0, s0]
 exact Fini.trim2 (σ' := σ) (ex := [_]) (by simp -implicitDefEqProofs only [go_sem, resA, allSome, rvA, oneOf, g0]) rfl (Nat.le_refl _) hb hbel
end
end Go.Proofs.YtoadgajhkhejiaaGreat
namespace Go.Proofs.YtoadgajhkhejiaaGreat
open Go Go.Ab Go.Cod
set_option maxRecDepth 100000
theorem g2 (σ : St) (x y z : Ob) (ex : St) : (σ ++ x :: y :: z :: ex)[σ.length + 2]? = some z := by rw [List.getElem?_append_right (by simp)]; simp
theorem s2 (σ : St) (x y z u : Ob) (ex : St) : (σ ++ x :: y :: z :: ex).set (σ.length + 2) u = σ ++ x :: y :: u :: ex := by rw [List.set_append_right _ _ (by simp)]; simp
section
variable (σ : St)
end
end Go.Proofs.YtoadgajhkhejiaaGreat
namespace Go.Ab
open Go Go.ChangeShapes Go.WideShapes
theorem Reads.weak {P : Program} {t : TypeId} {f : Nat} {Q Q' : List AV → Prop} (h : Reads P t f Q) (hq : ∀ xs, Q xs → ∃ ys, Q' ys ∧ Subs xs ys) : Reads P t f Q' := by
 intro H enc W cs x hx
 obtain ⟨xs, h1, h2⟩ := h H enc W cs x hx
 obtain ⟨ys, h3, h4⟩ := hq xs h2
 exact ⟨ys, h4.reps h1, h3⟩
def QFloat : List AV → Prop := fun xs => ∃ n : Nat, xs = [.pl (.float .f64 n)]
theorem Reads.float {P : Program} {t : TypeId} (ht : P.underlying t = some (.float .f64)) (f : Nat) : Reads P t f QFloat := by
 intro H enc W cs x h
 have : ∃ n, cs = [.float .f64 n] := by
  cases f with
  | zero => simp [DataW.trod] at h
  | succ n =>
    unfold DataW.trod at h
    rw [ht] at h
    split at h <;> simp_all
 obtain ⟨n, rfl⟩ := this
 exact ⟨_, reps_one (.pl _), n, rfl⟩
def QSl (sz : Nat) (ag : Bool) (Q : List AV → Prop) : List AV → Prop := fun xs => ∃ ys : List (List AV), (∀ y ∈ ys, Q y) ∧ ys.length ≤ maxLen ∧ xs = [.sl sz (ys.map (wrapC ag))]
theorem QSlice.weak {sz : Nat} {ag : Bool} {Q : List AV → Prop} (xs : List AV) (h : QSlice sz ag Q xs) : ∃ ys, QSl sz ag Q ys ∧ Subs xs ys := by
 rcases h with rfl | ⟨ys, h1, h2, rfl⟩
 · exact ⟨_, ⟨[], by simp, by simp, rfl⟩, .cons (.nils sz) .nil⟩
 · exact ⟨_, ⟨ys, h1, h2, rfl⟩, Subs.refl _⟩
end Go.Ab
namespace Go.Proofs.YtoadgajhkhejiaaGreat
open Go Go.Ab Go.ChangeShapes Go.WideShapes Go.ChangeAt Go.RowKit
set_option maxRecDepth 100000
theorem ints_of : ∀ {ys : List (List AV)}, (∀ y ∈ ys, QInt .i64 y) → ∃ ns : List Int, ys.map (wrapC false) = ns.map I
 | [], _ => ⟨[], rfl⟩
 | y :: ys, h => by
   obtain ⟨n, _, rfl⟩ := h y List.mem_cons_self
   obtain ⟨ns, hns⟩ := ints_of fun y hy => h y (List.mem_cons_of_mem _ hy)
   exact ⟨n :: ns, by rw [List.map_cons, hns]; rfl⟩
theorem texts_of : ∀ {ys : List (List AV)}, (∀ y ∈ ys, QText y) → ∃ ns : List ByteArray, ys.map (wrapC false) = txs ns
 | [], _ => ⟨[], rfl⟩
 | y :: ys, h => by
   obtain ⟨n, _, rfl⟩ := h y List.mem_cons_self
   obtain ⟨ns, hns⟩ := texts_of fun y hy => h y (List.mem_cons_of_mem _ hy)
   exact ⟨n :: ns, by rw [List.map_cons, hns]; rfl⟩
def QInts : List AV → Prop := fun xs => ∃ ns : List Int, xs = [.sl 1 (ns.map I)]
def QTexts : List AV → Prop := fun xs => ∃ ns : List ByteArray, xs = [.sl 1 (txs ns)]
def QMtrs : List AV → Prop := fun xs => ∃ M : List Mtr, xs = [.sl 3 (mvs3 M)]
theorem reads_ints (f : Nat) : Reads Tryz.prog 29 f QInts := by
 cases f with
 | zero => exact Reads.zero
 | succ f =>
   refine ((Reads.slice (sz := 1) false Tryz.underlying29 (by kernel_rfl) (by decide) (Reads.int Tryz.underlying3 f) (fun y hy _ => by obtain ⟨n, _, rfl⟩ := hy; rfl)).weak QSlice.weak).mono fun xs hq => ?_
   obtain ⟨ys, h1, h2, rfl⟩ := hq
   obtain ⟨ds, e⟩ := ints_of h1
   exact ⟨ds, by rw [e]⟩
theorem reads_texts (f : Nat) : Reads Tryz.prog 26 f QTexts := by
 cases f with
 | zero => exact Reads.zero
 | succ f =>
   refine ((Reads.slice (sz := 1) false Tryz.underlying26 (by kernel_rfl) (by decide) (Reads.text Tryz.underlying9 f) (fun y hy _ => by obtain ⟨n, _, rfl⟩ := hy; rfl)).weak QSlice.weak).mono fun xs hq => ?_
   obtain ⟨ys, h1, h2, rfl⟩ := hq
   obtain ⟨ds, e⟩ := texts_of h1
   exact ⟨ds, by rw [e]⟩
theorem reads_mtrs (f : Nat) : Reads Tryz.prog 22 f QMtrs := by
 cases f with
 | zero => exact Reads.zero
 | succ f =>
   refine ((Reads.slice (sz := 3) true Tryz.underlying22 (by kernel_rfl) (by decide) (reads_mtr f) (fun _ _ _ => rfl)).weak QSlice.weak).mono fun xs hq => ?_
   obtain ⟨ys, h1, h2, rfl⟩ := hq
   obtain ⟨ds, e⟩ := mtrs_of h1
   exact ⟨ds, by rw [e]⟩
def QBand : List AV → Prop := fun xs => ∃ (b : Bool) (lo hi : Nat), xs = [Bo b, Fl lo, Fl hi]
theorem reads_band (f : Nat) : Reads Tryz.prog 25 f QBand := by
 cases f with
 | zero => exact Reads.zero
 | succ f =>
   have h := Reads.struct (P := Tryz.prog) (t := 25) (f := f) (Qs := [QBool, QFloat, QFloat]) Tryz.underlying25 (by kernel_rfl) rfl (by
    intro p hp
    simp only [List.zip_cons_cons, List.zip_nil_right, List.mem_cons, List.not_mem_nil, or_false] at hp
    rcases hp with rfl | rfl | rfl
    · exact Reads.bool Tryz.underlying4 f
    · exact Reads.float Tryz.underlying23 f
    · exact Reads.float Tryz.underlying23 f)
   refine h.mono fun xs hq => ?_
   obtain ⟨_, _, rfl, ⟨k, rfl⟩, _, _, rfl, ⟨n, rfl⟩, _, _, rfl, ⟨v, rfl⟩, rfl⟩ := hq
   exact ⟨k, n, v, rfl⟩
def ruC (r : RuM) : List AV := [.sl 3 (mvs3 r.src), .sl 3 (mvs3 r.tgt), Bo r.any, Fl r.lo, Fl r.hi, .sl 1 (txs r.eq)]
def QRu : List AV → Prop := fun xs => ∃ r : RuM, xs = ruC r
def QDAl : List AV → Prop := fun xs => ∃ (ns : List Int) (v : Nat), xs = [.sl 1 (ns.map I), Fl v]
theorem reads_rule (f : Nat) : Reads Tryz.prog 28 f QRu := by
 cases f with
 | zero => exact Reads.zero
 | succ f =>
   have h := Reads.struct (P := Tryz.prog) (t := 28) (f := f) (Qs := [QMtrs, QMtrs, QBand, QTexts]) Tryz.underlying28 (by kernel_rfl) rfl (by
    intro p hp
    simp only [List.zip_cons_cons, List.zip_nil_right, List.mem_cons, List.not_mem_nil, or_false] at hp
    rcases hp with rfl | rfl | rfl | rfl
    · exact reads_mtrs f
    · exact reads_mtrs f
    · exact reads_band f
    · exact reads_texts f)
   refine h.mono fun xs hq => ?_
   obtain ⟨_, _, rfl, ⟨M, rfl⟩, _, _, rfl, ⟨N, rfl⟩, _, _, rfl, ⟨b, lo, hi, rfl⟩, _, _, rfl, ⟨e, rfl⟩, rfl⟩ := hq
   exact ⟨⟨M, N, b, lo, hi, e⟩, rfl⟩
theorem reads_dalert (f : Nat) : Reads Tryz.prog 31 f QDAl := by
 cases f with
 | zero => exact Reads.zero
 | succ f =>
   have h := Reads.struct (P := Tryz.prog) (t := 31) (f := f) (Qs := [QInts, QFloat]) Tryz.underlying31 (by kernel_rfl) rfl (by
    intro p hp
    simp only [List.zip_cons_cons, List.zip_nil_right, List.mem_cons, List.not_mem_nil, or_false] at hp
    rcases hp with rfl | rfl
    · exact reads_ints f
    · exact Reads.float Tryz.underlying23 f)
   refine h.mono fun xs hq => ?_
   obtain ⟨_, _, rfl, ⟨ns, rfl⟩, _, _, rfl, ⟨v, rfl⟩, rfl⟩ := hq
   exact ⟨ns, v, rfl⟩
section
variable {H : Type} {enc : TypeId × Value → H} {W : World} {base : Nat} {v : Value} {d : DataW H} {ps : List MemPlace}
theorem rule_arg (hv : Value.okWide Tryz.prog W .any base 28 v) (h : DataW.Trod enc Tryz.prog W 0 (fun _ => true) true 28 v d ps) : ∃ r : RuM, Rep noM noR W (ruV r) v := by
 obtain ⟨cs, rfl, _⟩ := okWide_struct Tryz.underlying28 hv
 obtain ⟨xs, h1, r, rfl⟩ := Reads.argS reads_rule h
 exact ⟨r, h1⟩
theorem dalert_arg (hv : Value.okWide Tryz.prog W .any base 31 v) (h : DataW.Trod enc Tryz.prog W 0 (fun _ => true) true 31 v d ps) : ∃ (ns : List Int) (x : Nat), Rep noM noR W (.agg [.sl 1 (ns.map I), Fl x]) v := by
 obtain ⟨cs, rfl, _⟩ := okWide_struct Tryz.underlying31 hv
 obtain ⟨xs, h1, ns, x, rfl⟩ := Reads.argS reads_dalert h
 exact ⟨ns, x, h1⟩
end
end Go.Proofs.YtoadgajhkhejiaaGreat
namespace Go.Proofs.YtoadgajhkhejiaaGreat
open Go Go.Ab
def allR : List (Fun Tryz.prog) := [⟨5, o5, c5, r5, 55, t5⟩, ⟨7, o7, c7, r7, 9, t7⟩, ⟨19, o19, c19, r19, 30, t19⟩, ⟨16, o16, c16, r16, 10, t16⟩, ⟨8, o8, c8, r8, 65, t8⟩, ⟨12, o12, c12, r12, 21, t12⟩, ⟨42, o42, c42, r42, 40, t42⟩, ⟨14, o14, c14, r14, 14, t14⟩, ⟨38, o38, c38, r38, 23, t38⟩, ⟨26, o26, c26, r26, 20, t26⟩, ⟨33, o33, c33, r33, 10, t33⟩, ⟨35, o35, c35, r35, 23, t35⟩, ⟨49, o49, c49, r49, 7, t49⟩, ⟨10, o10, c10, r10, 15, t10⟩, ⟨81, o81, c81, r81, 19, t81⟩, ⟨60, o60, c60, r60, 9, t60⟩] ++ allF
end Go.Proofs.YtoadgajhkhejiaaGreat
namespace Go.Proofs.YtoadgajhkhejiaaGreat
open Go Go.Ab
/- 3361 steps -/
theorem rr0_ok : Ans Tryz.prog 86 [.ptr 2 0, .pl (.int .i64 0)] [.box [.pl (.int .i64 3), .pl (.string ⟨#[115, 101, 118]⟩), .pl (.string ⟨#[99, 114, 105, 116, 124, 119, 97, 114, 110]⟩)], .box [.pl (.int .i64 0), .pl (.int .u64 0), .pl (.int .u64 0), .pl (.int .u64 0), .pl (.int .u64 0), .nils], .box [.pl (.string ⟨#[99, 114, 105, 116, 124, 119, 97, 114, 110]⟩), .pl (.int .i64 0), .pl (.bool false)]] (.agg [.pl (.int .i64 3), .pl (.int .u64 0), .pl (.int .u64 0), .pl (.int .u64 0), .pl (.int .u64 0), .sl 6 [.agg [.pl (.int .i64 2), .pl (.int .u64 0), .pl (.int .u64 0), .pl (.int .u64 0), .pl (.int .u64 0), .sl 6 [.agg [.pl (.int .i64 1), .pl (.int .u64 0), .pl (.int .u64 34359738368), .pl (.int .u64 0), .pl (.int .u64 0), .nils], .agg [.pl (.int .i64 1), .pl (.int .u64 0), .pl (.int .u64 1125899906842624), .pl (.int .u64 0), .pl (.int .u64 0), .nils], .agg [.pl (.int .i64 1), .pl (.int .u64 0), .pl (.int .u64 2199023255552), .pl (.int .u64 0), .pl (.int .u64 0), .nils], .agg [.pl (.int .i64 1), .pl (.int .u64 0), .pl (.int .u64 4503599627370496), .pl (.int .u64 0), .pl (.int .u64 0), .nils]]], .agg [.pl (.int .i64 2), .pl (.int .u64 0), .pl (.int .u64 0), .pl (.int .u64 0), .pl (.int .u64 0), .sl 6 [.agg [.pl (.int .i64 1), .pl (.int .u64 0), .pl (.int .u64 36028797018963968), .pl (.int .u64 0), .pl (.int .u64 0), .nils], .agg [.pl (.int .i64 1), .pl (.int .u64 0), .pl (.int .u64 8589934592), .pl (.int .u64 0), .pl (.int .u64 0), .nils], .agg [.pl (.int .i64 1), .pl (.int .u64 0), .pl (.int .u64 1125899906842624), .pl (.int .u64 0), .pl (.int .u64 0), .nils], .agg [.pl (.int .i64 1), .pl (.int .u64 0), .pl (.int .u64 70368744177664), .pl (.int .u64 0), .pl (.int .u64 0), .nils]]]]]) [.box [.pl (.int .i64 3), .pl (.string ⟨#[115, 101, 118]⟩), .pl (.string ⟨#[99, 114, 105, 116, 124, 119, 97, 114, 110]⟩)], .box [.pl (.int .i64 0), .pl (.int .u64 0), .pl (.int .u64 0), .pl (.int .u64 0), .pl (.int .u64 0), .nils], .box [.pl (.string ⟨#[99, 114, 105, 116, 124, 119, 97, 114, 110]⟩), .pl (.int .i64 9), .pl (.bool false)]] := evFT_ok allR extF [] 300 100 _ _ _ _ _ (by kernel_rfl)
def rr0 : Memo Tryz.prog := ⟨_, _, _, _, _, rr0_ok⟩
/- 3361 steps -/
theorem rr1_ok : Ans Tryz.prog 86 [.ptr 1 0, .pl (.int .i64 0)] [.box [.pl (.int .i64 0), .pl (.int .u64 0), .pl (.int .u64 0), .pl (.int .u64 0), .pl (.int .u64 0), .nils], .box [.pl (.string ⟨#[99, 114, 105, 116, 124, 119, 97, 114, 110]⟩), .pl (.int .i64 0), .pl (.bool false)]] (.agg [.pl (.int .i64 3), .pl (.int .u64 0), .pl (.int .u64 0), .pl (.int .u64 0), .pl (.int .u64 0), .sl 6 [.agg [.pl (.int .i64 2), .pl (.int .u64 0), .pl (.int .u64 0), .pl (.int .u64 0), .pl (.int .u64 0), .sl 6 [.agg [.pl (.int .i64 1), .pl (.int .u64 0), .pl (.int .u64 34359738368), .pl (.int .u64 0), .pl (.int .u64 0), .nils], .agg [.pl (.int .i64 1), .pl (.int .u64 0), .pl (.int .u64 1125899906842624), .pl (.int .u64 0), .pl (.int .u64 0), .nils], .agg [.pl (.int .i64 1), .pl (.int .u64 0), .pl (.int .u64 2199023255552), .pl (.int .u64 0), .pl (.int .u64 0), .nils], .agg [.pl (.int .i64 1), .pl (.int .u64 0), .pl (.int .u64 4503599627370496), .pl (.int .u64 0), .pl (.int .u64 0), .nils]]], .agg [.pl (.int .i64 2), .pl (.int .u64 0), .pl (.int .u64 0), .pl (.int .u64 0), .pl (.int .u64 0), .sl 6 [.agg [.pl (.int .i64 1), .pl (.int .u64 0), .pl (.int .u64 36028797018963968), .pl (.int .u64 0), .pl (.int .u64 0), .nils], .agg [.pl (.int .i64 1), .pl (.int .u64 0), .pl (.int .u64 8589934592), .pl (.int .u64 0), .pl (.int .u64 0), .nils], .agg [.pl (.int .i64 1), .pl (.int .u64 0), .pl (.int .u64 1125899906842624), .pl (.int .u64 0), .pl (.int .u64 0), .nils], .agg [.pl (.int .i64 1), .pl (.int .u64 0), .pl (.int .u64 70368744177664), .pl (.int .u64 0), .pl (.int .u64 0), .nils]]]]]) [.box [.pl (.int .i64 0), .pl (.int .u64 0), .pl (.int .u64 0), .pl (.int .u64 0), .pl (.int .u64 0), .nils], .box [.pl (.string ⟨#[99, 114, 105, 116, 124, 119, 97, 114, 110]⟩), .pl (.int .i64 9), .pl (.bool false)]] := evFT_ok allR extF [rr0] 300 100 _ _ _ _ _ (by kernel_rfl)
def rr1 : Memo Tryz.prog := ⟨_, _, _, _, _, rr1_ok⟩
/- 3017 steps -/
theorem rr2_ok : Ans Tryz.prog 33 [.agg [.sl 3 [.agg [.pl (.int .i64 1), .pl (.string ⟨#[115, 101, 118]⟩), .pl (.string ⟨#[99, 114, 105, 116]⟩)]], .sl 3 [.agg [.pl (.int .i64 3), .pl (.string ⟨#[115, 101, 118]⟩), .pl (.string ⟨#[99, 114, 105, 116, 124, 119, 97, 114, 110]⟩)]], .pl (.bool true), .pl (.float .f64 0), .pl (.float .f64 0), .sl 1 [.pl (.string ⟨#[99]⟩)]]] [] (.pl (.bool true)) [] := evFT_ok allR extF [rr0, rr1] 300 100 _ _ _ _ _ (by kernel_rfl)
def rr2 : Memo Tryz.prog := ⟨_, _, _, _, _, rr2_ok⟩
/- 4135 steps -/
theorem rr3_ok : Ans Tryz.prog 58 [.agg [.pl (.int .i64 3), .pl (.string ⟨#[115, 101, 118]⟩), .pl (.string ⟨#[99, 114, 105, 116, 124, 119, 97, 114, 110]⟩)], .sl 2 [.agg [.pl (.string ⟨#[99]⟩), .pl (.string ⟨#[120]⟩)], .agg [.pl (.string ⟨#[115, 101, 118]⟩), .pl (.string ⟨#[119, 97, 114, 110]⟩)]]] [] (.pl (.bool true)) [] := evFT_ok allR extF [rr0, rr1, rr2] 300 100 _ _ _ _ _ (by kernel_rfl)
def rr3 : Memo Tryz.prog := ⟨_, _, _, _, _, rr3_ok⟩
/- 4135 steps -/
theorem rr4_ok : Ans Tryz.prog 58 [.agg [.pl (.int .i64 3), .pl (.string ⟨#[115, 101, 118]⟩), .pl (.string ⟨#[99, 114, 105, 116, 124, 119, 97, 114, 110]⟩)], .sl 2 [.agg [.pl (.string ⟨#[99]⟩), .pl (.string ⟨#[121]⟩)], .agg [.pl (.string ⟨#[115, 101, 118]⟩), .pl (.string ⟨#[119, 97, 114, 110]⟩)]]] [] (.pl (.bool true)) [] := evFT_ok allR extF [rr0, rr1, rr2, rr3] 300 100 _ _ _ _ _ (by kernel_rfl)
def rr4 : Memo Tryz.prog := ⟨_, _, _, _, _, rr4_ok⟩
/- 4171 steps -/
theorem rr5_ok : Ans Tryz.prog 58 [.agg [.pl (.int .i64 3), .pl (.string ⟨#[115, 101, 118]⟩), .pl (.string ⟨#[99, 114, 105, 116, 124, 119, 97, 114, 110]⟩)], .sl 2 [.agg [.pl (.string ⟨#[99]⟩), .pl (.string ⟨#[120]⟩)], .agg [.pl (.string ⟨#[115, 101, 118]⟩), .pl (.string ⟨#[99, 114, 105, 116]⟩)]]] [] (.pl (.bool true)) [] := evFT_ok allR extF [rr0, rr1, rr2, rr3, rr4] 300 100 _ _ _ _ _ (by kernel_rfl)
def rr5 : Memo Tryz.prog := ⟨_, _, _, _, _, rr5_ok⟩
/- 4429 steps -/
theorem rr_ok : Ans Tryz.prog 6 [] [] (.pl (.bool true)) [] := evFT_ok allR extF [rr0, rr1, rr2, rr3, rr4, rr5] 300 100 _ _ _ _ _ (by kernel_rfl)
end Go.Proofs.YtoadgajhkhejiaaGreat
namespace Go.Proofs.YtoadgajhkhejiaaGreat
open Go Go.Ab Go.Cod
set_option maxRecDepth 100000
theorem weighL_le : ∀ (l : List (Nat × Nat)) (n : Nat), weighL l n ≤ 301
 | [], n => by simp only [weighL]; omega
 | (a, b) :: l, n => by
   simp only [weighL]
   split
   · split
     · omega
     · exact weighL_le l _
   · omega
def weighS : List ByteArray → Nat → Nat
 | [], n => min n 301
 | s :: l, n => if n ≤ 300 then if 300 < s.size then 301 else weighS l (n + 1 + s.size) else 301
theorem weighS_len : ∀ (l : List ByteArray) (n : Nat), weighS l n ≤ 300 → n + l.length ≤ 300 ∧ ∀ x ∈ l, x.size ≤ 300
 | [], n, h => by
   simp only [weighS] at h
   refine ⟨by simp; omega, by simp⟩
 | s :: l, n, h => by
   simp only [weighS] at h
   split at h
   · split at h
     · omega
     · have := weighS_len l _ h
       refine ⟨by simp; omega, fun x hx => ?_⟩
       rcases List.mem_cons.1 hx with rfl | hx
       · omega
       · exact this.2 x hx
   · omega
def weigh2 (r : RuM) : Nat := if weighL (r.src.map matP) 0 ≤ 300 then weighL (r.src.map matP) 0 + weighL (r.tgt.map matP) 0 else weighL (r.src.map matP) 0
def weighR (r : RuM) : Nat := weighS r.eq (weigh2 r)
theorem weigh2_le (r : RuM) : weigh2 r ≤ 700 := by
 have := weighL_le (r.src.map matP) 0
 have := weighL_le (r.tgt.map matP) 0
 unfold weigh2
 split <;> omega
section
variable (σ : St)
theorem weighrule_ans (r : RuM) : Ans Tryz.prog 5 [ruV r, I 300] σ (I (weighR r : Nat)) σ := by
 have hw2 := weigh2_le r
 obtain ⟨src, tgt, any, lo, hi, eq⟩ := r
 unfold ruV
 simp only
 have h1 := fun σ => weigh_mats_ans σ src
 have h2 := fun σ => weigh_mats_ans σ tgt
 generalize hR : weighR ⟨src, tgt, any, lo, hi, eq⟩ = R
 have hR' : weighS eq (weigh2 ⟨src, tgt, any, lo, hi, eq⟩) = R := hR
 have hx1 := weighL_le (src.map matP) 0
 have hx2 := weighL_le (tgt.map matP) 0
 have w0 : IntKind.i64.wrap (300 + 1) = 301 := by decide
 have w1 : IntKind.i64.wrap 301 = 301 := by decide
 refine Ans.of_run t5 ?_
 simp -implicitDefEqProofs only [c5, r5, go_sem]
 refine CO.intro (h1 _) ?_
 unfold weigh2 at hR' hw2
 simp only at hR' hw2
 generalize weighL (src.map matP) 0 = n1 at h1 hx1 hR' hw2 ⊢
 generalize weighL (tgt.map matP) 0 = n2 at h2 hx2 hR' hw2 ⊢
 have hd : decide ((n1 : Int) ≤ 300) = decide (n1 ≤ 300) := int_le n1 300
 have hwd : IntKind.i64.wrap ((n1 : Int) + (n2 : Nat)) = ((n1 + n2 : Nat) : Int) := by rw [wrapN (by omega) (by omega)]; omega
 cases hb : decide (n1 ≤ 300) with
 | true =>
   rw [hb] at hd
   rw [if_pos (of_decide_eq_true hb)] at hR' hw2
   simp -implicitDefEqProofs only [go_sem, hd]
   refine CO.intro (h2 _) ?_
   simp -implicitDefEqProofs only [go_sem, hwd]
   generalize n1 + n2 = n0 at hR' hw2 ⊢
   refine Go.Ab.L.intro (α := { x : Nat × Nat // x.1 ≤ eq.length ∧ weighS (eq.drop x.1) x.2 = R ∧ x.2 ≤ 1000 ∧ x.1 ≤ x.2 }) (fun x => eq.length - x.1.1)
    (fun x => mkE 55 [(1, I 300), (2, .rp [.sl 3 (mvs3 src), .sl 3 (mvs3 tgt), Bo any, Fl lo, Fl hi, .sl 1 (txs eq)]), (5, I x.1.2), (6, I x.1.1)])
    (fun _ => σ) (fun x J hJ => ?_) ⟨(0, n0), Nat.zero_le _, hR', by simp only; omega, Nat.zero_le _⟩ rfl rfl
   obtain ⟨⟨i, n⟩, q1, q2, q3, q4⟩ := x
   simp only at q1 q2 q3 q4 hJ ⊢
   have d2 : decide ((n : Int) ≤ 300) = decide (n ≤ 300) := int_le n 300
   by_cases hi : i < eq.length
   · have hget := txs_get eq i hi
     rw [List.drop_eq_getElem_cons hi, weighS] at q2
     have hJ' := fun m h1 h2 h3 => hJ ⟨(i + 1, m), hi, h1, h2, h3⟩ (by simp only; omega)
     simp only at hJ'
     clear hJ
     generalize eq[i] = y at q2 hget hJ'
     by_cases hn : n ≤ 300
     · rw [if_pos hn] at q2
       have e2 : decide (n ≤ 300) = true := by simpa using hn
       rw [e2] at d2
       have d3 : decide ((300 : Int) < y.size) = decide (300 < y.size) := decN 300 _
       by_cases ha : 300 < y.size
       · rw [if_pos ha] at q2
         rw [decide_eq_true ha] at d3
         simp -implicitDefEqProofs only [mkE, go_sem, txs_len, nat_lt hi, dec_lt hi, d2, d3, hget, w0, w1]
         subst q2
         exact Fini.ret rfl
       · rw [if_neg ha] at q2
         rw [decide_eq_false ha] at d3
         have a1 : IntKind.i64.wrap ((n : Int) + 1) = ((n + 1 : Nat) : Int) := wrap_nat (by omega)
         have a2 : IntKind.i64.wrap (((n + 1 : Nat) : Int) + (y.size : Nat)) = ((n + 1 + y.size : Nat) : Int) := by rw [wrapN (by omega) (by omega)]; omega
         have a4 : IntKind.i64.wrap ((i : Int) + 1) = ((i + 1 : Nat) : Int) := wrap_nat (by omega)
         have hJ2 := hJ' _ q2 (by omega) (by omega)
         simp -implicitDefEqProofs only [mkE, go_sem, txs_len, nat_lt hi, dec_lt hi, d2, d3, hget, a1, a2, a4]
         exact hJ2
     · rw [if_neg hn] at q2
       rw [decide_eq_false hn] at d2
       simp -implicitDefEqProofs only [mkE, go_sem, txs_len, nat_lt hi, dec_lt hi, d2, w0, w1]
       refine Fini.ret' rfl (int_congr ?_)
       split <;> omega
   · rw [List.drop_eq_nil_iff.2 (by omega), weighS] at q2
     simp -implicitDefEqProofs only [mkE, go_sem, txs_len, nat_nlt hi, dec_nlt hi, w0, w1]
     refine Fini.ret' rfl (int_congr ?_)
     split <;> omega
 | false =>
   rw [hb] at hd
   rw [if_neg (of_decide_eq_false hb)] at hR' hw2
   simp -implicitDefEqProofs only [go_sem, hd]
   generalize n1 = n0 at hR' hw2 ⊢
   refine Go.Ab.L.intro (α := { x : Nat × Nat // x.1 ≤ eq.length ∧ weighS (eq.drop x.1) x.2 = R ∧ x.2 ≤ 1000 ∧ x.1 ≤ x.2 }) (fun x => eq.length - x.1.1)
    (fun x => mkE 55 [(1, I 300), (2, .rp [.sl 3 (mvs3 src), .sl 3 (mvs3 tgt), Bo any, Fl lo, Fl hi, .sl 1 (txs eq)]), (5, I x.1.2), (6, I x.1.1)])
    (fun _ => σ) (fun x J hJ => ?_) ⟨(0, n0), Nat.zero_le _, hR', by simp only; omega, Nat.zero_le _⟩ rfl rfl
   obtain ⟨⟨i, n⟩, q1, q2, q3, q4⟩ := x
   simp only at q1 q2 q3 q4 hJ ⊢
   have d2 : decide ((n : Int) ≤ 300) = decide (n ≤ 300) := int_le n 300
   by_cases hi : i < eq.length
   · have hget := txs_get eq i hi
     rw [List.drop_eq_getElem_cons hi, weighS] at q2
     have hJ' := fun m h1 h2 h3 => hJ ⟨(i + 1, m), hi, h1, h2, h3⟩ (by simp only; omega)
     simp only at hJ'
     clear hJ
     generalize eq[i] = y at q2 hget hJ'
     by_cases hn : n ≤ 300
     · rw [if_pos hn] at q2
       have e2 : decide (n ≤ 300) = true := by simpa using hn
       rw [e2] at d2
       have d3 : decide ((300 : Int) < y.size) = decide (300 < y.size) := decN 300 _
       by_cases ha : 300 < y.size
       · rw [if_pos ha] at q2
         rw [decide_eq_true ha] at d3
         simp -implicitDefEqProofs only [mkE, go_sem, txs_len, nat_lt hi, dec_lt hi, d2, d3, hget, w0, w1]
         subst q2
         exact Fini.ret rfl
       · rw [if_neg ha] at q2
         rw [decide_eq_false ha] at d3
         have a1 : IntKind.i64.wrap ((n : Int) + 1) = ((n + 1 : Nat) : Int) := wrap_nat (by omega)
         have a2 : IntKind.i64.wrap (((n + 1 : Nat) : Int) + (y.size : Nat)) = ((n + 1 + y.size : Nat) : Int) := by rw [wrapN (by omega) (by omega)]; omega
         have a4 : IntKind.i64.wrap ((i : Int) + 1) = ((i + 1 : Nat) : Int) := wrap_nat (by omega)
         have hJ2 := hJ' _ q2 (by omega) (by omega)
         simp -implicitDefEqProofs only [mkE, go_sem, txs_len, nat_lt hi, dec_lt hi, d2, d3, hget, a1, a2, a4]
         exact hJ2
     · rw [if_neg hn] at q2
       rw [decide_eq_false hn] at d2
       simp -implicitDefEqProofs only [mkE, go_sem, txs_len, nat_lt hi, dec_lt hi, d2, w0, w1]
       refine Fini.ret' rfl (int_congr ?_)
       split <;> omega
   · rw [List.drop_eq_nil_iff.2 (by omega), weighS] at q2
     simp -implicitDefEqProofs only [mkE, go_sem, txs_len, nat_nlt hi, dec_nlt hi, w0, w1]
     refine Fini.ret' rfl (int_congr ?_)
     split <;> omega
theorem rr_a : Ans Tryz.prog 6 [] σ (Bo true) σ := rr_ok.frame (bel_all rfl) σ
end
end Go.Proofs.YtoadgajhkhejiaaGreat
namespace Go.Proofs.YtoadgajhkhejiaaGreat
open Go Go.Ab Go.Cod
set_option maxRecDepth 100000
abbrev daV (ns : List Int) (v : Nat) : AV := .agg [.sl 1 (ns.map I), Fl v]
end Go.Proofs.YtoadgajhkhejiaaGreat
namespace Go.Proofs.YtoadgajhkhejiaaGreat
open Go Go.Ab Go.Cod
set_option maxRecDepth 100000
theorem tmod128 (n : Nat) : ((n : Int).tmod 128) = ((n % 128 : Nat) : Int) := rfl
theorem tdiv128 (n : Nat) : ((n : Int).tdiv 128) = ((n / 128 : Nat) : Int) := rfl
theorem add128 (n : Nat) : IntKind.u8.wrap (((n % 128 % 256 : Nat) : Int) + 128) = ((n % 128 + 128 : Nat) : Int) := by
 have : (((n % 128 % 256 : Nat) : Int) + 128) = ((n % 128 % 256 + 128 : Nat) : Int) := by push_cast; rfl
 rw [this, wrap8N]
 congr 1; omega
section
variable (σ : St)
theorem dput_ans (n : Nat) (hn : n < 18446744073709551616) : Ans Tryz.prog 62 [UN n] σ (.osl σ.length (putN n).length) (σ ++ [.row 1 (byv (putN n))]) := by
 have h10 := putN_len10 hn
 refine Ans.of_run t62 ?_
 simp -implicitDefEqProofs only [c62, r62, go_sem]
 refine Go.Ab.L.intro (α := { p : Nat × Byt // p.1 < 18446744073709551616 ∧ p.2 ++ putN p.1 = putN n }) (fun p => p.1.1) (fun p => mkE 20 [(0, UN p.1.1), (3, .osl σ.length p.1.2.length)]) (fun p => σ ++ [.row 1 (byv p.1.2)]) ?_ ⟨(n, []), hn, rfl⟩ rfl rfl
 rintro ⟨⟨m, pre⟩, hm, hp⟩ J hJ
 have hl : pre.length + (putN m).length ≤ 10 := by rw [← List.length_append, hp]; exact h10
 have hw := wrapUN hm
 have hle : pre.length + 1 ≤ 2 ^ 32 := by omega
 by_cases h : m < 128
 · have d1 : decide ((128 : Int) ≤ m) = false := by simp; omega
   have d2 : IntKind.u8.wrap (m : Int) = m := by rw [wrap8N]; congr 1; omega
   simp -implicitDefEqProofs only [mkE, go_sem, d1, row1, byv_len, List.length_singleton, hle, d2]
   refine Fini.ret3 (n := 0) rfl ?_ ?_
   · show AV.osl σ.length (pre.length + 1) = AV.osl σ.length (putN n).length
     rw [← hp, putN_lt h]; simp
   · rw [List.set_append_right _ _ (Nat.le_refl _)]
     simp only [Nat.sub_self, List.set_cons_zero]
     rw [← hp, byv_append, putN_lt h, bc_of (show m < 256 by omega)]
     rfl
 · have d1 : decide ((128 : Int) ≤ m) = true := by simp; omega
   simp -implicitDefEqProofs only [mkE, go_sem, d1, row1, byv_len, List.length_singleton, hle, tmod128, wrap8N (n := m % 128), add128, tdiv128, wrapUN (show m / 128 < 18446744073709551616 by omega)]
   rw [List.set_append_right _ _ (Nat.le_refl _)]
   simp only [Nat.sub_self, List.set_cons_zero]
   have hgo := hJ ⟨(m / 128, pre ++ [(m % 128 + 128).toUInt8]), by simp only; omega, by
    rw [← hp]; simp only [List.append_assoc, List.singleton_append]; rw [putN_ge h]⟩ (by simp only; omega)
   simp only [byv_append, List.length_append, List.length_singleton] at hgo
   rw [bc_of (show m % 128 + 128 < 256 by omega)]
   exact hgo
theorem dputtext_ans (s : ByteArray) (hs : s.size ≤ 4294967280) : Ans Tryz.prog 39 [Sx s] σ (.sl 1 (byv (txtB s))) σ := by
 have h10 := putN_len10 (n := s.size) (by omega)
 have hsz := size_list s
 have hw := wrapUN (n := s.size) (by omega)
 have hle : (putN s.size).length + s.size ≤ 2 ^ 32 := by omega
 refine Ans.of_run' t39 (fun hbel _ => ?_)
 simp -implicitDefEqProofs only [c39, r39, go_sem, hw]
 refine CO.intro (dput_ans σ s.size (by omega)) ?_
 simp -implicitDefEqProofs only [go_sem, strA_byv, row1, byv_len, hsz, hle]
 simp -implicitDefEqProofs only [go_sem, g0, s0, byv_len, hsz, ← byv_append, List.length_append]
 exact Fini.trim2 (σ' := σ) (by show _ = some (AV.sl 1 (byv (txtB s))); rfl) rfl (Nat.le_refl _) (bel_byv _ _) hbel
end
end Go.Proofs.YtoadgajhkhejiaaGreat
namespace Go.Proofs.YtoadgajhkhejiaaGreat
open Go Go.Ab
set_option maxRecDepth 100000
def c9 : ACode :=
 (.seq (.ops [⟨some 1, none, .prim (.boxr (.tmp 0))⟩,
 ⟨some 2, none, .prim (.mov (.const (.bool false)))⟩])
 (.seq (.seq (.ops [⟨some 4, none, .prim (.fadr 0 (.tmp 1))⟩,
 ⟨some 5, none, .prim (.load 1 false (.tmp 4))⟩,
 ⟨some 6, none, .prim (.lenv (.tmp 5))⟩,
 ⟨some 7, none, .prim (.bin false .eql (.tmp 6) (.const (.int .i64 0)))⟩,
 ⟨some 8, none, .prim (.mov (.tmp 7))⟩,
 ⟨some 9, (some (8, false)), .prim (.fadr 1 (.tmp 1))⟩,
 ⟨some 10, (some (8, false)), .prim (.load 1 false (.tmp 9))⟩,
 ⟨some 11, (some (8, false)), .prim (.lenv (.tmp 10))⟩,
 ⟨some 12, (some (8, false)), .prim (.bin false .eql (.tmp 11) (.const (.int .i64 0)))⟩,
 ⟨some 13, none, .prim (.pick (.tmp 8) (.const (.bool true)) (.tmp 12))⟩,
 ⟨some 14, none, .prim (.mov (.tmp 13))⟩,
 ⟨some 15, (some (14, false)), .prim (.fadr 0 (.tmp 1))⟩,
 ⟨some 16, (some (14, false)), .prim (.load 1 false (.tmp 15))⟩,
 ⟨some 17, (some (14, false)), .call (.func 28) [(.tmp 16)]⟩,
 ⟨some 18, (some (14, false)), .prim (.un .not (.tmp 17))⟩,
 ⟨some 19, none, .prim (.pick (.tmp 14) (.const (.bool true)) (.tmp 18))⟩,
 ⟨some 20, none, .prim (.mov (.tmp 19))⟩,
 ⟨some 21, (some (20, false)), .prim (.fadr 1 (.tmp 1))⟩,
 ⟨some 22, (some (20, false)), .prim (.load 1 false (.tmp 21))⟩,
 ⟨some 23, (some (20, false)), .call (.func 28) [(.tmp 22)]⟩,
 ⟨some 24, (some (20, false)), .prim (.un .not (.tmp 23))⟩,
 ⟨some 25, none, .prim (.pick (.tmp 20) (.const (.bool true)) (.tmp 24))⟩,
 ⟨some 26, none, .prim (.mov (.tmp 25))⟩,
 ⟨some 27, (some (26, false)), .prim (.fadr 2 (.tmp 1))⟩,
 ⟨some 28, (some (26, false)), .prim (.load 3 true (.tmp 27))⟩,
 ⟨some 29, (some (26, false)), .call (.func 29) [(.tmp 28)]⟩,
 ⟨some 30, (some (26, false)), .prim (.un .not (.tmp 29))⟩,
 ⟨some 31, none, .prim (.pick (.tmp 26) (.const (.bool true)) (.tmp 30))⟩,
 ⟨some 32, none, .prim (.mov (.tmp 31))⟩,
 ⟨some 33, (some (32, false)), .prim (.fadr 5 (.tmp 1))⟩,
 ⟨some 34, (some (32, false)), .prim (.load 1 false (.tmp 33))⟩,
 ⟨some 35, (some (32, false)), .prim (.lenv (.tmp 34))⟩,
 ⟨some 36, (some (32, false)), .prim (.bin false .gtr (.tmp 35) (.const (.int .i64 4)))⟩,
 ⟨some 37, none, .prim (.pick (.tmp 32) (.const (.bool true)) (.tmp 36))⟩])
 (.cond (.tmp 37)
 (.seq (.ops [⟨some 2, none, .prim (.mov (.const (.bool false)))⟩])
 .ret)
 .skip))
 (.seq (.seq (.ops [⟨some 3, none, .prim (.mov (.const (.int .i64 0)))⟩])
 (.block 0 (.loop [0, 2, 4, 5, 6, 7, 8, 9, 10, 11, 12, 13, 14, 15, 16, 17, 18, 19, 20, 21, 22, 23, 24, 25, 26, 27, 28, 29, 30, 31, 32, 33, 34, 35, 36, 37, 38, 39, 40, 41, 42, 43, 44, 45, 46, 47, 48, 49, 50, 51, 52, 53, 54, 55, 56, 57, 58, 59, 60, 61, 62, 63, 64, 65, 66, 67, 68, 69] (.seq (.seq (.ops [⟨some 38, none, .prim (.mov (.tmp 3))⟩,
 ⟨some 39, none, .prim (.fadr 5 (.tmp 1))⟩,
 ⟨some 40, none, .prim (.load 1 false (.tmp 39))⟩,
 ⟨some 41, none, .prim (.lenv (.tmp 40))⟩,
 ⟨some 42, none, .prim (.bin false .lss (.tmp 38) (.tmp 41))⟩])
 (.cond (.tmp 42)
 .skip
 (.exit 0)))
 (.seq (.block 1 (.seq (.draw [⟨⟨some 45, none, .prim (.fadr 5 (.tmp 1))⟩, [], false, 0, 0⟩,
 ⟨⟨some 46, none, .prim (.load 1 false (.tmp 45))⟩, [0], false, 0, 0⟩,
 ⟨⟨some 47, none, .prim (.mov (.tmp 3))⟩, [], false, 0, 0⟩,
 ⟨⟨some 48, none, .prim (.iadrs 1 (.tmp 46) (.tmp 47))⟩, [0, 1, 2], false, 0, 0⟩,
 ⟨⟨some 49, none, .prim (.load 1 false (.tmp 48))⟩, [0, 1, 2, 3], false, 0, 0⟩,
 ⟨⟨some 50, none, .call (.func 30) [(.tmp 49)]⟩, [0, 1, 2, 3, 4], true, 0, 0⟩,
 ⟨⟨some 51, none, .prim (.un .not (.tmp 50))⟩, (List.range 6), false, 1, 1⟩,
 ⟨⟨some 52, none, .prim (.mov (.tmp 51))⟩, (List.range 7), false, 1, 1⟩,
 ⟨⟨some 53, (some (52, false)), .prim (.mov (.tmp 3))⟩, (List.range 8), false, 1, 1⟩,
 ⟨⟨some 54, (some (52, false)), .prim (.bin false .gtr (.tmp 53) (.const (.int .i64 0)))⟩, (List.range 9), false, 1, 1⟩,
 ⟨⟨some 55, (some (52, false)), .prim (.mov (.tmp 54))⟩, (List.range 10), false, 1, 1⟩,
 ⟨⟨some 56, (some (55, true)), .prim (.fadr 5 (.tmp 1))⟩, (List.range 11), false, 1, 1⟩,
 ⟨⟨some 57, (some (55, true)), .prim (.load 1 false (.tmp 56))⟩, (List.range 12), false, 1, 1⟩,
 ⟨⟨some 58, (some (55, true)), .prim (.mov (.tmp 3))⟩, (List.range 11), false, 1, 1⟩,
 ⟨⟨some 59, (some (55, true)), .prim (.iadrs 1 (.tmp 57) (.tmp 58))⟩, (List.range 14), false, 1, 1⟩,
 ⟨⟨some 60, (some (55, true)), .prim (.load 1 false (.tmp 59))⟩, (List.range 15), false, 1, 1⟩,
 ⟨⟨some 61, (some (55, true)), .prim (.fadr 5 (.tmp 1))⟩, (List.range 11), false, 1, 1⟩,
 ⟨⟨some 62, (some (55, true)), .prim (.load 1 false (.tmp 61))⟩, [0, 1, 2, 3, 4, 5, 6, 7, 8, 9, 10, 16], false, 1, 1⟩,
 ⟨⟨some 63, (some (55, true)), .prim (.mov (.tmp 3))⟩, (List.range 11), false, 1, 1⟩,
 ⟨⟨some 64, (some (55, true)), .prim (.bin false .sub (.tmp 63) (.const (.int .i64 1)))⟩, [0, 1, 2, 3, 4, 5, 6, 7, 8, 9, 10, 18], false, 1, 1⟩,
 ⟨⟨some 65, (some (55, true)), .prim (.iadrs 1 (.tmp 62) (.tmp 64))⟩, [0, 1, 2, 3, 4, 5, 6, 7, 8, 9, 10, 16, 17, 18, 19], false, 1, 1⟩,
 ⟨⟨some 66, (some (55, true)), .prim (.load 1 false (.tmp 65))⟩, [0, 1, 2, 3, 4, 5, 6, 7, 8, 9, 10, 16, 17, 18, 19, 20], false, 1, 1⟩,
 ⟨⟨some 67, (some (55, true)), .prim (.bin false .leq (.tmp 60) (.tmp 66))⟩, (List.range 22), false, 1, 1⟩,
 ⟨⟨some 68, (some (52, false)), .prim (.pick (.tmp 55) (.tmp 67) (.const (.bool false)))⟩, (List.range 23), false, 1, 1⟩,
 ⟨⟨some 69, none, .prim (.pick (.tmp 52) (.const (.bool true)) (.tmp 68))⟩, (List.range 24), false, 1, 1⟩])
 (.cond (.tmp 69)
 (.seq (.ops [⟨some 2, none, .prim (.mov (.const (.bool false)))⟩])
 .ret)
 .skip)))
 (.ops [⟨some 43, none, .prim (.mov (.tmp 3))⟩,
 ⟨some 44, none, .prim (.bin false .add (.tmp 43) (.const (.int .i64 1)))⟩,
 ⟨some 3, none, .prim (.mov (.tmp 44))⟩]))))))
 (.seq (.ops [⟨some 2, none, .prim (.mov (.const (.bool true)))⟩])
 .ret))))
def o9 : List Tmp := []
def r9 : List RV := [.tmp 2]
theorem t9 : Text Tryz.prog 9 o9 c9 r9 70 := ⟨⟨Tryz.f9, _, by kernel_rfl, by kernel_rfl, rfl, by kernel_rfl, by kernel_rfl, rfl⟩, by kernel_rfl⟩
def c11 : ACode :=
 (.seq (.ops [⟨some 1, none, .prim (.boxr (.tmp 0))⟩,
 ⟨some 2, none, .prim (.mov (.const (.bool false)))⟩])
 (.seq (.ops [⟨some 3, none, .prim (.load 6 true (.tmp 1))⟩,
 ⟨some 4, none, .call (.func 9) [(.tmp 3)]⟩,
 ⟨some 5, none, .prim (.mov (.tmp 4))⟩,
 ⟨some 6, (some (5, true)), .prim (.fadr 0 (.tmp 1))⟩,
 ⟨some 7, (some (5, true)), .prim (.load 1 false (.tmp 6))⟩,
 ⟨some 8, (some (5, true)), .call (.func 32) [(.tmp 7)]⟩,
 ⟨some 9, (some (5, true)), .prim (.mov (.tmp 8))⟩,
 ⟨some 10, (some (9, false)), .prim (.fadr 1 (.tmp 1))⟩,
 ⟨some 11, (some (9, false)), .prim (.load 1 false (.tmp 10))⟩,
 ⟨some 12, (some (9, false)), .call (.func 32) [(.tmp 11)]⟩,
 ⟨some 13, (some (5, true)), .prim (.pick (.tmp 9) (.const (.bool true)) (.tmp 12))⟩,
 ⟨some 14, none, .prim (.pick (.tmp 5) (.tmp 13) (.const (.bool false)))⟩,
 ⟨some 2, none, .prim (.mov (.tmp 14))⟩])
 .ret))
def o11 : List Tmp := []
def r11 : List RV := [.tmp 2]
theorem t11 : Text Tryz.prog 11 o11 c11 r11 15 := ⟨⟨Tryz.f11, _, by kernel_rfl, by kernel_rfl, rfl, by kernel_rfl, by kernel_rfl, rfl⟩, by kernel_rfl⟩
def c13 : ACode :=
 (.seq (.ops [⟨some 2, none, .prim (.boxr (.tmp 0))⟩,
 ⟨some 3, none, .prim (.boxr (.tmp 1))⟩,
 ⟨some 4, none, .prim (.mov (.const (.bool false)))⟩])
 (.seq (.ops [⟨some 5, none, .prim (.load 6 true (.tmp 2))⟩,
 ⟨some 6, none, .call (.func 9) [(.tmp 5)]⟩,
 ⟨some 7, none, .prim (.mov (.tmp 6))⟩,
 ⟨some 8, (some (7, true)), .prim (.load 6 true (.tmp 2))⟩,
 ⟨some 9, (some (7, true)), .call (.func 11) [(.tmp 8)]⟩,
 ⟨some 10, (some (7, true)), .prim (.un .not (.tmp 9))⟩,
 ⟨some 11, none, .prim (.pick (.tmp 7) (.tmp 10) (.const (.bool false)))⟩,
 ⟨some 12, none, .prim (.mov (.tmp 11))⟩,
 ⟨some 13, (some (12, true)), .prim (.fadr 0 (.tmp 2))⟩,
 ⟨some 14, (some (12, true)), .prim (.load 1 false (.tmp 13))⟩,
 ⟨some 15, (some (12, true)), .prim (.fadr 1 (.tmp 3))⟩,
 ⟨some 16, (some (12, true)), .prim (.load 1 false (.tmp 15))⟩,
 ⟨some 17, (some (12, true)), .call (.func 36) [(.tmp 14), (.tmp 16)]⟩,
 ⟨some 18, none, .prim (.pick (.tmp 12) (.tmp 17) (.const (.bool false)))⟩,
 ⟨some 19, none, .prim (.mov (.tmp 18))⟩,
 ⟨some 20, (some (19, true)), .prim (.fadr 2 (.tmp 2))⟩,
 ⟨some 21, (some (19, true)), .prim (.load 3 true (.tmp 20))⟩,
 ⟨some 22, (some (19, true)), .prim (.fadr 2 (.tmp 3))⟩,
 ⟨some 23, (some (19, true)), .prim (.load 1 false (.tmp 22))⟩,
 ⟨some 24, (some (19, true)), .call (.func 37) [(.tmp 21), (.tmp 23)]⟩,
 ⟨some 25, none, .prim (.pick (.tmp 19) (.tmp 24) (.const (.bool false)))⟩,
 ⟨some 4, none, .prim (.mov (.tmp 25))⟩])
 .ret))
def o13 : List Tmp := []
def r13 : List RV := [.tmp 4]
theorem t13 : Text Tryz.prog 13 o13 c13 r13 26 := ⟨⟨Tryz.f13, _, by kernel_rfl, by kernel_rfl, rfl, by kernel_rfl, by kernel_rfl, rfl⟩, by kernel_rfl⟩
def c15 : ACode :=
 (.seq (.ops [⟨some 2, none, .prim (.boxr (.tmp 0))⟩,
 ⟨some 3, none, .prim (.boxr (.tmp 1))⟩,
 ⟨some 4, none, .prim (.mov (.const (.bool false)))⟩])
 (.seq (.ops [⟨some 5, none, .prim (.load 6 true (.tmp 2))⟩,
 ⟨some 6, none, .call (.func 9) [(.tmp 5)]⟩,
 ⟨some 7, none, .prim (.mov (.tmp 6))⟩,
 ⟨some 8, (some (7, true)), .prim (.load 6 true (.tmp 2))⟩,
 ⟨some 9, (some (7, true)), .call (.func 11) [(.tmp 8)]⟩,
 ⟨some 10, (some (7, true)), .prim (.un .not (.tmp 9))⟩,
 ⟨some 11, none, .prim (.pick (.tmp 7) (.tmp 10) (.const (.bool false)))⟩,
 ⟨some 12, none, .prim (.mov (.tmp 11))⟩,
 ⟨some 13, (some (12, true)), .prim (.fadr 1 (.tmp 2))⟩,
 ⟨some 14, (some (12, true)), .prim (.load 1 false (.tmp 13))⟩,
 ⟨some 15, (some (12, true)), .prim (.fadr 1 (.tmp 3))⟩,
 ⟨some 16, (some (12, true)), .prim (.load 1 false (.tmp 15))⟩,
 ⟨some 17, (some (12, true)), .call (.func 36) [(.tmp 14), (.tmp 16)]⟩,
 ⟨some 18, none, .prim (.pick (.tmp 12) (.tmp 17) (.const (.bool false)))⟩,
 ⟨some 4, none, .prim (.mov (.tmp 18))⟩])
 .ret))
def o15 : List Tmp := []
def r15 : List RV := [.tmp 4]
theorem t15 : Text Tryz.prog 15 o15 c15 r15 19 := ⟨⟨Tryz.f15, _, by kernel_rfl, by kernel_rfl, rfl, by kernel_rfl, by kernel_rfl, rfl⟩, by kernel_rfl⟩
def c17 : ACode :=
 (.seq (.ops [⟨some 4, none, .prim (.mov (.const (.string (ByteArray.mk #[]))))⟩])
 (.seq (.ops [⟨some 5, none, .prim (.mov (.const (.string (ByteArray.mk #[]))))⟩])
 (.seq (.seq (.ops [⟨some 6, none, .prim (.mov (.const (.int .i64 0)))⟩])
 (.block 0 (.loop [2, 3, 4, 7, 8, 9, 10, 11, 12, 13, 14, 15, 16, 17, 18, 19, 20, 21, 22, 23] (.seq (.seq (.ops [⟨some 7, none, .prim (.mov (.tmp 6))⟩,
 ⟨some 8, none, .prim (.mov (.tmp 1))⟩,
 ⟨some 9, none, .prim (.lenv (.tmp 8))⟩,
 ⟨some 10, none, .prim (.bin false .lss (.tmp 7) (.tmp 9))⟩])
 (.cond (.tmp 10)
 .skip
 (.exit 0)))
 (.seq (.block 1 (.ops [⟨some 13, none, .prim (.mov (.tmp 5))⟩,
 ⟨some 14, none, .prim (.mov (.tmp 0))⟩,
 ⟨some 15, none, .prim (.mov (.tmp 1))⟩,
 ⟨some 16, none, .prim (.mov (.tmp 6))⟩,
 ⟨some 17, none, .prim (.iadrs 1 (.tmp 15) (.tmp 16))⟩,
 ⟨some 18, none, .prim (.load 1 false (.tmp 17))⟩,
 ⟨some 19, none, .call (.func 40) [(.tmp 14), (.tmp 18)]⟩,
 ⟨some 20, none, .call (.func 39) [(.tmp 19)]⟩,
 ⟨some 21, none, .prim (.b2s (.tmp 20))⟩,
 ⟨some 22, none, .prim (.bin false .add (.tmp 13) (.tmp 21))⟩,
 ⟨some 5, none, .prim (.mov (.tmp 22))⟩]))
 (.ops [⟨some 11, none, .prim (.mov (.tmp 6))⟩,
 ⟨some 12, none, .prim (.bin false .add (.tmp 11) (.const (.int .i64 1)))⟩,
 ⟨some 6, none, .prim (.mov (.tmp 12))⟩]))))))
 (.seq (.ops [⟨some 23, none, .prim (.mov (.tmp 5))⟩,
 ⟨some 4, none, .prim (.mov (.tmp 23))⟩])
 .ret))))
def o17 : List Tmp := []
def r17 : List RV := [.tmp 4]
theorem t17 : Text Tryz.prog 17 o17 c17 r17 24 := ⟨⟨Tryz.f17, _, by kernel_rfl, by kernel_rfl, rfl, by kernel_rfl, by kernel_rfl, rfl⟩, by kernel_rfl⟩
def c29 : ACode :=
 (.seq (.ops [⟨some 1, none, .prim (.boxr (.tmp 0))⟩,
 ⟨some 2, none, .prim (.mov (.const (.bool false)))⟩])
 (.seq (.seq (.ops [⟨some 3, none, .prim (.fadr 0 (.tmp 1))⟩,
 ⟨some 4, none, .prim (.load 1 false (.tmp 3))⟩])
 (.cond (.tmp 4)
 (.seq (.ops [⟨some 5, none, .prim (.fadr 1 (.tmp 1))⟩,
 ⟨some 6, none, .prim (.load 1 false (.tmp 5))⟩,
 ⟨some 7, none, .call (.func 53) [(.tmp 6)]⟩,
 ⟨some 8, none, .prim (.bin false .eql (.tmp 7) (.const (.int .u64 0)))⟩,
 ⟨some 9, none, .prim (.mov (.tmp 8))⟩,
 ⟨some 10, (some (9, true)), .prim (.fadr 2 (.tmp 1))⟩,
 ⟨some 11, (some (9, true)), .prim (.load 1 false (.tmp 10))⟩,
 ⟨some 12, (some (9, true)), .call (.func 53) [(.tmp 11)]⟩,
 ⟨some 13, (some (9, true)), .prim (.bin false .eql (.tmp 12) (.const (.int .u64 0)))⟩,
 ⟨some 14, none, .prim (.pick (.tmp 9) (.tmp 13) (.const (.bool false)))⟩,
 ⟨some 2, none, .prim (.mov (.tmp 14))⟩])
 .ret)
 .skip))
 (.seq (.ops [⟨some 15, none, .prim (.fadr 1 (.tmp 1))⟩,
 ⟨some 16, none, .prim (.load 1 false (.tmp 15))⟩,
 ⟨some 17, none, .prim (.fadr 2 (.tmp 1))⟩,
 ⟨some 18, none, .prim (.load 1 false (.tmp 17))⟩,
 ⟨some 19, none, .prim (.bin false .leq (.tmp 16) (.tmp 18))⟩,
 ⟨some 2, none, .prim (.mov (.tmp 19))⟩])
 .ret)))
def o29 : List Tmp := []
def r29 : List RV := [.tmp 2]
theorem t29 : Text Tryz.prog 29 o29 c29 r29 20 := ⟨⟨Tryz.f29, _, by kernel_rfl, by kernel_rfl, rfl, by kernel_rfl, by kernel_rfl, rfl⟩, by kernel_rfl⟩
def c37 : ACode :=
 (.seq (.ops [⟨some 2, none, .prim (.boxr (.tmp 0))⟩,
 ⟨some 4, none, .prim (.mov (.const (.bool false)))⟩])
 (.seq (.seq (.ops [⟨some 5, none, .prim (.load 3 true (.tmp 2))⟩,
 ⟨some 6, none, .call (.func 29) [(.tmp 5)]⟩,
 ⟨some 7, none, .prim (.un .not (.tmp 6))⟩])
 (.cond (.tmp 7)
 (.seq (.ops [⟨some 4, none, .prim (.mov (.const (.bool false)))⟩])
 .ret)
 .skip))
 (.seq (.ops [⟨some 8, none, .prim (.fadr 0 (.tmp 2))⟩,
 ⟨some 9, none, .prim (.load 1 false (.tmp 8))⟩,
 ⟨some 10, none, .prim (.mov (.tmp 9))⟩,
 ⟨some 11, (some (10, false)), .prim (.fadr 1 (.tmp 2))⟩,
 ⟨some 12, (some (10, false)), .prim (.load 1 false (.tmp 11))⟩,
 ⟨some 13, (some (10, false)), .prim (.mov (.tmp 1))⟩,
 ⟨some 14, (some (10, false)), .prim (.bin false .leq (.tmp 12) (.tmp 13))⟩,
 ⟨some 15, (some (10, false)), .prim (.mov (.tmp 14))⟩,
 ⟨some 16, (some (15, true)), .prim (.mov (.tmp 1))⟩,
 ⟨some 17, (some (15, true)), .prim (.fadr 2 (.tmp 2))⟩,
 ⟨some 18, (some (15, true)), .prim (.load 1 false (.tmp 17))⟩,
 ⟨some 19, (some (15, true)), .prim (.bin false .leq (.tmp 16) (.tmp 18))⟩,
 ⟨some 20, (some (10, false)), .prim (.pick (.tmp 15) (.tmp 19) (.const (.bool false)))⟩,
 ⟨some 21, none, .prim (.pick (.tmp 10) (.const (.bool true)) (.tmp 20))⟩,
 ⟨some 4, none, .prim (.mov (.tmp 21))⟩])
 .ret)))
def o37 : List Tmp := []
def r37 : List RV := [.tmp 4]
theorem t37 : Text Tryz.prog 37 o37 c37 r37 22 := ⟨⟨Tryz.f37, _, by kernel_rfl, by kernel_rfl, rfl, by kernel_rfl, by kernel_rfl, rfl⟩, by kernel_rfl⟩
def c53 : ACode :=
 (.seq (.ops [⟨some 2, none, .prim (.mov (.const (.int .u64 0)))⟩])
 (.seq (.seq (.ops [⟨some 3, none, .prim (.mov (.tmp 0))⟩,
 ⟨some 4, none, .prim (.mov (.tmp 0))⟩,
 ⟨some 5, none, .prim (.bin false .neq (.tmp 3) (.tmp 4))⟩])
 (.cond (.tmp 5)
 (.seq (.ops [⟨some 2, none, .prim (.mov (.const (.int .u64 9221120237041090561)))⟩])
 .ret)
 .skip))
 (.seq (.ops [⟨some 6, none, .prim (.mov (.tmp 0))⟩,
 ⟨some 7, none, .call (.func 73) [(.tmp 6)]⟩,
 ⟨some 2, none, .prim (.mov (.tmp 7))⟩])
 .ret)))
def o53 : List Tmp := []
def r53 : List RV := [.tmp 2]
theorem t53 : Text Tryz.prog 53 o53 c53 r53 8 := ⟨⟨Tryz.f53, _, by kernel_rfl, by kernel_rfl, rfl, by kernel_rfl, by kernel_rfl, rfl⟩, by kernel_rfl⟩
end Go.Proofs.YtoadgajhkhejiaaGreat
namespace Go.Proofs.YtoadgajhkhejiaaGreat
open Go Go.Ab Go.Cod
set_option maxRecDepth 100000
section
variable (σ : St)
theorem dbits_ans (a : Nat) : Ans Tryz.prog 53 [Fl a] σ (UN (bitsF a)) σ := by
 refine Ans.of_run t53 ?_
 unfold bitsF
 simp -implicitDefEqProofs only [c53, r53, go_sem, nanF_def]
 cases nanF a with
 | true =>
   simp -implicitDefEqProofs only [go_sem]
   exact Fini.ret rfl
 | false =>
   simp -implicitDefEqProofs only [go_sem]
   refine CO.intro (f64bits_ans σ a) ?_
   simp -implicitDefEqProofs only [go_sem]
   exact Fini.ret rfl
theorem dmay_ans (any : Bool) (lo hi : Nat) : Ans Tryz.prog 29 [.agg [Bo any, Fl lo, Fl hi]] σ (Bo (mayB any lo hi)) σ := by
 refine Ans.of_run t29 ?_
 unfold mayB
 cases any with
 | true =>
   simp -implicitDefEqProofs only [c29, r29, go_sem]
   refine CO.intro (dbits_ans σ lo) ?_
   cases h : (((bitsF lo : Nat) : Int) == 0) with
   | false =>
     simp -implicitDefEqProofs only [go_sem, h]
     exact Fini.ret rfl
   | true =>
     simp -implicitDefEqProofs only [go_sem, h]
     refine CO.intro (dbits_ans σ hi) ?_
     simp -implicitDefEqProofs only [go_sem, h]
     exact Fini.ret rfl
 | false =>
   simp -implicitDefEqProofs only [c29, r29, go_sem, leF_def]
   exact Fini.ret rfl
theorem dinbd_ans (any : Bool) (lo hi v : Nat) : Ans Tryz.prog 37 [.agg [Bo any, Fl lo, Fl hi], Fl v] σ (Bo (inBd any lo hi v)) σ := by
 refine Ans.of_run t37 ?_
 simp -implicitDefEqProofs only [c37, r37, go_sem]
 refine CO.intro (dmay_ans σ any lo hi) ?_
 unfold inBd
 cases h1 : mayB any lo hi with
 | false =>
   simp -implicitDefEqProofs only [go_sem]
   exact Fini.ret rfl
 | true =>
   cases any with
   | true =>
     simp -implicitDefEqProofs only [go_sem]
     exact Fini.ret rfl
   | false =>
     simp -implicitDefEqProofs only [go_sem, leF_def]
     cases h2 : leF lo v with
     | false =>
       simp -implicitDefEqProofs only [go_sem]
       exact Fini.ret rfl
     | true =>
       simp -implicitDefEqProofs only [go_sem, leF_def]
       exact Fini.ret rfl
structure RSm (r : RuM) : Prop where
 src : ∀ x ∈ r.src, x.2.1.size ≤ 100000
 tgt : ∀ x ∈ r.tgt, x.2.1.size ≤ 100000
 eq : ∀ s ∈ r.eq, s.size ≤ 100000
theorem druis_ans (r : RuM) (hr : RSm r) : Ans Tryz.prog 9 [ruV r] σ (Bo (ruIs r)) σ := by
 obtain ⟨src, tgt, any, lo, hi, eq⟩ := r
 obtain ⟨hs, ht, he⟩ := hr
 simp only at hs ht he
 have d4 : decide ((4 : Int) < eq.length) = decide (4 < eq.length) := decNN 4 _
 refine Ans.of_run t9 ?_
 unfold ruIs ruV
 simp only
 cases h1 : (((src.length : Nat) : Int) == 0) with
 | true =>
   simp -implicitDefEqProofs only [c9, r9, go_sem, mvs3_len, h1]
   exact Fini.ret rfl
 | false =>
 cases h2 : (((tgt.length : Nat) : Int) == 0) with
 | true =>
   simp -implicitDefEqProofs only [c9, r9, go_sem, mvs3_len, h1, h2]
   exact Fini.ret rfl
 | false =>
 simp -implicitDefEqProofs only [c9, r9, go_sem, mvs3_len, h1, h2]
 refine CO.intro (dlist_ans σ src hs) ?_
 cases h3 : listB src with
 | false =>
   simp -implicitDefEqProofs only [go_sem]
   exact Fini.ret rfl
 | true =>
 simp -implicitDefEqProofs only [go_sem]
 refine CO.intro (dlist_ans σ tgt ht) ?_
 cases h4 : listB tgt with
 | false =>
   simp -implicitDefEqProofs only [go_sem]
   exact Fini.ret rfl
 | true =>
 simp -implicitDefEqProofs only [go_sem]
 refine CO.intro (dmay_ans σ any lo hi) ?_
 cases h5 : mayB any lo hi with
 | false =>
   simp -implicitDefEqProofs only [go_sem]
   exact Fini.ret rfl
 | true =>
 unfold eqB
 by_cases h6 : eq.length ≤ 4
 · have x4 : decide (4 < eq.length) = false := decide_eq_false (by omega)
   rw [decide_eq_true h6]
   simp -implicitDefEqProofs only [go_sem, txs_len, d4, x4]
   refine Go.Ab.L.scan eq.length (eqOk eq) (fun i => mkE 70 [(1, .rp [.sl 3 (mvs3 src), .sl 3 (mvs3 tgt), Bo any, Fl lo, Fl hi, .sl 1 (txs eq)]), (3, I i)]) (fun _ => σ) ?_ ?_ rfl rfl
   · intro i hi hp J hJ
     have hx := txs_D eq i hi
     have hsz : (eq.getD i ⟨#[]⟩).size ≤ 100000 := by
      rw [List.getD_eq_getElem?_getD, List.getElem?_eq_getElem hi]; exact he _ (List.getElem_mem hi)
     have hF : eqOk eq i = false → (List.range eq.length).all (eqOk eq) = false := fun h => List.all_eq_false.2 ⟨i, List.mem_range.2 hi, by rw [h]; decide⟩
     have hin := wrap_succ (i := i) (by omega)
     have d0 : decide ((0 : Int) < i) = decide (0 < i) := by rw [Bool.eq_iff_iff]; simp
     have hO : eqOk eq i = (nameB (eq.getD i ⟨#[]⟩) && !(decide (0 < i) && leS (eq.getD i ⟨#[]⟩) (eq.getD (i - 1) ⟨#[]⟩))) := rfl
     rw [hO] at hJ hF
     have hnm := fun σ => dname_ans σ (eq.getD i ⟨#[]⟩) hsz
     simp -implicitDefEqProofs only [mkE, go_sem, txs_len, nat_lt hi, dec_lt hi, hx, D_callS]
     first | refine CD.intro (hnm _) ?_ | refine CS.intro hnm ?_
     generalize eq.getD i ⟨#[]⟩ = s at hJ hF hx
     cases hb : nameB s with
     | false =>
       rw [hb] at hF
       rw [hF rfl]
       simp -implicitDefEqProofs only [go_sem]
       exact Fini.ret rfl
     | true =>
       rw [hb] at hJ hF
       by_cases hz : i = 0
       · subst hz
         have hgo := hJ rfl
         simp -implicitDefEqProofs only [go_sem, d0, hin]
         exact hgo
       · have hpos : decide (0 < i) = true := decide_eq_true (by omega)
         have hx1 := txs_D eq (i - 1) (by omega)
         have w1 : IntKind.i64.wrap ((i : Int) - 1) = ((i - 1 : Nat) : Int) := by rw [wrapN (by omega) (by omega)]; omega
         have hlt1 : (((i - 1 : Nat) : Int) < eq.length) = True := by simp; omega
         rw [hpos] at hJ hF
         generalize eq.getD (i - 1) ⟨#[]⟩ = s1 at hJ hF hx1
         have hle : (Op.bytesLess s.toList s1.toList || s.toList == s1.toList) = leS s s1 := rfl
         simp -implicitDefEqProofs only [go_sem, d0, hpos, w1, txs_len, hlt1, hx1, hx, nat_lt hi, hle]
         cases h7 : leS s s1 with
         | true =>
           rw [h7] at hF
           rw [hF rfl]
           simp -implicitDefEqProofs only [go_sem]
           exact Fini.ret rfl
         | false =>
           rw [h7] at hJ
           have hgo := hJ rfl
           simp -implicitDefEqProofs only [go_sem, hin]
           exact hgo
   · intro hp J
     have hd : decide ((eq.length : Int) < eq.length) = false := by simp
     simp -implicitDefEqProofs only [mkE, go_sem, txs_len, hd]
     refine Fini.ret' rfl (bo_congr ?_)
     exact (List.all_eq_true.2 fun i hi => hp i (List.mem_range.1 hi)).symm
 · have x4 : decide (4 < eq.length) = true := decide_eq_true (by omega)
   rw [decide_eq_false h6]
   simp -implicitDefEqProofs only [go_sem, txs_len, d4, x4]
   exact Fini.ret rfl
theorem drularge_ans (r : RuM) (hr : RSm r) : Ans Tryz.prog 11 [ruV r] σ (Bo (ruLarge r)) σ := by
 have hi := druis_ans σ r hr
 refine Ans.of_run t11 ?_
 unfold ruLarge
 unfold ruV at hi ⊢
 simp -implicitDefEqProofs only [c11, r11, go_sem]
 refine CO.intro hi ?_
 cases h : ruIs r with
 | false =>
   simp -implicitDefEqProofs only [go_sem]
   exact Fini.ret rfl
 | true =>
   obtain ⟨h1, h2, _⟩ := ruIs_len h
   have l1 := (listB_len h1)
   have l2 := (listB_len h2)
   simp -implicitDefEqProofs only [go_sem]
   refine CO.intro (danylarge_ans σ r.src (by omega) hr.src) ?_
   cases h3 : anyLarge r.src with
   | true =>
     simp -implicitDefEqProofs only [go_sem]
     exact Fini.ret rfl
   | false =>
     simp -implicitDefEqProofs only [go_sem]
     refine CO.intro (danylarge_ans σ r.tgt (by omega) hr.tgt) ?_
     simp -implicitDefEqProofs only [go_sem]
     exact Fini.ret rfl
theorem drusrc_ans (r : RuM) (hr : RSm r) (k : Int) (L : List Lab) (v : Nat) (hl : L.length ≤ 1000) (hL : ∀ nm, (getL L nm).size ≤ 100000) : Ans Tryz.prog 13 [ruV r, alV k L v] σ (Bo (ruSrc r L v)) σ := by
 have hi := druis_ans σ r hr
 have hla := drularge_ans σ r hr
 refine Ans.of_run t13 ?_
 unfold ruSrc ruWorks
 unfold ruV at hi hla ⊢
 unfold alV
 simp -implicitDefEqProofs only [c13, r13, go_sem]
 refine CO.intro hi ?_
 cases h : ruIs r with
 | false =>
   simp -implicitDefEqProofs only [go_sem]
   exact Fini.ret rfl
 | true =>
   have l1 := listB_len (ruIs_len h).1
   simp -implicitDefEqProofs only [go_sem]
   refine CO.intro hla ?_
   cases h2 : ruLarge r with
   | true =>
     simp -implicitDefEqProofs only [go_sem]
     exact Fini.ret rfl
   | false =>
     simp -implicitDefEqProofs only [go_sem]
     refine CO.intro (dall_ans σ r.src L (by omega) hl hr.src hL) ?_
     cases h3 : allHold r.src L with
     | false =>
       simp -implicitDefEqProofs only [go_sem]
       exact Fini.ret rfl
     | true =>
       simp -implicitDefEqProofs only [go_sem]
       refine CO.intro (dinbd_ans σ r.any r.lo r.hi v) ?_
       simp -implicitDefEqProofs only [go_sem]
       exact Fini.ret rfl
theorem drutgt_ans (r : RuM) (hr : RSm r) (k : Int) (L : List Lab) (v : Nat) (hl : L.length ≤ 1000) (hL : ∀ nm, (getL L nm).size ≤ 100000) : Ans Tryz.prog 15 [ruV r, alV k L v] σ (Bo (ruTgt r L)) σ := by
 have hi := druis_ans σ r hr
 have hla := drularge_ans σ r hr
 refine Ans.of_run t15 ?_
 unfold ruTgt ruWorks
 unfold ruV at hi hla ⊢
 unfold alV
 simp -implicitDefEqProofs only [c15, r15, go_sem]
 refine CO.intro hi ?_
 cases h : ruIs r with
 | false =>
   simp -implicitDefEqProofs only [go_sem]
   exact Fini.ret rfl
 | true =>
   have l1 := listB_len (ruIs_len h).2.1
   simp -implicitDefEqProofs only [go_sem]
   refine CO.intro hla ?_
   cases h2 : ruLarge r with
   | true =>
     simp -implicitDefEqProofs only [go_sem]
     exact Fini.ret rfl
   | false =>
     simp -implicitDefEqProofs only [go_sem]
     refine CO.intro (dall_ans σ r.tgt L (by omega) hl hr.tgt hL) ?_
     simp -implicitDefEqProofs only [go_sem]
     exact Fini.ret rfl
end
end Go.Proofs.YtoadgajhkhejiaaGreat
namespace Go.Proofs.YtoadgajhkhejiaaGreat
open Go Go.Ab Go.Cod
set_option maxRecDepth 100000
theorem arr_size (a : Byt) : (⟨a.toArray⟩ : ByteArray).size = a.length := by simp [ByteArray.size]
theorem arr_app (a b : Byt) : (⟨a.toArray⟩ : ByteArray) ++ (⟨b.toArray⟩ : ByteArray) = ⟨(a ++ b).toArray⟩ := by
 apply ByteArray.ext
 simp
section
variable (σ : St)
theorem dproject_ans (L : List Lab) (e : List ByteArray) (hl : L.length ≤ 1000) (hL : ∀ nm, (getL L nm).size ≤ 100000) (he : e.length ≤ 1000) :
  Ans Tryz.prog 17 [.sl 2 (lvs L), .sl 1 (txs e)] σ (Sx ⟨(keyL L e).toArray⟩) σ := by
 have hkl := keyL_len L e hL
 refine Ans.of_run t17 ?_
 simp -implicitDefEqProofs only [c17, r17, go_sem, txs_len]
 refine Go.Ab.L.count e.length (fun i => mkE 24 [(0, .sl 2 (lvs L)), (1, .sl 1 (txs e)), (5, Sx ⟨(keyL L (e.take i)).toArray⟩), (6, I i)]) (fun i => σ) ?_ ?_ rfl rfl
 · intro i hi J hJ
   have hx := txs_get e i hi
   have hb := hkl (i + 1) (by omega)
   rw [keyL_succ L e i hi] at hJ hb
   have hg := getlab_ans σ L e[i] hl
   have hs := hL e[i]
   generalize getL L e[i] = w at hJ hb hg hs
   generalize keyL L (e.take i) = pre at hJ hb ⊢
   simp only [List.length_append] at hb
   have hin := wrap_succ (i := i) (by omega)
   simp -implicitDefEqProofs only [mkE, go_sem, txs_len, nat_lt hi, dec_lt hi, hx]
   refine CO.intro hg ?_
   simp -implicitDefEqProofs only [go_sem]
   refine CO.intro (dputtext_ans _ w (by omega)) ?_
   have hsz : ((⟨pre.toArray⟩ : ByteArray).size + (⟨(txtB w).toArray⟩ : ByteArray).size ≤ 9223372036854775807) = True := eq_true (by rw [arr_size, arr_size]; omega)
   simp -implicitDefEqProofs only [go_sem, byv_all', bc, byteL_byv, textOf_byv, AV.isStr, hin, hsz, arr_app]
   exact hJ
 · intro J
   have hd : decide ((e.length : Int) < e.length) = false := by simp
   rw [List.take_length]
   simp -implicitDefEqProofs only [mkE, go_sem, txs_len, hd]
   exact Fini.ret rfl
end
end Go.Proofs.YtoadgajhkhejiaaGreat
