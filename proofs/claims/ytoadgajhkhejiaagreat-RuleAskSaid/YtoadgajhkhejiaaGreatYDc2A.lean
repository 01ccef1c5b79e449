/- How texts are compared. No condition. -/
import Derived.Test.YtoadgajhkhejiaaGreatYPChkBA
import GoSem.Extern.BytealgCompare
import Derived.Test.YtoadgajhkhejiaaGreatYMArgA
import Derived.Laws.Strings
import Derived.Test.YtoadgajhkhejiaaGreatYScan4A
set_option linter.unusedSimpArgs false
set_option linter.unusedVariables false
namespace Go.Proofs.YtoadgajhkhejiaaGreat
open Go Go.Ab
def cmpL : List UInt8 → List UInt8 → Int
 | [], [] => 0
 | [], _ :: _ => -1
 | _ :: _, [] => 1
 | a :: x, b :: y => if a != b then (if a < b then -1 else 1) else cmpL x y
def cmpI2 (x y : List UInt8) : Int := match (List.range (min x.length y.length)).find? fun i => x.getD i 0 != y.getD i 0 with
 | some i => if x.getD i 0 < y.getD i 0 then -1 else 1
 | none => if x.length < y.length then -1 else if x.length > y.length then 1 else 0
theorem cmpI2_eq : ∀ x y : List UInt8, cmpI2 x y = cmpL x y
 | [], [] => rfl
 | [], b :: y => by simp [cmpI2, cmpL]
 | a :: x, [] => by simp [cmpI2, cmpL]
 | a :: x, b :: y => by
   rw [cmpL, ← cmpI2_eq x y]
   unfold cmpI2
   rw [List.length_cons, List.length_cons, Nat.succ_min_succ, List.range_succ_eq_map, List.find?_cons]
   simp only [List.getD_cons_zero]
   cases h : (a != b) with
   | true => simp
   | false =>
     simp only [Bool.false_eq_true, if_false]
     rw [List.find?_map]
     simp only [Function.comp_def, List.getD_cons_succ]
     cases (List.range (min x.length y.length)).find? fun i => x.getD i 0 != y.getD i 0 with
     | none => simp
     | some i => simp
theorem cmpL_less : ∀ x y : List UInt8, cmpL x y = if x == y then 0 else if Op.bytesLess x y then -1 else 1
 | [], [] => rfl
 | [], b :: y => by simp [cmpL, Op.bytesLess]
 | a :: x, [] => by simp [cmpL, Op.bytesLess]
 | a :: x, b :: y => by
   rw [cmpL, cmpL_less x y, Op.bytesLess]
   by_cases h : a = b
   · subst h
     have : ¬ a < a := by simp
     simp [this]
   · by_cases hl : a < b
     · simp [h, hl]
     · simp [h, hl]
theorem cmp_data (a b : ByteArray) : Extern.BytealgCompare.cmp a b = cmpL a.data.toList b.data.toList := by
 rw [← cmpI2_eq]
 unfold Extern.BytealgCompare.cmp cmpI2
 have hg : ∀ (a : ByteArray) (i : Nat), a[i]! = a.data.toList.getD i 0 := fun a i => by
  rw [List.getD_eq_getElem?_getD, Array.getElem?_toList, getElem!_def]
  by_cases h : i < a.size
  · have h1 : a[i]? = some a[i] := by rw [getElem?_pos]
    have h2 : a.data[i]? = some a[i] := Array.getElem?_eq_getElem h
    rw [h1, h2]; rfl
  · have h1 : a[i]? = none := by rw [getElem?_neg]; exact h
    have h2 : a.data[i]? = none := Array.getElem?_eq_none (by simpa using h)
    rw [h1, h2]; rfl
 simp only [hg]
 rfl
end Go.Proofs.YtoadgajhkhejiaaGreat
namespace Go.Proofs.YtoadgajhkhejiaaGreat
open Go Go.Ab
set_option maxRecDepth 100000
def cmpS (a b : ByteArray) : Int := Extern.BytealgCompare.cmp a b
def cmpI (a b : Int) : Int := if a < b then -1 else if b < a then 1 else 0
def or3 (a b c : Int) : Int := if a != 0 then a else if b != 0 then b else c
def cmp3 (x y : Mtr) : Int := or3 (cmpS x.2.1 y.2.1) (cmpI x.1 y.1) (cmpS x.2.2 y.2.2)
section
variable (σ : St)
theorem strcmp_ans (a b : ByteArray) : Ans Tryz.prog 70 [Sx a, Sx b] σ (I (cmpS a b)) σ := by
 have h139 : Ans Tryz.prog 99 [Sx a, Sx b] σ (I (cmpS a b)) σ := cmp_ok _ _ _ _ rfl
 have h123 : Ans Tryz.prog 87 [Sx a, Sx b] σ (I (cmpS a b)) σ := by
  refine Ans.of_run t87 ?_
  simp -implicitDefEqProofs only [c87, r87, go_sem]
  refine CO.intro h139 ?_
  simp -implicitDefEqProofs only [go_sem]
  exact Fini.ret rfl
 refine Ans.of_run t70 ?_
 simp -implicitDefEqProofs only [c70, r70, go_sem]
 refine CO.intro h123 ?_
 simp -implicitDefEqProofs only [go_sem]
 exact Fini.ret rfl
theorem nan_ans (a : Int) : Ans Tryz.prog 88 [I a] σ (Bo false) σ := by
 have h : (a != a) = false := by simp
 refine Ans.of_run t88 ?_
 simp -implicitDefEqProofs only [c88, r88, go_sem, h]
 exact Fini.ret rfl
theorem intcmp_ans (a b : Int) : Ans Tryz.prog 71 [I a, I b] σ (I (cmpI a b)) σ := by
 unfold cmpI
 refine Ans.of_run t71 ?_
 simp -implicitDefEqProofs only [c71, r71, go_sem]
 refine CO.intro (nan_ans σ a) ?_
 simp -implicitDefEqProofs only [go_sem]
 refine CO.intro (nan_ans σ b) ?_
 simp -implicitDefEqProofs only [go_sem]
 by_cases h1 : a < b
 · have h1' : decide (a < b) = true := by simpa using h1
   simp -implicitDefEqProofs only [go_sem, h1']
   rw [if_pos h1]
   exact Fini.ret rfl
 · have h1' : decide (a < b) = false := by simpa using h1
   simp -implicitDefEqProofs only [go_sem, h1']
   rw [if_neg h1]
   by_cases h2 : b < a
   · have h2' : decide (b < a) = true := by simpa using h2
     simp -implicitDefEqProofs only [go_sem, h2']
     rw [if_pos h2]
     exact Fini.ret rfl
   · have h2' : decide (b < a) = false := by simpa using h2
     simp -implicitDefEqProofs only [go_sem, h2']
     rw [if_neg h2]
     exact Fini.ret rfl
def orF (a b c : Int) : Nat → Int
 | 0 => or3 a b c
 | 1 => if b != 0 then b else c
 | 2 => c
 | _ => 0
theorem or_ans (a b c : Int) : Ans Tryz.prog 69 [.sl 1 [I a, I b, I c]] σ (I (or3 a b c)) σ := by
 refine Ans.of_run t69 ?_
 simp -implicitDefEqProofs only [c69, r69, go_sem]
 generalize hres : or3 a b c = res
 refine Go.Ab.L.intro (α := { i : Nat // i ≤ 3 ∧ orF a b c i = res }) (fun x => 3 - x.1)
  (fun x => mkE 18 [(3, I 0), (6, .sl 1 [I a, I b, I c]), (7, I ((3 : Nat) : Int)), (8, I x.1)]) (fun _ => σ) (fun x J hJ => ?_) ⟨0, Nat.zero_le _, hres⟩ rfl rfl
 obtain ⟨i, hi, hg⟩ := x
 simp only at hJ ⊢
 have i4 : i = 0 ∨ i = 1 ∨ i = 2 ∨ i = 3 := by omega
 have w0 : IntKind.i64.wrap (((0 : Nat) : Int) + 1) = ((1 : Nat) : Int) := by decide
 have w1 : IntKind.i64.wrap (((1 : Nat) : Int) + 1) = ((2 : Nat) : Int) := by decide
 have w2 : IntKind.i64.wrap (((2 : Nat) : Int) + 1) = ((3 : Nat) : Int) := by decide
 rcases i4 with rfl | rfl | rfl | rfl
 · have d1 : decide (((0 : Nat) : Int) < ((3 : Nat) : Int)) = true := by decide
   have d2 : (((0 : Nat) : Int) < ((3 : Nat) : Int)) = True := by simp
   simp only [orF, or3] at hg
   simp -implicitDefEqProofs only [mkE, go_sem, d1, d2]
   cases h : a != 0
   · rw [h, if_neg Bool.false_ne_true] at hg
     have hJ' := hJ ⟨1, by omega, hg⟩ (by simp only; omega)
     simp only at hJ'
     simp -implicitDefEqProofs only [go_sem, w0]
     exact hJ'
   · rw [h, if_pos rfl] at hg
     simp -implicitDefEqProofs only [go_sem]
     rw [← hg]
     exact Fini.ret rfl
 · have d1 : decide (((1 : Nat) : Int) < ((3 : Nat) : Int)) = true := by decide
   have d2 : (((1 : Nat) : Int) < ((3 : Nat) : Int)) = True := by simp
   simp only [orF] at hg
   simp -implicitDefEqProofs only [mkE, go_sem, d1, d2]
   cases h : b != 0
   · rw [h, if_neg Bool.false_ne_true] at hg
     have hJ' := hJ ⟨2, by omega, hg⟩ (by simp only; omega)
     simp only at hJ'
     simp -implicitDefEqProofs only [go_sem, w1]
     exact hJ'
   · rw [h, if_pos rfl] at hg
     simp -implicitDefEqProofs only [go_sem]
     rw [← hg]
     exact Fini.ret rfl
 · have d1 : decide (((2 : Nat) : Int) < ((3 : Nat) : Int)) = true := by decide
   have d2 : (((2 : Nat) : Int) < ((3 : Nat) : Int)) = True := by simp
   simp only [orF] at hg
   simp -implicitDefEqProofs only [mkE, go_sem, d1, d2]
   cases h : c != 0
   · have hc : c = 0 := by simpa using h
     have hJ' := hJ ⟨3, by omega, by rw [← hg, hc]; rfl⟩ (by simp only; omega)
     simp only at hJ'
     simp -implicitDefEqProofs only [go_sem, w2]
     exact hJ'
   · simp -implicitDefEqProofs only [go_sem]
     rw [← hg]
     exact Fini.ret rfl
 · have d1 : decide (((3 : Nat) : Int) < ((3 : Nat) : Int)) = false := by decide
   have d2 : (((3 : Nat) : Int) < ((3 : Nat) : Int)) = False := by simp
   simp only [orF] at hg
   simp -implicitDefEqProofs only [mkE, go_sem, d1, d2]
   rw [← hg]
   exact Fini.ret rfl
theorem compare_ans (x y : Mtr) : Ans Tryz.prog 48 [mv3 x, mv3 y] σ (I (cmp3 x y)) σ := by
 have h1 := fun s => strcmp_ans s x.2.1 y.2.1
 have h2 := fun s => intcmp_ans s x.1 y.1
 have h3 := fun s => strcmp_ans s x.2.2 y.2.2
 have h4 := fun s => or_ans s (cmpS x.2.1 y.2.1) (cmpI x.1 y.1) (cmpS x.2.2 y.2.2)
 unfold cmp3
 refine Ans.of_run t48 ?_
 simp -implicitDefEqProofs only [c48, r48, go_sem, D_callS, mv3]
 first | refine CD.intro (h1 _) ?_ | refine CS.intro h1 ?_
 simp -implicitDefEqProofs only [go_sem, D_callS]
 first | refine CD.intro (h2 _) ?_ | refine CS.intro h2 ?_
 simp -implicitDefEqProofs only [go_sem, D_callS]
 first | refine CD.intro (h3 _) ?_ | refine CS.intro h3 ?_
 simp -implicitDefEqProofs only [go_sem, D_callS]
 first | refine CD.intro (h4 _) ?_ | refine CS.intro h4 ?_
 simp -implicitDefEqProofs only [go_sem]
 exact Fini.ret rfl
end
theorem cmpS_eq (a b : ByteArray) : cmpS a b = (if a.toList == b.toList then 0 else if Op.bytesLess a.toList b.toList then -1 else 1) := by
 rw [cmpS, cmp_data, cmpL_less, ByteArray.toList_eq, ByteArray.toList_eq]
def aheadD (x y : Mtr) : Bool :=
 if !(x.2.1.toList == y.2.1.toList) then Op.bytesLess x.2.1.toList y.2.1.toList
 else if !(x.1 == y.1) then decide (x.1 < y.1)
 else Op.bytesLess x.2.2.toList y.2.2.toList
theorem less_irrefl : ∀ x : List UInt8, Op.bytesLess x x = false
 | [] => rfl
 | a :: x => by rw [Op.bytesLess, less_irrefl x]; simp
theorem cmp3_aheadD (x y : Mtr) : decide (0 ≤ cmp3 x y) = !aheadD x y := by
 unfold cmp3 or3 aheadD
 rw [cmpS_eq, cmpS_eq]
 cases h1 : (x.2.1.toList == y.2.1.toList) with
 | false =>
   cases h2 : Op.bytesLess x.2.1.toList y.2.1.toList <;> simp
 | true =>
   simp only [Bool.not_true, Bool.false_eq_true, if_false, if_true]
   unfold cmpI
   by_cases h3 : x.1 < y.1
   · have : (x.1 == y.1) = false := by simp; omega
     simp [h3, this]
   · by_cases h4 : y.1 < x.1
     · have : (x.1 == y.1) = false := by simp; omega
       simp [h3, h4, this]
     · have h5 : (x.1 == y.1) = true := by simp; omega
       simp only [h3, h4, h5, if_false, Bool.not_true, Bool.false_eq_true]
       cases h6 : (x.2.2.toList == y.2.2.toList) with
       | true =>
         have : x.2.2.toList = y.2.2.toList := by simpa using h6
         rw [this, less_irrefl]; rfl
       | false => cases h7 : Op.bytesLess x.2.2.toList y.2.2.toList <;> simp
end Go.Proofs.YtoadgajhkhejiaaGreat
namespace Go.Proofs.YtoadgajhkhejiaaGreat
open Go Go.Ab
set_option maxRecDepth 100000
def epsTo (ys : List Stp) (p q : Nat) : Prop := ∃ s, ys[p]? = some s ∧ ((s.op = 2 ∧ (q = s.x.toNat ∨ q = s.y.toNat)) ∨ (s.op = 3 ∧ q = s.x.toNat))
inductive Eps (ys : List Stp) : Nat → Nat → Prop where
 | refl (p : Nat) : Eps ys p p
 | step {p q r : Nat} : epsTo ys p q → Eps ys q r → Eps ys p r
def waits (ys : List Stp) (p : Nat) : Prop := (stpAt ys p).op ≠ 2 ∧ (stpAt ys p).op ≠ 3
theorem bitW_get (i p : Nat) (hi : i < 64) : (bitW i).getLsbD p = decide (p = i) := by
 rw [bitW, BitVec.getLsbD_twoPow, Bool.eq_iff_iff]
 simp only [Bool.and_eq_true, decide_eq_true_eq]
 omega
structure Came (ys : List Stp) (at_ : Nat) (b r b' : BitVec 64) : Prop where
 sub : ∀ p, b.getLsbD p = true → b'.getLsbD p = true
 here : b'.getLsbD at_ = true
 new : ∀ p, b'.getLsbD p = true → b.getLsbD p = false → p < ys.length ∧ Eps ys at_ p
 succ : ∀ p, b'.getLsbD p = true → b.getLsbD p = false → ∀ q, epsTo ys p q → b'.getLsbD q = true
 out : ∀ p, r.getLsbD p = true ↔ (b'.getLsbD p = true ∧ b.getLsbD p = false ∧ waits ys p)
theorem stpAt_of {ys : List Stp} {p : Nat} {s : Stp} (h : ys[p]? = some s) : stpAt ys p = s := by
 rw [stpAt, List.getD_eq_getElem?_getD, h]; rfl
theorem pcome_came (ys : List Stp) (hin : stepsIn ys) (hl : ys.length ≤ 40) : ∀ (f at_ : Nat) (b : BitVec 64), 2 ^ 64 < b.toNat + f → at_ < ys.length → Came ys at_ b (pcome ys f at_ b).1 (pcome ys f at_ b).2
 | 0, at_, b, hf, ha => by have := b.isLt; omega
 | f + 1, at_, b, hf, ha => by
   have h64 : at_ < 64 := by omega
   rw [pcome]
   cases hb : b.getLsbD at_ with
   | true =>
     refine ⟨fun p h => h, hb, fun p h h' => ?_, fun p h h' => ?_, fun p => ?_⟩
     · exact absurd (h.symm.trans h') (by simp)
     · exact absurd (h.symm.trans h') (by simp)
     · simp; intro h h'; simp [h] at h'
   | false =>
   simp only [Bool.false_eq_true, if_false]
   have hy : ys[at_]? = some (ys[at_]'ha) := List.getElem?_eq_getElem ha
   rw [hy]
   have hs := hin _ (List.getElem_mem ha)
   have hgt := or_gt b at_ h64 hb
   generalize ys[at_]'ha = s at hy hs
   simp only
   have hB : ∀ p, (b ||| bitW at_).getLsbD p = (b.getLsbD p || decide (p = at_)) := fun p => by rw [BitVec.getLsbD_or, bitW_get _ _ h64]
   have hst := stpAt_of hy
   by_cases h2 : s.op = 2
   · have hx := (hs.1 h2).1
     have hy2 := (hs.1 h2).2
     rw [if_pos (by simpa using h2)]
     have c1 := pcome_came ys hin hl f s.x.toNat (b ||| bitW at_) (by omega) (by omega)
     have g1 := pcome_ge ys f s.x.toNat (b ||| bitW at_)
     have c2 := pcome_came ys hin hl f s.y.toNat (pcome ys f s.x.toNat (b ||| bitW at_)).2 (by omega) (by omega)
     generalize pcome ys f s.x.toNat (b ||| bitW at_) = q1 at c1 c2 ⊢
     generalize pcome ys f s.y.toNat q1.2 = q2 at c2 ⊢
     have hE1 : epsTo ys at_ s.x.toNat := ⟨s, hy, .inl ⟨h2, .inl rfl⟩⟩
     have hE2 : epsTo ys at_ s.y.toNat := ⟨s, hy, .inl ⟨h2, .inr rfl⟩⟩
     have hat : q1.2.getLsbD at_ = true := c1.sub at_ (by rw [hB]; simp)
     refine ⟨fun p h => c2.sub p (c1.sub p (by rw [hB, h]; rfl)), c2.sub _ hat, fun p h h' => ?_, fun p h h' q hq => ?_, fun p => ?_⟩
     · by_cases hp : p = at_
       · subst hp; exact ⟨ha, .refl _⟩
       · cases h1 : q1.2.getLsbD p with
         | true =>
           have := c1.new p h1 (by rw [hB, h']; simp [hp])
           exact ⟨this.1, .step hE1 this.2⟩
         | false =>
           have := c2.new p h h1
           exact ⟨this.1, .step hE2 this.2⟩
     · by_cases hp : p = at_
       · subst hp
         obtain ⟨s', h1, h⟩ := hq
         rw [hy] at h1
         cases h1
         rcases h with ⟨_, rfl | rfl⟩ | ⟨h3, _⟩
         · exact c2.sub _ c1.here
         · exact c2.here
         · omega
       · cases h1 : q1.2.getLsbD p with
         | true => exact c2.sub _ (c1.succ p h1 (by rw [hB, h']; simp [hp]) q hq)
         | false => exact c2.succ p h h1 q hq
     · rw [BitVec.getLsbD_or, Bool.or_eq_true, c1.out, c2.out, hB]
       constructor
       · rintro (⟨h1, h2', h3⟩ | ⟨h1, h2', h3⟩)
         · simp only [Bool.or_eq_false_iff] at h2'
           exact ⟨c2.sub p h1, h2'.1, h3⟩
         · refine ⟨h1, ?_, h3⟩
           cases hbp : b.getLsbD p with
           | false => rfl
           | true => rw [c1.sub p (by rw [hB, hbp]; rfl)] at h2'; cases h2'
       · rintro ⟨h1, h2', h3⟩
         have hp : p ≠ at_ := fun e => by subst e; rw [waits, hst] at h3; exact h3.1 h2
         cases hq : q1.2.getLsbD p with
         | true => exact .inl ⟨rfl, by rw [h2']; simp [hp], h3⟩
         | false => exact .inr ⟨h1, rfl, h3⟩
   · rw [if_neg (by simpa using h2)]
     by_cases h3 : s.op = 3
     · have hx := hs.2 h3
       rw [if_pos (by simpa using h3)]
       have c1 := pcome_came ys hin hl f s.x.toNat (b ||| bitW at_) (by omega) (by omega)
       generalize pcome ys f s.x.toNat (b ||| bitW at_) = q1 at c1 ⊢
       have hE1 : epsTo ys at_ s.x.toNat := ⟨s, hy, .inr ⟨h3, rfl⟩⟩
       have hat : q1.2.getLsbD at_ = true := c1.sub at_ (by rw [hB]; simp)
       refine ⟨fun p h => c1.sub p (by rw [hB, h]; rfl), hat, fun p h h' => ?_, fun p h h' q hq => ?_, fun p => ?_⟩
       · by_cases hp : p = at_
         · subst hp; exact ⟨ha, .refl _⟩
         · have := c1.new p h (by rw [hB, h']; simp [hp])
           exact ⟨this.1, .step hE1 this.2⟩
       · by_cases hp : p = at_
         · subst hp
           obtain ⟨s', h1, h⟩ := hq
           rw [hy] at h1
           cases h1
           rcases h with ⟨h2', _⟩ | ⟨_, rfl⟩
           · exact absurd h2' h2
           · exact c1.here
         · exact c1.succ p h (by rw [hB, h']; simp [hp]) q hq
       · rw [c1.out, hB]
         constructor
         · rintro ⟨h1, h2', h3'⟩
           simp only [Bool.or_eq_false_iff] at h2'
           exact ⟨h1, h2'.1, h3'⟩
         · rintro ⟨h1, h2', h3'⟩
           have hp : p ≠ at_ := fun e => by subst e; rw [waits, hst] at h3'; exact h3'.2 h3
           exact ⟨h1, by rw [h2']; simp [hp], h3'⟩
     · rw [if_neg (by simpa using h3)]
       refine ⟨fun p h => by rw [hB, h]; rfl, by rw [hB]; simp, fun p h h' => ?_, fun p h h' q hq => ?_, fun p => ?_⟩
       · rw [hB, h'] at h
         have hp : p = at_ := by simpa using h
         subst hp; exact ⟨ha, .refl _⟩
       · rw [hB, h'] at h
         have hp : p = at_ := by simpa using h
         subst hp
         obtain ⟨s', h1, h⟩ := hq
         rw [hy] at h1
         cases h1
         rcases h with ⟨h2', _⟩ | ⟨h3', _⟩
         · exact absurd h2' h2
         · exact absurd h3' h3
       · rw [bitW_get _ _ h64, hB]
         simp only [decide_eq_true_eq]
         constructor
         · rintro rfl
           exact ⟨by simp, hb, by rw [waits, hst]; exact ⟨h2, h3⟩⟩
         · rintro ⟨h1, h2', _⟩
           rw [h2'] at h1
           simpa using h1
end Go.Proofs.YtoadgajhkhejiaaGreat
namespace Go.Proofs.YtoadgajhkhejiaaGreat
open Go Go.Ab
set_option maxRecDepth 100000
theorem Eps.snoc {ys : List Stp} {p q r : Nat} (h : Eps ys p q) (h' : epsTo ys q r) : Eps ys p r := by
 induction h with
 | refl p => exact .step h' (.refl _)
 | step h1 _ ih => exact .step h1 (ih h')
def closedB (ys : List Stp) (b : BitVec 64) : Prop := ∀ p q, b.getLsbD p = true → epsTo ys p q → b.getLsbD q = true
theorem closed_eps {ys : List Stp} {b : BitVec 64} (hc : closedB ys b) {p q : Nat} (h : Eps ys p q) (hp : b.getLsbD p = true) : b.getLsbD q = true := by
 induction h with
 | refl p => exact hp
 | step h1 _ ih => exact ih (hc _ _ hp h1)
theorem zero_get (p : Nat) : (0 : BitVec 64).getLsbD p = false := by simp
section
variable {ys : List Stp} (hc : pcheck ys = true)
include hc
theorem came_F (at_ : Nat) (b : BitVec 64) (ha : at_ < ys.length) : Came ys at_ b (pcomeF ys at_ b).1 (pcomeF ys at_ b).2 := by
 obtain ⟨h1, _, h3⟩ := check_in hc
 exact pcome_came ys h1 h3 fuel at_ b (fuel_gt b) ha
theorem start_out (p : Nat) : (pstart ys).getLsbD p = true ↔ (waits ys p ∧ Eps ys 0 p) := by
 have h2 := (check_in hc).2.1
 have c := came_F hc 0 0 h2
 rw [pstart, c.out]
 have hcl : closedB ys (pcomeF ys 0 0).2 := fun p q hp hq => c.succ p hp (zero_get p) q hq
 constructor
 · rintro ⟨h, h', hw⟩
   exact ⟨hw, (c.new p h h').2⟩
 · rintro ⟨hw, he⟩
   exact ⟨closed_eps hcl he c.here, zero_get p, hw⟩
structure Nx (ys : List Stp) (now : BitVec 64) (c i : Nat) (to been : BitVec 64) : Prop where
 cl : closedB ys been
 from_ : ∀ p, been.getLsbD p = true → ∃ k, k < i ∧ now.getLsbD k = true ∧ takesS (stpAt ys k) c = true ∧ Eps ys (k + 1) p
 all : ∀ k, k < i → now.getLsbD k = true → takesS (stpAt ys k) c = true → been.getLsbD (k + 1) = true
 out : ∀ p, to.getLsbD p = true ↔ (been.getLsbD p = true ∧ waits ys p)
theorem nextL_nx (now : BitVec 64) (c : Nat) : ∀ i, i ≤ ys.length → Nx ys now c i (nextL ys now c i).1 (nextL ys now c i).2
 | 0, _ => ⟨fun p q h _ => (by rw [nextL, zero_get] at h; cases h), fun p h => (by rw [nextL, zero_get] at h; cases h), fun k h => absurd h (Nat.not_lt_zero _), fun p => (by rw [nextL]; simp)⟩
 | i + 1, hi => by
   have ih := nextL_nx now c i (by omega)
   rw [nextL]
   generalize nextL ys now c i = st at ih ⊢
   obtain ⟨to, been⟩ := st
   simp only at ih ⊢
   cases hg : (now.getLsbD i && takesS (stpAt ys i) c) with
   | false =>
     simp only [Bool.false_eq_true, if_false]
     refine ⟨ih.cl, fun p h => ?_, fun k hk hn ht => ?_, ih.out⟩
     · obtain ⟨k, h1, h2⟩ := ih.from_ p h
       exact ⟨k, by omega, h2⟩
     · by_cases hki : k = i
       · subst hki; rw [hn, ht] at hg; cases hg
       · exact ih.all k (by omega) hn ht
   | true =>
     simp only [if_true]
     simp only [Bool.and_eq_true] at hg
     have hop : (stpAt ys i).op = 1 := by
      have := hg.2; unfold takesS at this
      simp only [Bool.and_eq_true, beq_iff_eq] at this
      exact this.1
     have cm := came_F hc (i + 1) been (op1_lt hc (by omega) hop)
     generalize pcomeF ys (i + 1) been = q at cm ⊢
     refine ⟨fun p r hp hr => ?_, fun p h => ?_, fun k hk hn ht => ?_, fun p => ?_⟩
     · cases hb : been.getLsbD p with
       | true => exact cm.sub _ (ih.cl p r hb hr)
       | false => exact cm.succ p hp hb r hr
     · cases hb : been.getLsbD p with
       | true =>
         obtain ⟨k, h1, h2⟩ := ih.from_ p hb
         exact ⟨k, by omega, h2⟩
       | false => exact ⟨i, by omega, hg.1, hg.2, (cm.new p h hb).2⟩
     · by_cases hki : k = i
       · subst hki; exact cm.here
       · exact cm.sub _ (ih.all k (by omega) hn ht)
     · rw [BitVec.getLsbD_or, Bool.or_eq_true, ih.out, cm.out]
       constructor
       · rintro (⟨h1, h2⟩ | ⟨h1, _, h2⟩)
         · exact ⟨cm.sub _ h1, h2⟩
         · exact ⟨h1, h2⟩
       · rintro ⟨h1, h2⟩
         cases hb : been.getLsbD p with
         | true => exact .inl ⟨rfl, h2⟩
         | false => exact .inr ⟨h1, rfl, h2⟩
theorem next_out (now : BitVec 64) (c p : Nat) : (pnext ys now c).getLsbD p = true ↔ (waits ys p ∧ ∃ k, k < ys.length ∧ now.getLsbD k = true ∧ takesS (stpAt ys k) c = true ∧ Eps ys (k + 1) p) := by
 have n := nextL_nx hc now c ys.length (Nat.le_refl _)
 rw [pnext, n.out]
 constructor
 · rintro ⟨h, hw⟩
   exact ⟨hw, n.from_ p h⟩
 · rintro ⟨hw, k, h1, h2, h3, h4⟩
   exact ⟨closed_eps n.cl h4 (n.all k h1 h2 h3), hw⟩
end
inductive Reach (ys : List Stp) (s : ByteArray) : Nat → Nat → Prop where
 | zero : Reach ys s 0 0
 | eps {p q i : Nat} : Reach ys s p i → epsTo ys p q → Reach ys s q i
 | byte {p i : Nat} : Reach ys s p i → p < ys.length → i < s.size → takesS (stpAt ys p) (byteAt s i) = true → Reach ys s (p + 1) (i + 1)
theorem Reach.epss {ys : List Stp} {s : ByteArray} {p q i : Nat} (h : Reach ys s p i) (h' : Eps ys p q) : Reach ys s q i := by
 induction h' with
 | refl p => exact h
 | step h1 _ ih => exact ih (.eps h h1)
theorem Reach.last {ys : List Stp} {s : ByteArray} {q i : Nat} (h : Reach ys s q i) : (i = 0 ∧ Eps ys 0 q) ∨ ∃ j p, i = j + 1 ∧ j < s.size ∧ p < ys.length ∧ Reach ys s p j ∧ takesS (stpAt ys p) (byteAt s j) = true ∧ Eps ys (p + 1) q := by
 induction h with
 | zero => exact .inl ⟨rfl, .refl _⟩
 | eps _ h1 ih =>
   rcases ih with ⟨h, h'⟩ | ⟨j, p, h⟩
   · exact .inl ⟨h, h'.snoc h1⟩
   · exact .inr ⟨j, p, h.1, h.2.1, h.2.2.1, h.2.2.2.1, h.2.2.2.2.1, h.2.2.2.2.2.snoc h1⟩
 | byte h hp hi ht _ => exact .inr ⟨_, _, rfl, hi, hp, h, ht, .refl _⟩
theorem takes_waits {ys : List Stp} {p c : Nat} (h : takesS (stpAt ys p) c = true) : waits ys p := by
 unfold takesS at h
 simp only [Bool.and_eq_true, beq_iff_eq] at h
 exact ⟨by omega, by omega⟩
theorem now_out {ys : List Stp} (hc : pcheck ys = true) (s : ByteArray) : ∀ (i p : Nat), i ≤ s.size → ((nowL ys s i).getLsbD p = true ↔ (waits ys p ∧ Reach ys s p i))
 | 0, p, _ => by
   rw [nowL, start_out hc]
   constructor
   · rintro ⟨h, h'⟩; exact ⟨h, Reach.zero.epss h'⟩
   · rintro ⟨h, h'⟩
     rcases h'.last with ⟨_, h'⟩ | ⟨j, _, h', _⟩
     · exact ⟨h, h'⟩
     · omega
 | i + 1, p, hi => by
   rw [nowL, next_out hc]
   constructor
   · rintro ⟨h, k, h1, h2, h3, h4⟩
     have := ((now_out hc s i k (by omega)).1 h2).2
     exact ⟨h, (Reach.byte this h1 (by omega) h3).epss h4⟩
   · rintro ⟨h, h'⟩
     rcases h'.last with ⟨h', _⟩ | ⟨j, k, h1, h2, h3, h4, h5, h6⟩
     · omega
     · have : j = i := by omega
       subst this
       exact ⟨h, k, h3, (now_out hc s j k (by omega)).2 ⟨takes_waits h5, h4⟩, h5, h6⟩
theorem pmatch_reach {ys : List Stp} (hc : pcheck ys = true) (s : ByteArray) : pmatch ys s = true ↔ ∃ p, p < ys.length ∧ (stpAt ys p).op = 4 ∧ Reach ys s p s.size := by
 rw [pmatch, hc, Bool.true_and, List.any_eq_true]
 constructor
 · rintro ⟨p, hp, h⟩
   unfold endsAt at h
   simp only [Bool.and_eq_true, beq_iff_eq] at h
   exact ⟨p, List.mem_range.1 hp, h.2, ((now_out hc s _ p (Nat.le_refl _)).1 h.1).2⟩
 · rintro ⟨p, hp, h4, hr⟩
   refine ⟨p, List.mem_range.2 hp, ?_⟩
   unfold endsAt
   simp only [Bool.and_eq_true, beq_iff_eq]
   exact ⟨(now_out hc s _ p (Nat.le_refl _)).2 ⟨⟨by omega, by omega⟩, hr⟩, h4⟩
end Go.Proofs.YtoadgajhkhejiaaGreat
namespace Go.Proofs.YtoadgajhkhejiaaGreat
open Go Go.Ab
set_option maxRecDepth 100000
inductive Star (R : Nat → Nat → Prop) : Nat → Nat → Prop where
 | refl (i : Nat) : Star R i i
 | step {i m j : Nat} : R i m → Star R m j → Star R i j
section
variable (s : ByteArray)
mutual
def Mt : Rex → Nat → Nat → Prop
 | .mk op a b c d ks => fun i j =>
   if op == 1 then i < s.size ∧ j = i + 1 ∧ takesS ⟨1, a, b, c, d, 0, 0⟩ (byteAt s i) = true
   else if op == 2 then MtL ks i j
   else if op == 3 then MtA ks i j
   else if op == 4 then Star (MtH ks) i j
   else if op == 5 then ∃ m, MtH ks i m ∧ Star (MtH ks) m j
   else if op == 6 then i = j ∨ MtH ks i j
   else False
def MtL : List Rex → Nat → Nat → Prop
 | [] => fun i j => i = j
 | x :: xs => fun i j => ∃ m, Mt x i m ∧ MtL xs m j
def MtA : List Rex → Nat → Nat → Prop
 | [] => fun _ _ => False
 | x :: xs => fun i j => Mt x i j ∨ MtA xs i j
def MtH : List Rex → Nat → Nat → Prop
 | [] => fun _ _ => False
 | x :: _ => fun i j => Mt x i j
end
theorem Mt_eq (x : Rex) (i j : Nat) : Mt s x i j = (if x.op == 1 then i < s.size ∧ j = i + 1 ∧ takesS ⟨1, x.a, x.b, x.c, x.d, 0, 0⟩ (byteAt s i) = true
  else if x.op == 2 then MtL s x.ks i j
  else if x.op == 3 then MtA s x.ks i j
  else if x.op == 4 then Star (MtH s x.ks) i j
  else if x.op == 5 then ∃ m, MtH s x.ks i m ∧ Star (MtH s x.ks) m j
  else if x.op == 6 then i = j ∨ MtH s x.ks i j
  else False) := by
 cases x; simp only [Mt]; rfl
inductive Ed (ys : List Stp) : Nat × Nat → Nat × Nat → Prop where
 | eps {p q i : Nat} : epsTo ys p q → Ed ys (p, i) (q, i)
 | byte {p i : Nat} : p < ys.length → i < s.size → takesS (stpAt ys p) (byteAt s i) = true → Ed ys (p, i) (p + 1, i + 1)
def Run (ys : List Stp) (lo hi : Nat) : Nat → Nat × Nat → Nat × Nat → Prop
 | 0, c, d => c = d ∧ ¬ (lo ≤ c.1 ∧ c.1 < hi)
 | k + 1, c, d => (lo ≤ c.1 ∧ c.1 < hi) ∧ ∃ e, Ed s ys c e ∧ Run ys lo hi k e d
def Path (ys : List Stp) : Nat → Nat × Nat → Nat × Nat → Prop
 | 0, c, d => c = d
 | k + 1, c, d => ∃ e, Ed s ys c e ∧ Path ys k e d
variable {s} {ys : List Stp}
theorem Run.split {lo hi lo' hi' : Nat} (h1 : lo ≤ lo') (h2 : hi' ≤ hi) : ∀ (k : Nat) (c d : Nat × Nat), Run s ys lo hi k c d → ∃ k1 k2 m, k1 + k2 = k ∧ Run s ys lo' hi' k1 c m ∧ Run s ys lo hi k2 m d
 | 0, c, d, h => ⟨0, 0, c, rfl, ⟨rfl, fun hc => h.2 ⟨by omega, by omega⟩⟩, h⟩
 | k + 1, c, d, h => by
   by_cases hc : lo' ≤ c.1 ∧ c.1 < hi'
   · obtain ⟨_, e, he, hr⟩ := h
     obtain ⟨k1, k2, m, hk, h3, h4⟩ := Run.split h1 h2 k e d hr
     exact ⟨k1 + 1, k2, m, by omega, ⟨hc, e, he, h3⟩, h4⟩
   · exact ⟨0, k + 1, c, by omega, ⟨rfl, hc⟩, h⟩
theorem Path.run {lo hi : Nat} : ∀ (k : Nat) (c d : Nat × Nat), Path s ys k c d → ¬ (lo ≤ d.1 ∧ d.1 < hi) → ∃ k1 k2 m, Run s ys lo hi k1 c m ∧ Path s ys k2 m d
 | 0, c, d, h, hd => ⟨0, 0, c, ⟨rfl, by rw [show c = d from h]; exact hd⟩, h⟩
 | k + 1, c, d, h, hd => by
   by_cases hc : lo ≤ c.1 ∧ c.1 < hi
   · obtain ⟨e, he, hr⟩ := h
     obtain ⟨k1, k2, m, h3, h4⟩ := Path.run k e d hr hd
     exact ⟨k1 + 1, k2, m, ⟨hc, e, he, h3⟩, h4⟩
   · exact ⟨0, k + 1, c, ⟨rfl, hc⟩, h⟩
theorem Path.snoc : ∀ (k : Nat) (c d e : Nat × Nat), Path s ys k c d → Ed s ys d e → Path s ys (k + 1) c e
 | 0, c, d, e, h, he => by rw [show c = d from h]; exact ⟨e, he, rfl⟩
 | k + 1, c, d, e, h, he => by
   obtain ⟨f, hf, hr⟩ := h
   exact ⟨f, hf, Path.snoc k f d e hr he⟩
theorem Reach.path {p i : Nat} (h : Reach ys s p i) : ∃ k, Path s ys k (0, 0) (p, i) := by
 induction h with
 | zero => exact ⟨0, rfl⟩
 | eps _ h1 ih => obtain ⟨k, hk⟩ := ih; exact ⟨k + 1, hk.snoc _ _ _ _ (.eps h1)⟩
 | byte _ hp hi ht ih => obtain ⟨k, hk⟩ := ih; exact ⟨k + 1, hk.snoc _ _ _ _ (.byte hp hi ht)⟩
theorem Run.out {lo hi k : Nat} {c d : Nat × Nat} (h : Run s ys lo hi k c d) (hc : ¬ (lo ≤ c.1 ∧ c.1 < hi)) : k = 0 ∧ c = d := by
 cases k with
 | zero => exact ⟨rfl, h.1⟩
 | succ k => exact absurd h.1 hc
theorem Run.move {lo hi k : Nat} {c d : Nat × Nat} (h : Run s ys lo hi k c d) (hc : lo ≤ c.1 ∧ c.1 < hi) : ∃ k' e, k = k' + 1 ∧ Ed s ys c e ∧ Run s ys lo hi k' e d := by
 cases k with
 | zero => exact absurd hc h.2
 | succ k => obtain ⟨_, e, h1, h2⟩ := h; exact ⟨k, e, rfl, h1, h2⟩
theorem Ed.two {p i : Nat} {e : Nat × Nat} {st : Stp} (h : Ed s ys (p, i) e) (hs : ys[p]? = some st) (ho : st.op = 2) : e = (st.x.toNat, i) ∨ e = (st.y.toNat, i) := by
 cases h with
 | eps h =>
   obtain ⟨s', h1, h2⟩ := h
   rw [hs] at h1; cases h1
   rcases h2 with ⟨_, rfl | rfl⟩ | ⟨h3, _⟩
   · exact .inl rfl
   · exact .inr rfl
   · omega
 | byte h1 h2 h3 =>
   rw [stpAt_of hs] at h3
   simp [takesS, ho] at h3
theorem Ed.three {p i : Nat} {e : Nat × Nat} {st : Stp} (h : Ed s ys (p, i) e) (hs : ys[p]? = some st) (ho : st.op = 3) : e = (st.x.toNat, i) := by
 cases h with
 | eps h =>
   obtain ⟨s', h1, h2⟩ := h
   rw [hs] at h1; cases h1
   rcases h2 with ⟨h3, _⟩ | ⟨_, rfl⟩
   · omega
   · rfl
 | byte h1 h2 h3 =>
   rw [stpAt_of hs] at h3
   simp [takesS, ho] at h3
theorem Ed.one {p i : Nat} {e : Nat × Nat} {st : Stp} (h : Ed s ys (p, i) e) (hs : ys[p]? = some st) (ho : st.op = 1) : e = (p + 1, i + 1) ∧ i < s.size ∧ takesS st (byteAt s i) = true := by
 cases h with
 | eps h =>
   obtain ⟨s', h1, h2⟩ := h
   rw [hs] at h1; cases h1
   rcases h2 with ⟨h3, _⟩ | ⟨h3, _⟩ <;> omega
 | byte h1 h2 h3 =>
   rw [stpAt_of hs] at h3
   exact ⟨rfl, h2, h3⟩
theorem Ed.four {p i : Nat} {e : Nat × Nat} {st : Stp} (h : Ed s ys (p, i) e) (hs : ys[p]? = some st) (ho : st.op = 4) : False := by
 cases h with
 | eps h =>
   obtain ⟨s', h1, h2⟩ := h
   rw [hs] at h1; cases h1
   rcases h2 with ⟨h3, _⟩ | ⟨h3, _⟩ <;> omega
 | byte h1 h2 h3 =>
   rw [stpAt_of hs] at h3
   simp [takesS, ho] at h3
def Frag (ys : List Stp) (n : Nat) (l : List Stp) : Prop := ∀ k, k < l.length → ys[n + k]? = l[k]?
theorem Frag.left {n : Nat} {a b : List Stp} (h : Frag ys n (a ++ b)) : Frag ys n a := fun k hk => by
 rw [h k (by simp; omega), List.getElem?_append_left hk]
theorem Frag.right {n : Nat} {a b : List Stp} (h : Frag ys n (a ++ b)) : Frag ys (n + a.length) b := fun k hk => by
 rw [show n + a.length + k = n + (a.length + k) by omega, h _ (by simp; omega), List.getElem?_append_right (by omega)]
 congr 1; omega
theorem Frag.head {n : Nat} {a : Stp} {b : List Stp} (h : Frag ys n (a :: b)) : ys[n]? = some a := by
 have := h 0 (by simp); simpa using this
theorem Frag.tail {n : Nat} {a : Stp} {b : List Stp} (h : Frag ys n (a :: b)) : Frag ys (n + 1) b := fun k hk => by
 have := h (k + 1) (by simp; omega)
 rw [show n + 1 + k = n + (k + 1) by omega, this]; simp
end
end Go.Proofs.YtoadgajhkhejiaaGreat
namespace Go.Proofs.YtoadgajhkhejiaaGreat
open Go Go.Ab Rex
set_option maxRecDepth 100000
def joinB (a b : List Bool) : List Bool := (List.range a.length).map fun i => a.getD i false || b.getD i false
def starL (F : List Bool → List Bool) : Nat → List Bool → List Bool
 | 0, cur => cur
 | m + 1, cur => if joinB cur (F cur) == cur then cur else starL F m (joinB cur (F cur))
def byteB (s : ByteArray) (st : Stp) (S : List Bool) : List Bool := (List.range (s.size + 1)).map fun j => match j with
 | 0 => false
 | i + 1 => S.getD i false && takesS st (byteAt s i)
def noB (s : ByteArray) : List Bool := List.replicate (s.size + 1) false
section
variable (s : ByteArray)
mutual
def daft : Rex → List Bool → List Bool
 | .mk op a b c d ks => fun S =>
   if op == 1 then byteB s ⟨1, a, b, c, d, 0, 0⟩ S
   else if op == 2 then daftL ks S
   else if op == 3 then daftA ks S (noB s)
   else if op == 6 then joinB S (daftH ks S)
   else if op == 5 then starL (daftH ks) (s.size + 1) (daftH ks S)
   else starL (daftH ks) (s.size + 1) S
def daftL : List Rex → List Bool → List Bool
 | [] => fun S => S
 | x :: xs => fun S => daftL xs (daft x S)
def daftA : List Rex → List Bool → List Bool → List Bool
 | [] => fun _ acc => acc
 | x :: xs => fun S acc => daftA xs S (joinB acc (daft x S))
def daftH : List Rex → List Bool → List Bool
 | [] => fun S => S
 | x :: _ => fun S => daft x S
end
theorem daft_eq (x : Rex) (S : List Bool) : daft s x S = (if x.op == 1 then byteB s ⟨1, x.a, x.b, x.c, x.d, 0, 0⟩ S
  else if x.op == 2 then daftL s x.ks S
  else if x.op == 3 then daftA s x.ks S (noB s)
  else if x.op == 6 then joinB S (daftH s x.ks S)
  else if x.op == 5 then starL (daftH s x.ks) (s.size + 1) (daftH s x.ks S)
  else starL (daftH s x.ks) (s.size + 1) S) := by
 cases x; simp only [daft]; rfl
end
theorem joinB_len (a b : List Bool) : (joinB a b).length = a.length := by simp [joinB]
theorem joinB_get (a b : List Bool) (i : Nat) (h : i < a.length) : (joinB a b).getD i false = (a.getD i false || b.getD i false) := by
 rw [List.getD_eq_getElem?_getD, joinB, List.getElem?_map, List.getElem?_range h]; rfl
theorem getD_lt {a : List Bool} {i : Nat} (h : a.getD i false = true) : i < a.length := by
 refine Classical.byContradiction fun hn => ?_
 rw [List.getD_eq_getElem?_getD, List.getElem?_eq_none (by omega)] at h
 cases h
theorem joinB_iff (a b : List Bool) (hl : a.length = b.length) (i : Nat) : (joinB a b).getD i false = true ↔ (a.getD i false = true ∨ b.getD i false = true) := by
 constructor
 · intro h
   have := getD_lt h
   rw [joinB_len] at this
   rw [joinB_get _ _ _ this] at h
   simpa using h
 · intro h
   have : i < a.length := by rcases h with h | h <;> have := getD_lt h <;> omega
   rw [joinB_get _ _ _ this]
   simpa using h
def Leads (n : Nat) (F : List Bool → List Bool) (R : Nat → Nat → Prop) : Prop :=
 ∀ S : List Bool, S.length = n → (F S).length = n ∧ ∀ j, (F S).getD j false = true ↔ ∃ i, S.getD i false = true ∧ R i j
theorem starL_len {n : Nat} {F : List Bool → List Bool} : ∀ (m : Nat) (S : List Bool), S.length = n → (starL F m S).length = n
 | 0, S, h => h
 | m + 1, S, h => by
   rw [starL]; split
   · exact h
   · exact starL_len m _ (by rw [joinB_len]; exact h)
theorem star_sub {n : Nat} {F : List Bool → List Bool} {R : Nat → Nat → Prop} (hF : Leads n F R) : ∀ (m : Nat) (S : List Bool), S.length = n → ∀ j, S.getD j false = true → (starL F m S).getD j false = true
 | 0, S, h, j, hj => hj
 | m + 1, S, h, j, hj => by
   rw [starL]; split
   · exact hj
   · exact star_sub hF m _ (by rw [joinB_len]; exact h) j ((joinB_iff _ _ (by rw [h, (hF S h).1]) j).2 (.inl hj))
theorem Star.one {R : Nat → Nat → Prop} {i m j : Nat} (h : R i m) (h' : Star R m j) : Star R i j := .step h h'
theorem star_snd {n : Nat} {F : List Bool → List Bool} {R : Nat → Nat → Prop} (hF : Leads n F R) : ∀ (m : Nat) (S : List Bool), S.length = n → ∀ j, (starL F m S).getD j false = true → ∃ i, S.getD i false = true ∧ Star R i j
 | 0, S, h, j, hj => ⟨j, hj, .refl j⟩
 | m + 1, S, h, j, hj => by
   rw [starL] at hj
   split at hj
   · exact ⟨j, hj, .refl j⟩
   · obtain ⟨i, h1, h2⟩ := star_snd hF m _ (by rw [joinB_len]; exact h) j hj
     rcases (joinB_iff _ _ (by rw [h, (hF S h).1]) i).1 h1 with h1 | h1
     · exact ⟨i, h1, h2⟩
     · obtain ⟨i', h3, h4⟩ := ((hF S h).2 i).1 h1
       exact ⟨i', h3, .step h4 h2⟩
def cnt (S : List Bool) : Nat := S.countP id
theorem cnt_le (S : List Bool) : cnt S ≤ S.length := List.countP_le_length
theorem ext_getD {a b : List Bool} (hl : a.length = b.length) (h : ∀ i, i < a.length → a.getD i false = b.getD i false) : a = b := by
 refine List.ext_getElem hl fun i h1 h2 => ?_
 have := h i h1
 rw [List.getD_eq_getElem?_getD, List.getD_eq_getElem?_getD, List.getElem?_eq_getElem h1, List.getElem?_eq_getElem h2] at this
 exact this
theorem cnt_lt : ∀ (a b : List Bool), a.length = b.length → (∀ i, a.getD i false = true → b.getD i false = true) → a ≠ b → cnt a < cnt b
 | [], [], _, _, hne => absurd rfl hne
 | [], _ :: _, hl, _, _ => by cases hl
 | _ :: _, [], hl, _, _ => by cases hl
 | x :: a, y :: b, hl, hs, hne => by
   have hs' : ∀ i, a.getD i false = true → b.getD i false = true := fun i hi => by
    have := hs (i + 1); simp only [List.getD_cons_succ] at this; exact this hi
   have h0 : x = true → y = true := fun h => by have := hs 0; simp only [List.getD_cons_zero] at this; exact this h
   have hle : ∀ (a b : List Bool), a.length = b.length → (∀ i, a.getD i false = true → b.getD i false = true) → cnt a ≤ cnt b := by
    intro a
    induction a with
    | nil => intro b _ _; exact Nat.zero_le _
    | cons x a ih =>
      intro b hl hs
      cases b with
      | nil => cases hl
      | cons y b =>
        have h1 := ih b (by simpa using hl) fun i hi => by have := hs (i + 1); simp only [List.getD_cons_succ] at this; exact this hi
        have h2 : x = true → y = true := fun h => by have := hs 0; simp only [List.getD_cons_zero] at this; exact this h
        unfold cnt at h1 ⊢
        rw [List.countP_cons, List.countP_cons]
        cases x <;> cases y <;> simp at h2 ⊢ <;> omega
   have hl' : a.length = b.length := by simpa using hl
   by_cases hab : a = b
   · subst hab
     have : x ≠ y := fun e => hne (by rw [e])
     unfold cnt
     rw [List.countP_cons, List.countP_cons]
     cases x <;> cases y <;> simp at h0 this ⊢
   · have h1 := cnt_lt a b hl' hs' hab
     unfold cnt at h1 ⊢
     rw [List.countP_cons, List.countP_cons]
     cases x <;> cases y <;> simp at h0 ⊢ <;> omega
theorem star_closed {n : Nat} {F : List Bool → List Bool} {R : Nat → Nat → Prop} (hF : Leads n F R) : ∀ (m : Nat) (S : List Bool), S.length = n → n < cnt S + m →
  ∀ i j, (starL F m S).getD i false = true → R i j → (starL F m S).getD j false = true
 | 0, S, h, hm => by have := cnt_le S; omega
 | m + 1, S, h, hm => by
   intro i j
   rw [starL]
   have hj := (hF S h).1
   split
   · rename_i he
     intro hi hr
     have he' : joinB S (F S) = S := by simpa using he
     rw [← he']
     exact (joinB_iff _ _ (by rw [h, hj]) j).2 (.inr (((hF S h).2 j).2 ⟨i, hi, hr⟩))
   · rename_i he
     have he' : joinB S (F S) ≠ S := by simpa using he
     have := cnt_lt S (joinB S (F S)) (joinB_len _ _).symm (fun i hi => (joinB_iff _ _ (by rw [h, hj]) i).2 (.inl hi)) (fun e => he' e.symm)
     exact star_closed hF m _ (by rw [joinB_len]; exact h) (by omega) i j
theorem cnt_zero {S : List Bool} (h : cnt S = 0) (i : Nat) : S.getD i false = false := by
 cases hb : S.getD i false with
 | false => rfl
 | true =>
   have hi := getD_lt hb
   rw [List.getD_eq_getElem?_getD, List.getElem?_eq_getElem hi] at hb
   have := List.countP_eq_zero.1 h _ (List.getElem_mem hi)
   simp at hb; simp [hb] at this
theorem starL_leads {n : Nat} {F : List Bool → List Bool} {R : Nat → Nat → Prop} (hF : Leads n F R) : Leads n (starL F n) (Star R) := fun S h => by
 refine ⟨starL_len n S h, fun j => ⟨fun hj => star_snd hF n S h j hj, fun ⟨i, hi, hs⟩ => ?_⟩⟩
 by_cases hc : cnt S = 0
 · rw [cnt_zero hc i] at hi; cases hi
 · have hcl := star_closed hF n S h (by omega)
   have h0 := star_sub hF n S h i hi
   have key : ∀ i j, Star R i j → (starL F n S).getD i false = true → (starL F n S).getD j false = true := fun i j hs => by
    induction hs with
    | refl i => exact fun h => h
    | step h1 _ ih => exact fun h => ih (hcl _ _ h h1)
   exact key i j hs h0
end Go.Proofs.YtoadgajhkhejiaaGreat
namespace Go.Proofs.YtoadgajhkhejiaaGreat
open Go Go.Ab Rex
set_option maxRecDepth 100000
theorem layW_len (l : List Rex) : ∀ (n : Nat) (f g : Int), (layW n f l).length = (layW n g l).length := by
 induction l with
 | nil => intro n f g; rfl
 | cons x xs ih =>
   intro n f g
   rw [layW, layW]
   split
   · rfl
   · simp only [List.length_cons, List.length_append]; rw [ih _ f g]
section
variable {s : ByteArray} {ys : List Stp}
def Comp (s : ByteArray) (ys : List Stp) (x : Rex) : Prop := ∀ n i j, Frag ys n (lay n x) → Mt s x i j → Reach ys s n i → Reach ys s (n + (lay n x).length) j
def Snd (s : ByteArray) (ys : List Stp) (x : Rex) : Prop := ∀ n, Frag ys n (lay n x) → ∀ k i d, Run s ys n (n + (lay n x).length) k (n, i) d → d.1 = n + (lay n x).length ∧ Mt s x i d.2
theorem compL (l : List Rex) : ∀ n i j, (∀ k ∈ l, Comp s ys k) → Frag ys n (layL n l) → MtL s l i j → Reach ys s n i → Reach ys s (n + (layL n l).length) j := by
 induction l with
 | nil => intro n i j _ _ h hr; rw [show i = j from h] at hr; exact hr
 | cons x xs ih =>
   intro n i j hk hf h hr
   rw [layL] at hf ⊢
   obtain ⟨m, h1, h2⟩ := h
   have a1 := hk x List.mem_cons_self n i m hf.left h1 hr
   have a2 := ih _ m j (fun k hk' => hk k (List.mem_cons_of_mem _ hk')) hf.right h2 a1
   rw [List.length_append, ← Nat.add_assoc]
   exact a2
theorem compA (l : List Rex) : ∀ n F i j, (∀ k ∈ l, Comp s ys k) → Frag ys n (layW n (F : Nat) l) → n + (layW n (F : Nat) l).length = F → MtA s l i j → Reach ys s n i → Reach ys s F j := by
 induction l with
 | nil => intro n F i j _ _ _ h; exact absurd h id
 | cons x xs ih =>
   intro n F i j hk hf hF h hr
   rw [layW] at hf hF
   have hx := hk x List.mem_cons_self
   cases xs with
   | nil =>
     simp only [List.isEmpty_nil, if_true] at hf hF
     rw [← hF]
     rcases h with h | h
     · exact hx n i j hf h hr
     · exact absurd h id
   | cons y xs =>
     simp only [List.isEmpty_cons, Bool.false_eq_true, if_false] at hf hF
     have e0 := hf.head
     have f1 := hf.tail.left
     have f2 := hf.tail.right
     have f3 := f2.tail
     rcases h with h | h
     · have r1 : Reach ys s (n + 1) i := hr.eps ⟨_, e0, .inl ⟨rfl, .inl (by simp only; omega)⟩⟩
       have r2 := hx (n + 1) i j f1 h r1
       exact r2.eps ⟨_, f2.head, .inr ⟨rfl, by simp⟩⟩
     · have r1 : Reach ys s (n + 2 + (lay (n + 1) x).length) i := hr.eps ⟨_, e0, .inl ⟨rfl, .inr (by simp only; omega)⟩⟩
       have e1 : n + 1 + (lay (n + 1) x).length + 1 = n + 2 + (lay (n + 1) x).length := by omega
       rw [e1] at f3
       refine ih _ F i j (fun k hk' => hk k (List.mem_cons_of_mem _ hk')) f3 ?_ h r1
       simp only [List.length_cons, List.length_append] at hF
       omega
theorem compStar {R : Nat → Nat → Prop} {p : Nat} (hR : ∀ i j, R i j → Reach ys s p i → Reach ys s p j) {i j : Nat} (h : Star R i j) (hr : Reach ys s p i) : Reach ys s p j := by
 induction h with
 | refl i => exact hr
 | step h1 _ ih => exact ih (hR _ _ h1 hr)
theorem get_lt {l : List Stp} {p : Nat} {st : Stp} (h : l[p]? = some st) : p < l.length := (List.getElem?_eq_some_iff.1 h).1
theorem comp_all : ∀ (N : Nat) (x : Rex), SizeOf.sizeOf x < N → x.is = true → Comp s ys x
 | 0, x, h, _ => absurd h (Nat.not_lt_zero _)
 | N + 1, x, hN, his => by
   intro n i j hf h hr
   have hk : ∀ k ∈ x.ks, Comp s ys k := fun k hk => comp_all N k (by have := lt_of_mem hk; omega) (is_kid his hk)
   rw [Mt_eq] at h
   rw [lay_eq] at hf ⊢
   rcases is_ops his with h1 | h1 | h1 | h1 | h1 | h1
   · simp only [h1, beq_self_eq_true, if_true] at hf h ⊢
     obtain ⟨a1, rfl, a3⟩ := h
     have e0 := hf.head
     have := hr.byte (get_lt e0) a1 (by rw [stpAt_of e0]; exact a3)
     simpa using this
   · have e1 : ((2 : Int) == 1) = false := rfl
     simp only [h1, e1, beq_self_eq_true, if_true, Bool.false_eq_true, if_false] at hf h ⊢
     exact compL _ n i j hk hf h hr
   · have e1 : ((3 : Int) == 1) = false := rfl
     have e2 : ((3 : Int) == 2) = false := rfl
     simp only [h1, e1, e2, beq_self_eq_true, if_true, Bool.false_eq_true, if_false] at hf h ⊢
     rw [layW_len x.ks n _ 0]
     exact compA _ n _ i j hk hf (by rw [layW_len x.ks n _ 0]) h hr
   · obtain ⟨k, hks⟩ := is_one_kid his (.inl h1)
     have hkk := hk k (by rw [hks]; exact List.mem_cons_self)
     have e1 : ((4 : Int) == 1) = false := rfl
     have e2 : ((4 : Int) == 2) = false := rfl
     have e3 : ((4 : Int) == 3) = false := rfl
     simp only [h1, hks, e1, e2, e3, beq_self_eq_true, if_true, Bool.false_eq_true, if_false, layH, MtH] at hf h ⊢
     have e0 := hf.head
     have f1 := hf.tail.left
     have f2 := hf.tail.right
     have : Reach ys s n j := compStar (fun a b hab hra => by
      have r1 : Reach ys s (n + 1) a := hra.eps ⟨_, e0, .inl ⟨rfl, .inl (by simp only; omega)⟩⟩
      have r2 := hkk (n + 1) a b f1 hab r1
      exact r2.eps ⟨_, f2.head, .inr ⟨rfl, by simp⟩⟩) h hr
     have r3 := this.eps ⟨_, e0, .inl ⟨rfl, .inr rfl⟩⟩
     simp only [List.length_cons, List.length_append, List.length_nil] at r3 ⊢
     rw [show (((n + 2 + (lay (n + 1) k).length : Nat) : Int)).toNat = n + ((lay (n + 1) k).length + (0 + 1) + 1) by omega] at r3
     exact r3
   · obtain ⟨k, hks⟩ := is_one_kid his (.inr (.inl h1))
     have hkk := hk k (by rw [hks]; exact List.mem_cons_self)
     have e1 : ((5 : Int) == 1) = false := rfl
     have e2 : ((5 : Int) == 2) = false := rfl
     have e3 : ((5 : Int) == 3) = false := rfl
     have e4 : ((5 : Int) == 4) = false := rfl
     simp only [h1, hks, e1, e2, e3, e4, beq_self_eq_true, if_true, Bool.false_eq_true, if_false, layH, MtH] at hf h ⊢
     have f1 := hf.left
     have f2 := hf.right
     have e0 := f2.head
     obtain ⟨m, h2, h3⟩ := h
     have r1 := hkk n i m f1 h2 hr
     have r2 : Reach ys s (n + (lay n k).length) j := compStar (fun a b hab hra => by
      have r1 : Reach ys s n a := hra.eps ⟨_, e0, .inl ⟨rfl, .inl (by simp)⟩⟩
      exact hkk n a b f1 hab r1) h3 r1
     have r3 := r2.eps ⟨_, e0, .inl ⟨rfl, .inr rfl⟩⟩
     simp only [List.length_cons, List.length_append, List.length_nil] at r3 ⊢
     rw [show ((((n + (lay n k).length : Nat) : Int)) + 1).toNat = n + ((lay n k).length + (0 + 1)) by omega] at r3
     exact r3
   · obtain ⟨k, hks⟩ := is_one_kid his (.inr (.inr h1))
     have hkk := hk k (by rw [hks]; exact List.mem_cons_self)
     have e1 : ((6 : Int) == 1) = false := rfl
     have e2 : ((6 : Int) == 2) = false := rfl
     have e3 : ((6 : Int) == 3) = false := rfl
     have e4 : ((6 : Int) == 4) = false := rfl
     have e5 : ((6 : Int) == 5) = false := rfl
     simp only [h1, hks, e1, e2, e3, e4, e5, beq_self_eq_true, if_true, Bool.false_eq_true, if_false, layH, MtH] at hf h ⊢
     have e0 := hf.head
     have f1 := hf.tail
     rcases h with rfl | h
     · have r3 := hr.eps ⟨_, e0, .inl ⟨rfl, .inr rfl⟩⟩
       simp only [List.length_cons] at r3 ⊢
       rw [show (((n + 1 + (lay (n + 1) k).length : Nat) : Int)).toNat = n + ((lay (n + 1) k).length + 1) by omega] at r3
       exact r3
     · have r1 : Reach ys s (n + 1) i := hr.eps ⟨_, e0, .inl ⟨rfl, .inl (by simp only; omega)⟩⟩
       have r2 := hkk (n + 1) i j f1 h r1
       simp only [List.length_cons] at r2 ⊢
       rw [show n + 1 + (lay (n + 1) k).length = n + ((lay (n + 1) k).length + 1) by omega] at r2
       exact r2
end
end Go.Proofs.YtoadgajhkhejiaaGreat
namespace Go.Proofs.YtoadgajhkhejiaaGreat
open Go Go.Ab Rex
set_option maxRecDepth 100000
section
variable {s : ByteArray} {ys : List Stp}
theorem sndL (l : List Rex) : ∀ n, (∀ k ∈ l, Snd s ys k) → Frag ys n (layL n l) → ∀ k i d, Run s ys n (n + (layL n l).length) k (n, i) d → d.1 = n + (layL n l).length ∧ MtL s l i d.2 := by
 induction l with
 | nil =>
   intro n _ _ k i d h
   obtain ⟨_, rfl⟩ := h.out (by simp [layL])
   exact ⟨by simp [layL], rfl⟩
 | cons x xs ih =>
   intro n hk hf k i d h
   rw [layL] at hf h ⊢
   rw [List.length_append] at h ⊢
   obtain ⟨k1, k2, m, _, r1, r2⟩ := h.split (lo' := n) (hi' := n + (lay n x).length) (Nat.le_refl _) (by omega)
   obtain ⟨a1, a2⟩ := hk x List.mem_cons_self n hf.left k1 i m r1
   obtain ⟨m1, m2⟩ := m
   simp only at a1 a2
   subst a1
   obtain ⟨k3, k4, m', _, r3, r4⟩ := r2.split (lo' := n + (lay n x).length) (hi' := n + (lay n x).length + (layL (n + (lay n x).length) xs).length) (by omega) (by omega)
   obtain ⟨b1, b2⟩ := ih _ (fun k hk' => hk k (List.mem_cons_of_mem _ hk')) hf.right k3 m2 m' r3
   obtain ⟨_, rfl⟩ := r4.out (by omega)
   exact ⟨by omega, m2, a2, b2⟩
theorem sndA (l : List Rex) : ∀ n F, (∀ k ∈ l, Snd s ys k) → l ≠ [] → Frag ys n (layW n (F : Nat) l) → n + (layW n (F : Nat) l).length = F → ∀ k i d, Run s ys n F k (n, i) d → d.1 = F ∧ MtA s l i d.2 := by
 induction l with
 | nil => intro n F _ hne; exact absurd rfl hne
 | cons x xs ih =>
   intro n F hk _ hf hF k i d h
   rw [layW] at hf hF
   have hx := hk x List.mem_cons_self
   cases xs with
   | nil =>
     simp only [List.isEmpty_nil, if_true] at hf hF
     subst hF
     obtain ⟨a1, a2⟩ := hx n hf k i d h
     exact ⟨a1, .inl a2⟩
   | cons y xs =>
     simp only [List.isEmpty_cons, Bool.false_eq_true, if_false] at hf hF
     simp only [List.length_cons, List.length_append] at hF
     have e0 := hf.head
     have f1 := hf.tail.left
     have f2 := hf.tail.right
     have f3 := f2.tail
     have e1 : n + 1 + (lay (n + 1) x).length + 1 = n + 2 + (lay (n + 1) x).length := by omega
     rw [e1] at f3
     obtain ⟨k', e, _, he, hr⟩ := h.move (by simp only; omega)
     rcases he.two e0 rfl with rfl | rfl
     · simp only at hr
       rw [show ((n : Int) + 1).toNat = n + 1 by omega] at hr
       obtain ⟨k1, k2, m, _, r1, r2⟩ := hr.split (lo' := n + 1) (hi' := n + 1 + (lay (n + 1) x).length) (by omega) (by omega)
       obtain ⟨a1, a2⟩ := hx (n + 1) f1 k1 i m r1
       obtain ⟨m1, m2⟩ := m
       simp only at a1 a2
       subst a1
       obtain ⟨k3, e', _, he', hr'⟩ := r2.move (by simp only; omega)
       have := he'.three f2.head rfl
       subst this
       simp only at hr'
       rw [show ((F : Int)).toNat = F by omega] at hr'
       obtain ⟨_, rfl⟩ := hr'.out (by simp only; omega)
       exact ⟨rfl, .inl a2⟩
     · simp only at hr
       rw [show (((n + 2 + (lay (n + 1) x).length : Nat) : Int)).toNat = n + 2 + (lay (n + 1) x).length by omega] at hr
       obtain ⟨k1, k2, m, _, r1, r2⟩ := hr.split (lo' := n + 2 + (lay (n + 1) x).length) (hi' := F) (by omega) (by omega)
       obtain ⟨a1, a2⟩ := ih _ F (fun k hk' => hk k (List.mem_cons_of_mem _ hk')) (by simp) f3 (by omega) k1 i m r1
       obtain ⟨_, rfl⟩ := r2.out (by omega)
       exact ⟨a1, .inr a2⟩
theorem snd_all : ∀ (N : Nat) (x : Rex), SizeOf.sizeOf x < N → x.is = true → Snd s ys x
 | 0, x, h, _ => absurd h (Nat.not_lt_zero _)
 | N + 1, x, hN, his => by
   intro n hf k i d h
   have hk : ∀ k ∈ x.ks, Snd s ys k := fun k hk => snd_all N k (by have := lt_of_mem hk; omega) (is_kid his hk)
   rw [Mt_eq]
   rw [lay_eq] at hf h ⊢
   rcases is_ops his with h1 | h1 | h1 | h1 | h1 | h1
   · simp only [h1, beq_self_eq_true, if_true, List.length_cons, List.length_nil] at hf h ⊢
     have e0 := hf.head
     obtain ⟨k', e, _, he, hr⟩ := h.move (by simp only; omega)
     obtain ⟨rfl, a2, a3⟩ := he.one e0 rfl
     obtain ⟨_, rfl⟩ := hr.out (by simp only; omega)
     exact ⟨rfl, a2, rfl, a3⟩
   · have e1 : ((2 : Int) == 1) = false := rfl
     simp only [h1, e1, beq_self_eq_true, if_true, Bool.false_eq_true, if_false] at hf h ⊢
     exact sndL _ n hk hf k i d h
   · have e1 : ((3 : Int) == 1) = false := rfl
     have e2 : ((3 : Int) == 2) = false := rfl
     simp only [h1, e1, e2, beq_self_eq_true, if_true, Bool.false_eq_true, if_false] at hf h ⊢
     rw [layW_len x.ks n _ 0] at h ⊢
     exact sndA _ n _ hk (is_some_kid his h1) hf (by rw [layW_len x.ks n _ 0]) k i d h
   · obtain ⟨z, hks⟩ := is_one_kid his (.inl h1)
     have hkk := hk z (by rw [hks]; exact List.mem_cons_self)
     have e1 : ((4 : Int) == 1) = false := rfl
     have e2 : ((4 : Int) == 2) = false := rfl
     have e3 : ((4 : Int) == 3) = false := rfl
     simp only [h1, hks, e1, e2, e3, beq_self_eq_true, if_true, Bool.false_eq_true, if_false, layH, MtH, List.length_cons, List.length_append, List.length_nil] at hf h ⊢
     have e0 := hf.head
     have f1 := hf.tail.left
     have f2 := hf.tail.right
     have key : ∀ (K k : Nat), k < K → ∀ i d, Run s ys n (n + ((lay (n + 1) z).length + (0 + 1) + 1)) k (n, i) d → d.1 = n + ((lay (n + 1) z).length + (0 + 1) + 1) ∧ Star (Mt s z) i d.2 := by
      intro K
      induction K with
      | zero => intro k hk; omega
      | succ K ih =>
        intro k hk i d h
        obtain ⟨k', e, hk', he, hr⟩ := h.move (by simp only; omega)
        rcases he.two e0 rfl with rfl | rfl
        · simp only at hr
          rw [show ((n : Int) + 1).toNat = n + 1 by omega] at hr
          obtain ⟨k1, k2, m, hk12, r1, r2⟩ := hr.split (lo' := n + 1) (hi' := n + 1 + (lay (n + 1) z).length) (by omega) (by omega)
          obtain ⟨a1, a2⟩ := hkk (n + 1) f1 k1 i m r1
          obtain ⟨m1, m2⟩ := m
          simp only at a1 a2
          subst a1
          obtain ⟨k3, e', hk3, he', hr'⟩ := r2.move (by simp only; omega)
          have := he'.three f2.head rfl
          subst this
          simp only at hr'
          rw [show ((n : Int)).toNat = n by omega] at hr'
          obtain ⟨b1, b2⟩ := ih k3 (by omega) m2 d hr'
          exact ⟨b1, .step a2 b2⟩
        · simp only at hr
          rw [show (((n + 2 + (lay (n + 1) z).length : Nat) : Int)).toNat = n + ((lay (n + 1) z).length + (0 + 1) + 1) by omega] at hr
          obtain ⟨_, rfl⟩ := hr.out (by simp only; omega)
          exact ⟨rfl, .refl _⟩
     exact key (k + 1) k (Nat.lt_succ_self _) i d h
   · obtain ⟨z, hks⟩ := is_one_kid his (.inr (.inl h1))
     have hkk := hk z (by rw [hks]; exact List.mem_cons_self)
     have e1 : ((5 : Int) == 1) = false := rfl
     have e2 : ((5 : Int) == 2) = false := rfl
     have e3 : ((5 : Int) == 3) = false := rfl
     have e4 : ((5 : Int) == 4) = false := rfl
     simp only [h1, hks, e1, e2, e3, e4, beq_self_eq_true, if_true, Bool.false_eq_true, if_false, layH, MtH, List.length_cons, List.length_append, List.length_nil] at hf h ⊢
     have f1 := hf.left
     have f2 := hf.right
     have e0 := f2.head
     have key : ∀ (K k : Nat), k < K → ∀ i d, Run s ys n (n + ((lay n z).length + (0 + 1))) k (n, i) d → d.1 = n + ((lay n z).length + (0 + 1)) ∧ ∃ m, Mt s z i m ∧ Star (Mt s z) m d.2 := by
      intro K
      induction K with
      | zero => intro k hk; omega
      | succ K ih =>
        intro k hk i d h
        obtain ⟨k1, k2, m, hk12, r1, r2⟩ := h.split (lo' := n) (hi' := n + (lay n z).length) (by omega) (by omega)
        obtain ⟨a1, a2⟩ := hkk n f1 k1 i m r1
        obtain ⟨m1, m2⟩ := m
        simp only at a1 a2
        subst a1
        obtain ⟨k3, e', hk3, he', hr'⟩ := r2.move (by simp only; omega)
        rcases he'.two e0 rfl with rfl | rfl
        · simp only at hr'
          rw [show ((n : Int)).toNat = n by omega] at hr'
          obtain ⟨b1, m', b2, b3⟩ := ih k3 (by omega) m2 d hr'
          exact ⟨b1, m2, a2, .step b2 b3⟩
        · simp only at hr'
          rw [show ((((n + (lay n z).length : Nat) : Int)) + 1).toNat = n + ((lay n z).length + (0 + 1)) by omega] at hr'
          obtain ⟨_, rfl⟩ := hr'.out (by simp only; omega)
          exact ⟨rfl, m2, a2, .refl _⟩
     exact key (k + 1) k (Nat.lt_succ_self _) i d h
   · obtain ⟨z, hks⟩ := is_one_kid his (.inr (.inr h1))
     have hkk := hk z (by rw [hks]; exact List.mem_cons_self)
     have e1 : ((6 : Int) == 1) = false := rfl
     have e2 : ((6 : Int) == 2) = false := rfl
     have e3 : ((6 : Int) == 3) = false := rfl
     have e4 : ((6 : Int) == 4) = false := rfl
     have e5 : ((6 : Int) == 5) = false := rfl
     simp only [h1, hks, e1, e2, e3, e4, e5, beq_self_eq_true, if_true, Bool.false_eq_true, if_false, layH, MtH, List.length_cons] at hf h ⊢
     have e0 := hf.head
     have f1 := hf.tail
     obtain ⟨k', e, hk', he, hr⟩ := h.move (by simp only; omega)
     rcases he.two e0 rfl with rfl | rfl
     · simp only at hr
       rw [show ((n : Int) + 1).toNat = n + 1 by omega] at hr
       obtain ⟨k1, k2, m, hk12, r1, r2⟩ := hr.split (lo' := n + 1) (hi' := n + 1 + (lay (n + 1) z).length) (by omega) (by omega)
       obtain ⟨a1, a2⟩ := hkk (n + 1) f1 k1 i m r1
       obtain ⟨_, rfl⟩ := r2.out (by omega)
       exact ⟨by omega, .inr a2⟩
     · simp only at hr
       rw [show (((n + 1 + (lay (n + 1) z).length : Nat) : Int)).toNat = n + ((lay (n + 1) z).length + 1) by omega] at hr
       obtain ⟨_, rfl⟩ := hr.out (by simp only; omega)
       exact ⟨rfl, .inl rfl⟩
end
end Go.Proofs.YtoadgajhkhejiaaGreat
namespace Go.Proofs.YtoadgajhkhejiaaGreat
open Go Go.Ab
set_option maxRecDepth 100000
open Rex
def okS (N : Int) (s : Stp) : Prop := s.op ≠ 4 ∧ rightS s N false = true
theorem ok_split (N : Int) (a b : Int) (ha : 0 ≤ a) (ha' : a < N) (hb : 0 ≤ b) (hb' : b < N) : okS N ⟨2, 0, 0, 0, 0, a, b⟩ := by
 refine ⟨by simp, ?_⟩
 simp [rightS, Stp.none, inR, ha, ha', hb, hb']
theorem ok_jump (N : Int) (a : Int) (ha : 0 ≤ a) (ha' : a < N) : okS N ⟨3, 0, 0, 0, 0, a, 0⟩ := by
 refine ⟨by simp, ?_⟩
 simp [rightS, Stp.none, inR, ha, ha']
theorem ok_byte (N : Int) (a b c d : Int) : okS N ⟨1, a, b, c, d, 0, 0⟩ := ⟨by simp, by simp [rightS]⟩
theorem lay_ok (N : Int) (n : Nat) (x : Rex) (h : ((n + (lay n x).length : Nat) : Int) < N) : ∀ s ∈ lay n x, okS N s := by
 have hL : ∀ (l : List Rex), (∀ k ∈ l, k ∈ x.ks) → ∀ n, ((n + (layL n l).length : Nat) : Int) < N → ∀ s ∈ layL n l, okS N s := by
  intro l
  induction l with
  | nil => intro _ n _ s hs; simp [layL] at hs
  | cons k l ih =>
    intro hl n hn s hs
    simp only [layL, List.length_append] at hn hs
    rcases List.mem_append.1 hs with hs | hs
    · exact lay_ok N n k (by omega) s hs
    · exact ih (fun k hk => hl k (by simp [hk])) _ (by omega) s hs
 have hW : ∀ (l : List Rex), (∀ k ∈ l, k ∈ x.ks) → ∀ n fin, ((n + (layW n fin l).length : Nat) : Int) < N → 0 ≤ fin → fin < N → ∀ s ∈ layW n fin l, okS N s := by
  intro l
  induction l with
  | nil => intro _ n fin _ _ _ s hs; simp [layW] at hs
  | cons k l ih =>
    intro hl n fin hn h0 h1 s hs
    rw [layW] at hn hs
    split at hs
    · rename_i he
      rw [if_pos he] at hn
      exact lay_ok N n k (by omega) s hs
    · rename_i he
      rw [if_neg he] at hn
      simp only [List.length_cons, List.length_append] at hn
      simp only [List.mem_cons, List.mem_append] at hs
      rcases hs with rfl | hs | rfl | hs
      · exact ok_split N _ _ (by omega) (by omega) (by omega) (by omega)
      · exact lay_ok N (n + 1) k (by omega) s hs
      · exact ok_jump N _ h0 h1
      · exact ih (fun k hk => hl k (by simp [hk])) _ _ (by omega) h0 h1 s hs
 have hH : ∀ (l : List Rex), (∀ k ∈ l, k ∈ x.ks) → ∀ n, ((n + (layH n l).length : Nat) : Int) < N → ∀ s ∈ layH n l, okS N s := by
  intro l hl n hn s hs
  cases l with
  | nil => simp [layH] at hs
  | cons k l => exact lay_ok N n k (by simpa [layH] using hn) s (by simpa [layH] using hs)
 have hlw : ∀ (l : List Rex) n f g, (layW n f l).length = (layW n g l).length := by
  intro l
  induction l with
  | nil => intro n f g; rfl
  | cons k l ih =>
    intro n f g
    rw [layW, layW]
    split
    · rfl
    · simp only [List.length_cons, List.length_append, ih _ f g]
 intro s hs
 rw [lay_eq] at h hs
 split at hs
 · simp only [List.mem_singleton] at hs
   subst hs
   exact ok_byte N _ _ _ _
 rename_i h1
 rw [if_neg h1] at h
 split at hs
 · rename_i h2
   rw [if_pos h2] at h
   exact hL x.ks (fun _ h => h) n h s hs
 rename_i h2
 rw [if_neg h2] at h
 split at hs
 · rename_i h3
   rw [if_pos h3] at h
   refine hW x.ks (fun _ h => h) n _ h (by omega) ?_ s hs
   rw [hlw x.ks n _ 0] at h
   exact h
 rename_i h3
 rw [if_neg h3] at h
 split at hs
 · rename_i h4
   rw [if_pos h4] at h
   simp only [List.length_cons, List.length_append, List.length_nil] at h
   simp only [List.mem_cons, List.mem_append, List.not_mem_nil, or_false] at hs
   rcases hs with rfl | hs | rfl
   · exact ok_split N _ _ (by omega) (by omega) (by omega) (by omega)
   · exact hH x.ks (fun _ h => h) (n + 1) (by omega) s hs
   · exact ok_jump N _ (by omega) (by omega)
 rename_i h4
 rw [if_neg h4] at h
 split at hs
 · rename_i h5
   rw [if_pos h5] at h
   simp only [List.length_cons, List.length_append, List.length_nil] at h
   simp only [List.mem_cons, List.mem_append, List.not_mem_nil, or_false] at hs
   rcases hs with hs | rfl
   · exact hH x.ks (fun _ h => h) n (by omega) s hs
   · exact ok_split N _ _ (by omega) (by omega) (by omega) (by omega)
 rename_i h5
 rw [if_neg h5] at h
 split at hs
 · rename_i h6
   rw [if_pos h6] at h
   simp only [List.length_cons] at h
   simp only [List.mem_cons] at hs
   rcases hs with rfl | hs
   · exact ok_split N _ _ (by omega) (by omega) (by omega) (by omega)
   · exact hH x.ks (fun _ h => h) (n + 1) (by omega) s hs
 · cases hs
termination_by SizeOf.sizeOf x
decreasing_by
 · exact lt_of_mem (hl k (by simp))
 · exact lt_of_mem (hl k (by simp))
 · exact lt_of_mem (hl k (by simp))
 · exact lt_of_mem (hl k (by simp))
theorem made_facts {x : Rex} {l : List Stp} (h : x.made = some l) : x.is = true ∧ x.size + 1 ≤ 40 ∧ 0 ≤ x.size ∧ l = lay 0 x ++ [⟨4, 0, 0, 0, 0, 0, 0⟩] ∧ (l.length : Int) = x.size + 1 := by
 unfold Rex.made at h
 split at h
 · rename_i hx
   cases h
   have := lay_len 0 x hx.1
   exact ⟨hx.1, hx.2, by omega, rfl, by simp; omega⟩
 · cases h
theorem made_check {x : Rex} {l : List Stp} (h : x.made = some l) : pcheck l = true := by
 obtain ⟨h1, h2, h3, rfl, h4⟩ := made_facts h
 have hl := lay_len 0 x h1
 have hok := lay_ok ((lay 0 x ++ [(⟨4, 0, 0, 0, 0, 0, 0⟩ : Stp)]).length : Int) 0 x (by simp; omega)
 have e1 : decide (((lay 0 x ++ [(⟨4, 0, 0, 0, 0, 0, 0⟩ : Stp)]).length : Int) < 1) = false := by simp; omega
 have e2 : decide ((40 : Int) < ((lay 0 x ++ [(⟨4, 0, 0, 0, 0, 0, 0⟩ : Stp)]).length : Nat)) = false := by simp; omega
 have e3 : (lay 0 x ++ [(⟨4, 0, 0, 0, 0, 0, 0⟩ : Stp)]).length - 1 = (lay 0 x).length := by simp
 rw [pcheck, e1, e2, e3]
 simp only [Bool.false_eq_true, if_false]
 rw [List.take_left, List.getElem?_append_right (Nat.le_refl _)]
 simp only [Nat.sub_self, List.getElem?_cons_zero, Bool.and_eq_true, Bool.not_eq_true', List.any_eq_false]
 refine ⟨fun s hs => by rw [(hok s hs).2]; simp, ?_⟩
 simp [rightS, Stp.none]
end Go.Proofs.YtoadgajhkhejiaaGreat
namespace Go.Proofs.YtoadgajhkhejiaaGreat
open Go Go.Ab Rex
set_option maxRecDepth 100000
theorem made_takes {x : Rex} {l : List Stp} (h : x.made = some l) (s : ByteArray) : pmatch l s = true ↔ Mt s x 0 s.size := by
 have hc := made_check h
 obtain ⟨his, _, _, rfl, _⟩ := made_facts h
 rw [pmatch_reach hc]
 have hf : Frag (lay 0 x ++ [⟨4, 0, 0, 0, 0, 0, 0⟩]) 0 (lay 0 x ++ [⟨4, 0, 0, 0, 0, 0, 0⟩]) := fun k _ => by rw [Nat.zero_add]
 have hfx := hf.left
 have he := hf.right.head
 rw [Nat.zero_add] at he
 have hlt : ((lay 0 x ++ [(⟨4, 0, 0, 0, 0, 0, 0⟩ : Stp)]).length : Int) = (lay 0 x).length + 1 := by simp
 have hok := lay_ok ((lay 0 x ++ [(⟨4, 0, 0, 0, 0, 0, 0⟩ : Stp)]).length : Nat) 0 x (by rw [Nat.zero_add, hlt]; omega)
 constructor
 · rintro ⟨p, hp, h4, hr⟩
   have hpe : p = (lay 0 x).length := by
    refine Classical.byContradiction fun hne => ?_
    simp only [List.length_append, List.length_cons, List.length_nil] at hp
    have hpl : p < (lay 0 x).length := by omega
    have : stpAt (lay 0 x ++ [⟨4, 0, 0, 0, 0, 0, 0⟩]) p = (lay 0 x)[p] := stpAt_of (by rw [List.getElem?_append_left hpl, List.getElem?_eq_getElem hpl])
    rw [this] at h4
    exact (hok _ (List.getElem_mem hpl)).1 h4
   subst hpe
   obtain ⟨k, hk⟩ := hr.path
   obtain ⟨k1, k2, m, r1, r2⟩ := hk.run (lo := 0) (hi := (lay 0 x).length) _ _ _ (by simp)
   have := snd_all _ x (Nat.lt_succ_self _) his 0 hfx k1 0 m (by rw [Nat.zero_add]; exact r1)
   obtain ⟨a1, a2⟩ := this
   rw [Nat.zero_add] at a1
   obtain ⟨m1, m2⟩ := m
   simp only at a1 a2
   subst a1
   cases k2 with
   | zero =>
     have e : (((lay 0 x).length, m2) : Nat × Nat) = ((lay 0 x).length, s.size) := r2
     rw [Prod.mk.injEq] at e
     rw [← e.2]; exact a2
   | succ k2 =>
     obtain ⟨e, h1, _⟩ := r2
     exact (h1.four he rfl).elim
 · intro hm
   refine ⟨(lay 0 x).length, by simp, by rw [stpAt_of he], ?_⟩
   have := comp_all _ x (Nat.lt_succ_self _) his 0 0 s.size hfx hm .zero
   rwa [Nat.zero_add] at this
end Go.Proofs.YtoadgajhkhejiaaGreat
namespace Go.Proofs.YtoadgajhkhejiaaGreat
open Go Go.Ab Rex
set_option maxRecDepth 100000
section
variable (s : ByteArray)
theorem noB_get (i : Nat) : (noB s).getD i false = false := by
 cases h : (noB s).getD i false with
 | false => rfl
 | true =>
   have hi := getD_lt h
   rw [List.getD_eq_getElem?_getD, List.getElem?_eq_getElem hi] at h
   simp [noB] at h
theorem noB_len : (noB s).length = s.size + 1 := by simp [noB]
theorem byteB_leads (st : Stp) : Leads (s.size + 1) (byteB s st) (fun i j => i < s.size ∧ j = i + 1 ∧ takesS st (byteAt s i) = true) := fun S h => by
 refine ⟨by simp [byteB], fun j => ?_⟩
 by_cases hj : j < s.size + 1
 · rw [List.getD_eq_getElem?_getD, byteB, List.getElem?_map, List.getElem?_range hj]
   cases j with
   | zero => simp
   | succ i =>
     simp only [Option.map_some, Option.getD_some, Bool.and_eq_true]
     constructor
     · rintro ⟨h1, h2⟩; exact ⟨i, h1, by omega, rfl, h2⟩
     · rintro ⟨i', h1, h2, h3, h4⟩
       have : i' = i := by omega
       subst this; exact ⟨h1, h4⟩
 · constructor
   · intro h1
     have := getD_lt h1
     simp [byteB] at this; omega
   · rintro ⟨i, h1, h2, h3, _⟩; omega
theorem daftL_leads (l : List Rex) (hk : ∀ k ∈ l, Leads (s.size + 1) (daft s k) (Mt s k)) : Leads (s.size + 1) (daftL s l) (MtL s l) := by
 induction l with
 | nil => exact fun S h => ⟨h, fun j => ⟨fun hj => ⟨j, hj, rfl⟩, fun ⟨i, hi, he⟩ => by rw [show i = j from he] at hi; exact hi⟩⟩
 | cons x xs ih =>
   intro S h
   have h1 := hk x List.mem_cons_self S h
   have h2 := ih (fun k hk' => hk k (List.mem_cons_of_mem _ hk')) (daft s x S) h1.1
   rw [daftL]
   refine ⟨h2.1, fun j => ?_⟩
   rw [h2.2]
   constructor
   · rintro ⟨m, hm, h3⟩
     obtain ⟨i, hi, h4⟩ := (h1.2 m).1 hm
     exact ⟨i, hi, m, h4, h3⟩
   · rintro ⟨i, hi, m, h4, h3⟩
     exact ⟨m, (h1.2 m).2 ⟨i, hi, h4⟩, h3⟩
theorem daftA_leads (l : List Rex) (hk : ∀ k ∈ l, Leads (s.size + 1) (daft s k) (Mt s k)) : ∀ (S acc : List Bool), S.length = s.size + 1 → acc.length = s.size + 1 →
  (daftA s l S acc).length = s.size + 1 ∧ ∀ j, (daftA s l S acc).getD j false = true ↔ (acc.getD j false = true ∨ ∃ i, S.getD i false = true ∧ MtA s l i j) := by
 induction l with
 | nil => exact fun S acc h h' => ⟨h', fun j => ⟨fun hj => .inl hj, fun hj => hj.elim id fun ⟨_, _, h⟩ => absurd h id⟩⟩
 | cons x xs ih =>
   intro S acc h h'
   have h1 := hk x List.mem_cons_self S h
   have h2 := ih (fun k hk' => hk k (List.mem_cons_of_mem _ hk')) S (joinB acc (daft s x S)) h (by rw [joinB_len]; exact h')
   rw [daftA]
   refine ⟨h2.1, fun j => ?_⟩
   rw [h2.2, joinB_iff _ _ (by rw [h', h1.1]), h1.2]
   constructor
   · rintro ((h3 | ⟨i, h3, h4⟩) | ⟨i, h3, h4⟩)
     · exact .inl h3
     · exact .inr ⟨i, h3, .inl h4⟩
     · exact .inr ⟨i, h3, .inr h4⟩
   · rintro (h3 | ⟨i, h3, h4 | h4⟩)
     · exact .inl (.inl h3)
     · exact .inl (.inr ⟨i, h3, h4⟩)
     · exact .inr ⟨i, h3, h4⟩
theorem daft_leads : ∀ (N : Nat) (x : Rex), SizeOf.sizeOf x < N → x.is = true → Leads (s.size + 1) (daft s x) (Mt s x)
 | 0, x, h, _ => absurd h (Nat.not_lt_zero _)
 | N + 1, x, hN, his => by
   intro S hS
   have hk : ∀ k ∈ x.ks, Leads (s.size + 1) (daft s k) (Mt s k) := fun k hk => daft_leads N k (by have := lt_of_mem hk; omega) (is_kid his hk)
   have hm : ∀ j, (∃ i, S.getD i false = true ∧ Mt s x i j) ↔ (∃ i, S.getD i false = true ∧ (if x.op == 1 then i < s.size ∧ j = i + 1 ∧ takesS ⟨1, x.a, x.b, x.c, x.d, 0, 0⟩ (byteAt s i) = true
    else if x.op == 2 then MtL s x.ks i j
    else if x.op == 3 then MtA s x.ks i j
    else if x.op == 4 then Star (MtH s x.ks) i j
    else if x.op == 5 then ∃ m, MtH s x.ks i m ∧ Star (MtH s x.ks) m j
    else if x.op == 6 then i = j ∨ MtH s x.ks i j
    else False)) := fun j => by
     constructor <;> rintro ⟨i, h1, h2⟩ <;> refine ⟨i, h1, ?_⟩
     · rwa [Mt_eq] at h2
     · rwa [Mt_eq]
   rw [daft_eq]
   simp only [hm]
   clear hm
   rcases is_ops his with h1 | h1 | h1 | h1 | h1 | h1
   · simp only [h1, beq_self_eq_true, if_true]
     exact byteB_leads s _ S hS
   · have e1 : ((2 : Int) == 1) = false := rfl
     simp only [h1, e1, beq_self_eq_true, if_true, Bool.false_eq_true, if_false]
     exact daftL_leads s x.ks hk S hS
   · have e1 : ((3 : Int) == 1) = false := rfl
     have e2 : ((3 : Int) == 2) = false := rfl
     simp only [h1, e1, e2, beq_self_eq_true, if_true, Bool.false_eq_true, if_false]
     have := daftA_leads s x.ks hk S (noB s) hS (noB_len s)
     refine ⟨this.1, fun j => ?_⟩
     rw [this.2, noB_get]
     simp
   all_goals
    obtain ⟨z, hks⟩ := is_one_kid his (by first | exact .inl h1 | exact .inr (.inl h1) | exact .inr (.inr h1))
    have hz := hk z (by rw [hks]; exact List.mem_cons_self)
    have hS1 := hz S hS
   · have e1 : ((4 : Int) == 1) = false := rfl
     have e2 : ((4 : Int) == 2) = false := rfl
     have e3 : ((4 : Int) == 3) = false := rfl
     have e5 : ((4 : Int) == 5) = false := rfl
     have e6 : ((4 : Int) == 6) = false := rfl
     simp only [h1, hks, e1, e2, e3, e5, e6, beq_self_eq_true, if_true, Bool.false_eq_true, if_false, MtH, daftH]
     exact starL_leads hz S hS
   · have e1 : ((5 : Int) == 1) = false := rfl
     have e2 : ((5 : Int) == 2) = false := rfl
     have e3 : ((5 : Int) == 3) = false := rfl
     have e4 : ((5 : Int) == 4) = false := rfl
     have e6 : ((5 : Int) == 6) = false := rfl
     simp only [h1, hks, e1, e2, e3, e4, e6, beq_self_eq_true, if_true, Bool.false_eq_true, if_false, MtH, daftH]
     have h2 := starL_leads hz (daft s z S) hS1.1
     refine ⟨h2.1, fun j => ?_⟩
     rw [h2.2]
     constructor
     · rintro ⟨m, h3, h4⟩
       obtain ⟨i, h5, h6⟩ := (hS1.2 m).1 h3
       exact ⟨i, h5, m, h6, h4⟩
     · rintro ⟨i, h5, m, h6, h4⟩
       exact ⟨m, (hS1.2 m).2 ⟨i, h5, h6⟩, h4⟩
   · have e1 : ((6 : Int) == 1) = false := rfl
     have e2 : ((6 : Int) == 2) = false := rfl
     have e3 : ((6 : Int) == 3) = false := rfl
     have e4 : ((6 : Int) == 4) = false := rfl
     have e5 : ((6 : Int) == 5) = false := rfl
     simp only [h1, hks, e1, e2, e3, e4, e5, beq_self_eq_true, if_true, Bool.false_eq_true, if_false, MtH, daftH]
     refine ⟨by rw [joinB_len]; exact hS, fun j => ?_⟩
     rw [joinB_iff _ _ (by rw [hS, hS1.1]), hS1.2]
     constructor
     · rintro (h3 | ⟨i, h3, h4⟩)
       · exact ⟨j, h3, .inl rfl⟩
       · exact ⟨i, h3, .inr h4⟩
     · rintro ⟨i, h3, rfl | h4⟩
       · exact .inl h3
       · exact .inr ⟨i, h3, h4⟩
def oneB : List Bool := true :: List.replicate s.size false
theorem oneB_get (i : Nat) : (oneB s).getD i false = true ↔ i = 0 := by
 cases i with
 | zero => simp [oneB]
 | succ i =>
   simp only [oneB, List.getD_cons_succ]
   constructor
   · intro h
     have hi := getD_lt h
     rw [List.getD_eq_getElem?_getD, List.getElem?_eq_getElem hi] at h
     simp at h
   · intro h; omega
def dtakes (x : Rex) : Bool := x.is && (daft s x (oneB s)).getD s.size false
theorem dtakes_made {x : Rex} {l : List Stp} (h : x.made = some l) : dtakes s x = pmatch l s := by
 have his := (made_facts h).1
 have h1 := made_takes h s
 have h2 := (daft_leads s _ x (Nat.lt_succ_self _) his (oneB s) (by simp [oneB])).2 s.size
 rw [Bool.eq_iff_iff, h1, dtakes, his, Bool.true_and, h2]
 constructor
 · rintro ⟨i, h3, h4⟩
   rw [(oneB_get s i).1 h3] at h4; exact h4
 · intro h3
   exact ⟨0, (oneB_get s 0).2 rfl, h3⟩
end
end Go.Proofs.YtoadgajhkhejiaaGreat
namespace Go.Proofs.YtoadgajhkhejiaaGreat
open Go Go.Ab
set_option maxRecDepth 100000
abbrev bv (S : List Bool) : AV := .sl 1 (S.map Bo)
theorem has_ans (σ : St) (a b c d : Int) (ch : Nat) (hch : ch < 256) : Ans Tryz.prog 118 [.agg [U a, U b, U c, U d], .pl (.int .u8 ch)] σ (Bo (tstU ([a, b, c, d].getD (ch / 64) 0) (ch % 64))) σ := by
 have e1 : IntKind.u8.wrap ((ch : Int).tdiv 64) = ((ch / 64 : Nat) : Int) := by
  rw [show (ch : Int).tdiv 64 = ((ch / 64 : Nat) : Int) from rfl]
  simp only [IntKind.wrap, IntKind.bits, IntKind.signed]; simp; omega
 have e2 : (ch : Int).tmod 64 = ((ch % 64 : Nat) : Int) := rfl
 have e3 : ((64 : Int) = 0) = False := by simp
 have e4 : (((ch / 64 : Nat) : Int) < (4 : Nat)) = True := by simp; omega
 have e5 : IntKind.u64.wrap ((ch % 64 : Nat) : Int) = ((ch % 64 : Nat) : Int) := by
  simp only [IntKind.wrap, IntKind.bits, IntKind.signed]; simp; omega
 have e6 : (List.drop (ch / 64) [U a, U b, U c, U d]).head? = some (U ([a, b, c, d].getD (ch / 64) 0)) := by
  rw [List.head?_drop]
  have hk : ch / 64 < 4 := by omega
  generalize ch / 64 = k at hk
  rcases k with _ | _ | _ | _ | k
  · rfl
  · rfl
  · rfl
  · rfl
  · omega
 refine Ans.of_run t118 ?_
 simp -implicitDefEqProofs only [c118, r118, go_sem, e1, e2, e3, e4, e5, e6, Nat.mul_one, Nat.zero_add]
 exact Fini.ret rfl
theorem same_ans (σ : St) (A B : List Bool) (hl : A.length = B.length) (hn : A.length ≤ 100001) : Ans Tryz.prog 120 [bv A, bv B] σ (Bo (A == B)) σ := by
 refine Ans.of_run t120 ?_
 simp -implicitDefEqProofs only [c120, r120, go_sem]
 refine Go.Ab.L.scan A.length (fun i => A.getD i false == B.getD i false) (fun i => mkE 21 [(0, bv A), (1, bv B), (5, I i)]) (fun _ => σ) ?_ ?_ rfl rfl
 · intro i hi hp J hJ
   have h1 : (A.map Bo)[i]? = some (Bo (A.getD i false)) := by simp [hi]
   have h2 : (B.map Bo)[i]? = some (Bo (B.getD i false)) := by simp [show i < B.length by omega]
   have hlt : ((i : Int) < A.length) = True := by simp; omega
   have hlt2 : ((i : Int) < B.length) = True := by simp; omega
   have hin := wrap_nat (n := i) (by omega)
   have hdi : decide ((i : Int) < A.length) = true := by simp; omega
   simp -implicitDefEqProofs only [mkE, go_sem, List.length_map, hlt, hlt2, hdi, h1, h2]
   cases hb : (A.getD i false == B.getD i false) with
   | true =>
     rw [hb] at hJ
     have hb' : (A.getD i false != B.getD i false) = false := by rw [bne, hb]; rfl
     simp -implicitDefEqProofs only [go_sem, hb, hb', hin, Bool.not_true]
     exact hJ rfl
   | false =>
     have hb' : (A.getD i false != B.getD i false) = true := by rw [bne, hb]; rfl
     simp -implicitDefEqProofs only [go_sem, hb, hb', Bool.not_false]
     refine Fini.ret' rfl (bo_congr ?_)
     symm
     rw [beq_eq_false_iff_ne]
     intro e
     rw [e] at hb
     simp at hb
 · intro hp J
   have hlt : decide ((A.length : Int) < A.length) = false := by simp
   simp -implicitDefEqProofs only [mkE, go_sem, List.length_map, hlt]
   refine Fini.ret' rfl (bo_congr ?_)
   symm
   rw [beq_iff_eq]
   exact ext_getD hl fun i hi => by simpa using hp i hi
end Go.Proofs.YtoadgajhkhejiaaGreat
namespace Go.Proofs.YtoadgajhkhejiaaGreat
open Go Go.Ab
set_option maxRecDepth 100000
theorem rep_cells (v : AV) : ∀ n : Nat, chunks 1 false n (repeatA [v] n) = List.replicate n v
 | 0 => rfl
 | n + 1 => by
   rw [chunks, repeatA, List.replicate_succ]
   simp only [Bool.false_eq_true, if_false, List.cons_append, List.nil_append, List.headD_cons, List.drop_succ_cons, List.drop_zero]
   rw [rep_cells v n]
def fillB (A : List Bool) (n i : Nat) : List Bool := A.take i ++ List.replicate (n - i) false
theorem fillB_len (A : List Bool) (i : Nat) (hi : i ≤ A.length) : (fillB A A.length i).length = A.length := by simp [fillB]; omega
theorem fillB_end (A : List Bool) : fillB A A.length A.length = A := by simp [fillB]
theorem fillB_set (A : List Bool) (i : Nat) (hi : i < A.length) : (fillB A A.length i).set i (A.getD i false) = fillB A A.length (i + 1) := by
 unfold fillB
 rw [List.set_append_right _ _ (by simp; omega), List.length_take, Nat.min_eq_left (by omega), Nat.sub_self, show A.length - i = (A.length - (i + 1)) + 1 by omega, List.replicate_succ, List.set_cons_zero,
  List.take_succ_eq_append_getElem hi, List.append_assoc, List.getD_eq_getElem?_getD, List.getElem?_eq_getElem hi]
 rfl
theorem join_ans (σ : St) (A B : List Bool) (hl : A.length = B.length) (hn : A.length ≤ 100001) : Ans Tryz.prog 119 [bv A, bv B] σ (bv (joinB A B)) σ := by
 refine Ans.of_run' t119 (fun hbel _ => ?_)
 have q1 : ((0 : Int) ≤ A.length) = True := by simp
 have q2 : ((A.length : Int) ≤ 4294967296) = True := by simp; omega
 simp -implicitDefEqProofs only [c119, r119, go_sem, List.length_map, q1, q2, Int.le_refl, Int.toNat_natCast, rep_cells]
 refine Go.Ab.L.count A.length (fun i => mkE 30 [(0, bv A), (1, bv B), (5, .osl σ.length A.length), (6, I i)]) (fun i => σ ++ [.row 1 ((fillB (joinB A B) A.length i).map Bo)]) ?_ ?_ rfl ?_
 · intro i hi J hJ
   have h1 : (A.map Bo)[i]? = some (Bo (A.getD i false)) := by simp [hi]
   have h2 : (B.map Bo)[i]? = some (Bo (B.getD i false)) := by simp [show i < B.length by omega]
   have hlt : ((i : Int) < A.length) = True := by simp; omega
   have hlt2 : ((i : Int) < B.length) = True := by simp; omega
   have hin := wrap_nat (n := i) (by omega)
   have hdi : decide ((i : Int) < A.length) = true := by simp; omega
   have hjl : (joinB A B).length = A.length := joinB_len A B
   have hfl : (fillB (joinB A B) A.length i).length = A.length := by have := fillB_len (joinB A B) i (by omega); rwa [hjl] at this
   have hfs := fillB_set (joinB A B) i (by omega)
   rw [hjl, joinB_get _ _ _ hi] at hfs
   rw [← hfs] at hJ
   generalize fillB (joinB A B) A.length i = M at hfl hJ ⊢
   have hM : (M.map Bo)[i]? = some (Bo (M.getD i false)) := by simp [show i < M.length by omega]
   have hMl : (A.length = M.length) = True := by simp [hfl]
   cases hb : A.getD i false with
   | true =>
     rw [hb, List.map_set] at hJ
     simp -implicitDefEqProofs only [mkE, go_sem, List.length_map, hlt, hlt2, hdi, h1, h2, hb, hin, hM, hMl, hfl, g0, s0]
     exact hJ
   | false =>
     rw [hb, List.map_set] at hJ
     simp -implicitDefEqProofs only [mkE, go_sem, List.length_map, hlt, hlt2, hdi, h1, h2, hb, hin, hM, hMl, hfl, g0, s0]
     exact hJ
 · intro J
   have hlt : decide ((A.length : Int) < A.length) = false := by simp
   have hjl : (joinB A B).length = A.length := joinB_len A B
   have hfe := fillB_end (joinB A B)
   rw [hjl] at hfe
   simp -implicitDefEqProofs only [mkE, go_sem, List.length_map, hlt, hfe, g0, s0, hjl]
   exact Fini.trim2 (σ' := σ) rfl rfl (Nat.le_refl _) (.sl 1 _ fun i hi => by simp; exact .pl _) hbel
 · simp [fillB]
end Go.Proofs.YtoadgajhkhejiaaGreat
