/- Two bands, two rules held against each other. No condition. -/
import Derived.Test.YtmkmhhjkdaklbaaGreatRd4
import Derived.Test.YtmkmhhjkdaklbaaGreatRd3
import Derived.Test.YtmkmhhjkdaklbaaGreatXMr3
import Derived.Test.YtmkmhhjkdaklbaaGreatProg
import Derived.Test.YtmkmhhjkdaklbaaGreatAbStep
import Derived.Test.YtmkmhhjkdaklbaaGreatXVi1
import Derived.Test.YtmkmhhjkdaklbaaGreatRc5
import Derived.Test.YtmkmhhjkdaklbaaGreatRq2b
import Derived.Test.YtmkmhhjkdaklbaaGreatAbArg
import Derived.Test.YtmkmhhjkdaklbaaGreatRd6
set_option linter.unusedSimpArgs false
set_option linter.unusedVariables false
namespace Go.Proofs.YtmkmhhjkdaklbaaGreat
open Go Go.Ab Go.Cod
set_option maxRecDepth 100000
def eqT (a b : ByteArray) : Bool := a.toList == b.toList
def eqBf (a b : Nat) : Bool := ((bitsF a : Nat) : Int) == ((bitsF b : Nat) : Int)
def sameBd (x y : Bnd) : Bool := (x.1 == y.1) && (eqBf x.2.1 y.2.1 && eqBf x.2.2 y.2.2)
def eqTs (a b : List ByteArray) : Bool := (List.range a.length).all fun i => eqT (a.getD i ⟨#[]⟩) (b.getD i ⟨#[]⟩)
def alikeB (x y : RuM) : Bool := decide (x.eq.length = y.eq.length) && (sameM x.src y.src && (sameM x.tgt y.tgt && (sameBd (x.any, x.lo, x.hi) (y.any, y.lo, y.hi) && eqTs x.eq y.eq)))
theorem eqTs_refl (a : List ByteArray) : eqTs a a = true := by simp [eqTs, eqT]
theorem sameBd_refl (x : Bnd) : sameBd x x = true := by simp [sameBd, eqBf]
theorem alikeB_refl (x : RuM) : alikeB x x = true := by simp [alikeB, sameM_refl, sameBd_refl, eqTs_refl]
section
variable (σ : St)
theorem sameband_ans (x y : Bnd) : Ans Tryz.prog 78 [bandV x, bandV y] σ (Bo (sameBd x y)) σ := by
 obtain ⟨a, lo, hi⟩ := x
 obtain ⟨c, lo', hi'⟩ := y
 have i1 := fun s => dbits_ans s lo
 have i2 := fun s => dbits_ans s lo'
 have i3 := fun s => dbits_ans s hi
 have i4 := fun s => dbits_ans s hi'
 refine Ans.of_run t78 ?_
 unfold bandV sameBd eqBf
 simp only
 cases h1 : (a == c) with
 | false =>
   simp -implicitDefEqProofs only [c78, r78, go_sem, h1]
   exact Fini.ret rfl
 | true =>
   simp -implicitDefEqProofs only [c78, r78, go_sem, h1]
   refine CD.intro (i1 _) ?_
   simp -implicitDefEqProofs only [go_sem]
   refine CD.intro (i2 _) ?_
   cases h2 : (((bitsF lo : Nat) : Int) == ((bitsF lo' : Nat) : Int)) with
   | false =>
     simp -implicitDefEqProofs only [go_sem, h2]
     exact Fini.ret rfl
   | true =>
     simp -implicitDefEqProofs only [go_sem, h2]
     refine CD.intro (i3 _) ?_
     simp -implicitDefEqProofs only [go_sem]
     refine CD.intro (i4 _) ?_
     simp -implicitDefEqProofs only [go_sem]
     exact Fini.ret rfl
theorem alike_ans (x y : RuM) (h1 : x.src.length ≤ 1000) (h2 : x.tgt.length ≤ 1000) (h3 : x.eq.length ≤ 100000) : Ans Tryz.prog 21 [ruV x, ruV y] σ (Bo (alikeB x y)) σ := by
 have i1 := fun s => samem_ans s x.src y.src h1
 have i2 := fun s => samem_ans s x.tgt y.tgt h2
 have i3 := fun s => sameband_ans s (x.any, x.lo, x.hi) (y.any, y.lo, y.hi)
 unfold bandV at i3
 have e1 : (((x.eq.length : Nat) : Int) != ((y.eq.length : Nat) : Int)) = !decide (x.eq.length = y.eq.length) := by
  rw [bne]
  congr 1
  rw [Bool.eq_iff_iff]
  simp only [beq_iff_eq, decide_eq_true_eq]
  omega
 refine Ans.of_run t21 ?_
 unfold ruV alikeB
 by_cases hl : x.eq.length = y.eq.length
 · have e2 : (((x.eq.length : Nat) : Int) != ((y.eq.length : Nat) : Int)) = false := by rw [e1, decide_eq_true hl]; rfl
   rw [decide_eq_true hl]
   simp -implicitDefEqProofs only [c21, r21, go_sem, txs_len, e2]
   refine CO.intro (i1 _) ?_
   cases sameM x.src y.src with
   | false =>
     simp -implicitDefEqProofs only [go_sem]
     exact Fini.ret rfl
   | true =>
   simp -implicitDefEqProofs only [go_sem]
   refine CO.intro (i2 _) ?_
   cases sameM x.tgt y.tgt with
   | false =>
     simp -implicitDefEqProofs only [go_sem]
     exact Fini.ret rfl
   | true =>
   simp -implicitDefEqProofs only [go_sem]
   refine CO.intro (i3 _) ?_
   cases sameBd (x.any, x.lo, x.hi) (y.any, y.lo, y.hi) with
   | false =>
     simp -implicitDefEqProofs only [go_sem]
     exact Fini.ret rfl
   | true =>
   simp -implicitDefEqProofs only [go_sem, Bool.true_and]
   unfold eqTs
   refine Go.Ab.L.scan x.eq.length (fun i => eqT (x.eq.getD i ⟨#[]⟩) (y.eq.getD i ⟨#[]⟩)) (fun i => mkE 55 [(2, .rp [.sl 3 (mvs3 x.src), .sl 3 (mvs3 x.tgt), Bo x.any, Fl x.lo, Fl x.hi, .sl 1 (txs x.eq)]), (3, .rp [.sl 3 (mvs3 y.src), .sl 3 (mvs3 y.tgt), Bo y.any, Fl y.lo, Fl y.hi, .sl 1 (txs y.eq)]), (5, I i)]) (fun _ => σ) ?_ ?_ rfl rfl
   · intro i hi hp J hJ
     have hx := txs_D x.eq i hi
     have hy := txs_D y.eq i (by omega)
     have hin := wrap_succ (i := i) (by omega)
     have hF : eqT (x.eq.getD i ⟨#[]⟩) (y.eq.getD i ⟨#[]⟩) = false → ((List.range x.eq.length).all fun i => eqT (x.eq.getD i ⟨#[]⟩) (y.eq.getD i ⟨#[]⟩)) = false := fun h => List.all_eq_false.2 ⟨i, List.mem_range.2 hi, by rw [h]; decide⟩
     have n1 := nat_lt hi
     have n2 := nat_lt (show i < y.eq.length by omega)
     simp -implicitDefEqProofs only [mkE, go_sem, txs_len, n1, n2, dec_lt hi, hx, hy]
     cases hb : eqT (x.eq.getD i ⟨#[]⟩) (y.eq.getD i ⟨#[]⟩) with
     | false =>
       rw [hF hb]
       unfold eqT at hb
       simp -implicitDefEqProofs only [go_sem, hb]
       exact Fini.ret rfl
     | true =>
       have hgo := hJ hb
       unfold eqT at hb
       simp -implicitDefEqProofs only [go_sem, hb, hin]
       exact hgo
   · intro hp J
     have hd : decide ((x.eq.length : Int) < x.eq.length) = false := by simp
     simp -implicitDefEqProofs only [mkE, go_sem, txs_len, hd]
     refine Fini.ret' rfl (bo_congr ?_)
     exact (List.all_eq_true.2 fun i hi => hp i (List.mem_range.1 hi)).symm
 · have e2 : (((x.eq.length : Nat) : Int) != ((y.eq.length : Nat) : Int)) = true := by rw [e1, decide_eq_false hl]; rfl
   rw [decide_eq_false hl]
   simp -implicitDefEqProofs only [c21, r21, go_sem, txs_len, e2]
   exact Fini.ret rfl
end
def eqLb (x y : Lab) : Bool := x.1.toList == y.1.toList && (x.2.toList == y.2.toList && true)
def sameL (A B : List Lab) : Bool := decide (A.length = B.length) && (List.range A.length).all fun i => eqLb (A.getD i noLb) (B.getD i noLb)
theorem sameL_refl (A : List Lab) : sameL A A = true := by simp [sameL, eqLb]
theorem samel_ans (σ : St) (A B : List Lab) (hA : A.length ≤ 1000) : Ans Tryz.prog 102 [.sl 2 (lvs A), .sl 2 (lvs B)] σ (Bo (sameL A B)) σ := by
 refine Ans.of_run t102 ?_
 have e0 : ((A.length : Int) != B.length) = !decide (A.length = B.length) := by
  rw [Bool.eq_iff_iff]; simp only [bne_iff_ne, Bool.not_eq_true', decide_eq_false_iff_not]; omega
 unfold sameL
 by_cases hl : A.length = B.length
 · rw [decide_eq_true hl, Bool.true_and]
   rw [decide_eq_true hl] at e0
   simp -implicitDefEqProofs only [c102, r102, go_sem, lvs_len, e0]
   refine Go.Ab.L.scan A.length (fun i => eqLb (A.getD i noLb) (B.getD i noLb)) (fun i => mkE 26 [(0, .sl 2 (lvs A)), (1, .sl 2 (lvs B)), (5, I i)]) (fun _ => σ) ?_ ?_ rfl rfl
   · intro i hi hp J hJ
     have hx := lvs_D A i hi
     have hy := lvs_D B i (by omega)
     have hlB : ((i : Int) < B.length) = True := by simp; omega
     have hF : eqLb (A.getD i noLb) (B.getD i noLb) = false → ((List.range A.length).all fun i => eqLb (A.getD i noLb) (B.getD i noLb)) = false := fun h => List.all_eq_false.2 ⟨i, List.mem_range.2 hi, by rw [h]; decide⟩
     have hin := wrap_succ (i := i) (by omega)
     generalize A.getD i noLb = x at hx hJ hF
     generalize B.getD i noLb = y at hy hJ hF
     simp -implicitDefEqProofs only [mkE, go_sem, D_callS, lvs_len, nat_lt hi, dec_lt hi, hlB, hx, hy, Bool.true_xor]
     cases hb : eqLb x y with
     | true =>
       have hgo := hJ hb
       have hb' : (x.1.toList == y.1.toList && (x.2.toList == y.2.toList && true)) = true := hb
       simp only [Bool.and_true] at hb'
       simp -implicitDefEqProofs only [go_sem, hb', hin]
       exact hgo
     | false =>
       have hb' : (x.1.toList == y.1.toList && (x.2.toList == y.2.toList && true)) = false := hb
       simp only [Bool.and_true] at hb'
       rw [hF hb]
       simp -implicitDefEqProofs only [go_sem, hb']
       exact Fini.ret rfl
   · intro hp J
     have hd : decide ((A.length : Int) < A.length) = false := by simp
     simp -implicitDefEqProofs only [mkE, go_sem, lvs_len, hd]
     refine Fini.ret' rfl (bo_congr ?_)
     exact (List.all_eq_true.2 fun i hi => hp i (List.mem_range.1 hi)).symm
 · rw [decide_eq_false hl, Bool.false_and]
   rw [decide_eq_false hl] at e0
   simp -implicitDefEqProofs only [c102, r102, go_sem, lvs_len, e0]
   exact Fini.ret rfl
def sameRe (x y : ReM) : Bool :=
 (x.tok.toList == y.tok.toList) && ((x.op == y.op) && ((x.id == y.id) && ((x.txt.toList == y.txt.toList) && (((x.st : Int) == (y.st : Int)) && (((x.en : Int) == (y.en : Int)) && ((x.sta == y.sta) && (sameM x.mt y.mt && (sameBd (x.any, x.lo, x.hi) (y.any, y.lo, y.hi) && (alikeB x.ru y.ru && (sameL x.ls y.ls && eqBf x.val y.val))))))))))
theorem sameRe_refl (x : ReM) : sameRe x x = true := by simp [sameRe, sameM_refl, sameBd_refl, alikeB_refl, sameL_refl, eqBf]
set_option maxHeartbeats 4000000 in
theorem samere_ans (σ : St) (x y : ReM) (h1 : x.mt.length ≤ 1000) (h2 : x.ru.src.length ≤ 1000) (h3 : x.ru.tgt.length ≤ 1000) (h4 : x.ru.eq.length ≤ 100000) (h5 : x.ls.length ≤ 1000) : Ans Tryz.prog 42 [reV x, reV y] σ (Bo (sameRe x y)) σ := by
 have i1 := fun s => samem_ans s x.mt y.mt h1
 have i2 := fun s => sameband_ans s (x.any, x.lo, x.hi) (y.any, y.lo, y.hi)
 have i3 := fun s => alike_ans s x.ru y.ru h2 h3 h4
 have i4 := fun s => samel_ans s x.ls y.ls h5
 have i5 := fun s => dbits_ans s x.val
 have i6 := fun s => dbits_ans s y.val
 unfold bandV at i2
 unfold ruV at i3
 refine Ans.of_run t42 ?_
 unfold reV reC sameRe eqBf
 cases a0 : (x.tok.toList == y.tok.toList) with
 | false =>
   simp -implicitDefEqProofs only [c42, r42, go_sem, D_callS, a0]
   exact Fini.ret rfl
 | true =>
 cases a1 : (x.op == y.op) with
 | false =>
   simp -implicitDefEqProofs only [c42, r42, go_sem, D_callS, a0, a1]
   exact Fini.ret rfl
 | true =>
 cases a2 : (x.id == y.id) with
 | false =>
   simp -implicitDefEqProofs only [c42, r42, go_sem, D_callS, a0, a1, a2]
   exact Fini.ret rfl
 | true =>
 cases a3 : (x.txt.toList == y.txt.toList) with
 | false =>
   simp -implicitDefEqProofs only [c42, r42, go_sem, D_callS, a0, a1, a2, a3]
   exact Fini.ret rfl
 | true =>
 cases a4 : ((x.st : Int) == (y.st : Int)) with
 | false =>
   simp -implicitDefEqProofs only [c42, r42, go_sem, D_callS, a0, a1, a2, a3, a4]
   exact Fini.ret rfl
 | true =>
 cases a5 : ((x.en : Int) == (y.en : Int)) with
 | false =>
   simp -implicitDefEqProofs only [c42, r42, go_sem, D_callS, a0, a1, a2, a3, a4, a5]
   exact Fini.ret rfl
 | true =>
 cases a6 : (x.sta == y.sta) with
 | false =>
   simp -implicitDefEqProofs only [c42, r42, go_sem, D_callS, a0, a1, a2, a3, a4, a5, a6]
   exact Fini.ret rfl
 | true =>
 simp -implicitDefEqProofs only [c42, r42, go_sem, D_callS, a0, a1, a2, a3, a4, a5, a6]
 first | refine CD.intro (i1 _) ?_ | refine CS.intro i1 ?_
 cases sameM x.mt y.mt with
 | false =>
   simp -implicitDefEqProofs only [go_sem, D_callS]
   exact Fini.ret rfl
 | true =>
 simp -implicitDefEqProofs only [go_sem, D_callS]
 first | refine CD.intro (i2 _) ?_ | refine CS.intro i2 ?_
 cases sameBd (x.any, x.lo, x.hi) (y.any, y.lo, y.hi) with
 | false =>
   simp -implicitDefEqProofs only [go_sem, D_callS]
   exact Fini.ret rfl
 | true =>
 simp -implicitDefEqProofs only [go_sem, D_callS]
 first | refine CD.intro (i3 _) ?_ | refine CS.intro i3 ?_
 cases alikeB x.ru y.ru with
 | false =>
   simp -implicitDefEqProofs only [go_sem, D_callS]
   exact Fini.ret rfl
 | true =>
 simp -implicitDefEqProofs only [go_sem, D_callS]
 first | refine CD.intro (i4 _) ?_ | refine CS.intro i4 ?_
 cases sameL x.ls y.ls with
 | false =>
   simp -implicitDefEqProofs only [go_sem, D_callS]
   exact Fini.ret rfl
 | true =>
 simp -implicitDefEqProofs only [go_sem, D_callS]
 first | refine CD.intro (i5 _) ?_ | refine CS.intro i5 ?_
 simp -implicitDefEqProofs only [go_sem, D_callS]
 first | refine CD.intro (i6 _) ?_ | refine CS.intro i6 ?_
 simp -implicitDefEqProofs only [go_sem, D_callS]
 exact Fini.ret rfl
end Go.Proofs.YtmkmhhjkdaklbaaGreat
namespace Go.Proofs.YtmkmhhjkdaklbaaGreat
open Go Go.Ab
set_option maxRecDepth 100000
def c34 : ACode :=
 (sq_ [pr_ 0 mf_]
 (sq_ [pr_ 6 (.build z19_ [(0, 1, (.const (.string (ByteArray.mk #[114, 111, 111, 116])))), (1, 1, (.const (.int .i64 1)))]),
 pr_ 1 (.allocm z19_),
 st_ (so_ 19 1 6)]
 (sq_ [pr_ 8 (.bsl true 1 false 6 [.pl (.int .u8 0)] [(0, 1, (.const (.int .u8 4))), (1, 1, (.const (.int .u8 114))), (2, 1, (.const (.int .u8 111))), (3, 1, (.const (.int .u8 111))), (4, 1, (.const (.int .u8 116))), (5, 1, (.const (.int .u8 1)))]),
 pr_ 9 (.strm (.tmp 8)),
 c1_ 10 43 9,
 mv_ 7 10,
 pr_ 11 (ex_ 0 7),
 pr_ 12 (ex_ 1 7),
 pr_ 2 (.allocm z19_),
 st_ (so_ 19 2 11),
 mv_ 3 12]
 (sq_ [pr_ 14 (.bsl true 1 false 7 [.pl (.int .u8 0)] [(0, 1, (.const (.int .u8 4))), (1, 1, (.const (.int .u8 114))), (2, 1, (.const (.int .u8 111))), (3, 1, (.const (.int .u8 111))), (4, 1, (.const (.int .u8 116))), (5, 1, (.const (.int .u8 1))), (6, 1, (.const (.int .u8 0)))]),
 pr_ 15 (.strm (.tmp 14)),
 c1_ 16 43 15,
 mv_ 13 16,
 pr_ 17 (ex_ 0 13),
 pr_ 18 (ex_ 1 13),
 pr_ 4 (.allocm z19_),
 st_ (so_ 19 4 17),
 mv_ 5 18]
 (sq_ [pr_ 19 (lt_ 19 1),
 c1_ 20 39 19,
 pr_ 21 (.b2s (.tmp 20)),
 pr_ 22 (.bin false .eql (.tmp 21) (.const (.string (ByteArray.mk #[4, 114, 111, 111, 116, 1])))),
 mv_ 23 22,
 gp_ 24 23 true (mo_ 3),
 pr_ 25 (pa_ 23 24),
 mv_ 26 25,
 gp_ 27 26 true (fa_ 0 2),
 gp_ 28 26 true (lf_ 1 27),
 gp_ 29 26 true (.bin false .eql (.tmp 28) (.const (.string (ByteArray.mk #[114, 111, 111, 116])))),
 pr_ 30 (pa_ 26 29),
 mv_ 31 30,
 gp_ 32 31 true (fa_ 1 2),
 gp_ 33 31 true (lf_ 1 32),
 gp_ 34 31 true (bk_ .eql 33 .i64 1),
 pr_ 35 (pa_ 31 34),
 mv_ 36 35,
 gp_ 37 36 true (mo_ 5),
 gp_ 38 36 true (no_ 37),
 pr_ 39 (pa_ 36 38),
 mv_ 40 39,
 gp_ 41 40 true (lt_ 19 1),
 gc_ 42 40 true 35 [(.tmp 41)],
 pr_ 43 (pa_ 40 42),
 mv_ 44 43,
 gp_ 45 44 true (lt_ 19 1),
 gc_ 46 44 true 37 [(.tmp 45)],
 gp_ 47 44 true (.b2s (.tmp 46)),
 gp_ 48 44 true (.bin false .eql (.tmp 47) (.const (.string (ByteArray.mk #[1])))),
 pr_ 49 (pa_ 44 48),
 mv_ 0 49]
 .ret)))))
def o34 : List Tmp := [1, 2, 4, 8, 14]
def r34 : List RV := [.tmp 0]
theorem t34 : Text Tryz.prog 34 o34 c34 r34 50 := .mk_ Tryz.f34 rfl
def allF : List (Fun Tryz.prog) := [⟨106, o106, c106, r106, 33, t106⟩, ⟨108, o108, c108, r108, 41, t108⟩, ⟨132, o132, c132, r132, 6, t132⟩, ⟨142, o142, c142, r142, 32, t142⟩, ⟨143, o143, c143, r143, 22, t143⟩, ⟨144, o144, c144, r144, 21, t144⟩, ⟨159, o159, c159, r159, 11, t159⟩, ⟨160, o160, c160, r160, 29, t160⟩, ⟨161, o161, c161, r161, 18, t161⟩, ⟨162, o162, c162, r162, 8, t162⟩, ⟨163, o163, c163, r163, 20, t163⟩, ⟨171, o171, c171, r171, 26, t171⟩, ⟨172, o172, c172, r172, 8, t172⟩, ⟨173, o173, c173, r173, 6, t173⟩, ⟨181, o181, c181, r181, 33, t181⟩, ⟨182, o182, c182, r182, 16, t182⟩, ⟨191, o191, c191, r191, 19, t191⟩, ⟨192, o192, c192, r192, 21, t192⟩, ⟨193, o193, c193, r193, 28, t193⟩, ⟨201, o201, c201, r201, 78, t201⟩, ⟨208, o208, c208, r208, 25, t208⟩, ⟨209, o209, c209, r209, 68, t209⟩, ⟨210, o210, c210, r210, 15, t210⟩, ⟨211, o211, c211, r211, 16, t211⟩, ⟨212, o212, c212, r212, 19, t212⟩, ⟨213, o213, c213, r213, 8, t213⟩, ⟨221, o221, c221, r221, 23, t221⟩, ⟨222, o222, c222, r222, 8, t222⟩]
def allQ : List (Fun Tryz.prog) := [⟨56, o56, c56, r56, 40, t56⟩, ⟨69, o69, c69, r69, 37, t69⟩, ⟨54, o54, c54, r54, 6, t54⟩, ⟨59, o59, c59, r59, 26, t59⟩, ⟨60, o60, c60, r60, 22, t60⟩, ⟨61, o61, c61, r61, 7, t61⟩, ⟨62, o62, c62, r62, 12, t62⟩, ⟨83, o83, c83, r83, 15, t83⟩, ⟨112, o112, c112, r112, 12, t112⟩, ⟨113, o113, c113, r113, 36, t113⟩, ⟨71, o71, c71, r71, 19, t71⟩, ⟨72, o72, c72, r72, 9, t72⟩, ⟨115, o115, c115, r115, 43, t115⟩, ⟨116, o116, c116, r116, 48, t116⟩, ⟨51, o51, c51, r51, 65, t51⟩, ⟨107, o107, c107, r107, 20, t107⟩, ⟨94, o94, c94, r94, 7, t94⟩, ⟨17, o17, c17, r17, 44, t17⟩, ⟨19, o19, c19, r19, 38, t19⟩, ⟨58, o58, c58, r58, 40, t58⟩, ⟨70, o70, c70, r70, 17, t70⟩, ⟨114, o114, c114, r114, 15, t114⟩, ⟨139, o139, c139, r139, 12, t139⟩, ⟨140, o140, c140, r140, 16, t140⟩, ⟨55, o55, c55, r55, 24, t55⟩, ⟨57, o57, c57, r57, 24, t57⟩, ⟨68, o68, c68, r68, 36, t68⟩, ⟨122, o122, c122, r122, 27, t122⟩, ⟨93, o93, c93, r93, 22, t93⟩, ⟨158, o158, c158, r158, 24, t158⟩, ⟨35, o35, c35, r35, 10, t35⟩, ⟨37, o37, c37, r37, 82, t37⟩, ⟨39, o39, c39, r39, 12, t39⟩, ⟨43, o43, c43, r43, 25, t43⟩, ⟨86, o86, c86, r86, 11, t86⟩, ⟨87, o87, c87, r87, 22, t87⟩, ⟨90, o90, c90, r90, 31, t90⟩, ⟨91, o91, c91, r91, 14, t91⟩, ⟨92, o92, c92, r92, 31, t92⟩, ⟨103, o103, c103, r103, 93, t103⟩, ⟨104, o104, c104, r104, 25, t104⟩, ⟨125, o125, c125, r125, 100, t125⟩, ⟨126, o126, c126, r126, 89, t126⟩, ⟨131, o131, c131, r131, 46, t131⟩, ⟨136, o136, c136, r136, 24, t136⟩, ⟨137, o137, c137, r137, 24, t137⟩, ⟨138, o138, c138, r138, 37, t138⟩, ⟨153, o153, c153, r153, 16, t153⟩, ⟨154, o154, c154, r154, 24, t154⟩, ⟨155, o155, c155, r155, 6, t155⟩, ⟨157, o157, c157, r157, 11, t157⟩, ⟨34, o34, c34, r34, 50, t34⟩] ++ allF
/- 5428 steps -/
theorem rq_ok : Ans Tryz.prog 34 [] [] (.pl (.bool true)) [] := evFT_ok allQ extF [] 300 100 _ _ _ _ _ (by kernel_rfl)
/- 3883 steps -/
theorem rq_a (σ : St) : Ans Tryz.prog 34 [] σ (Bo true) σ := rq_ok.frame (bel_all rfl) σ
def c13 : ACode :=
 (sq_ [pr_ 2 mf_]
 (.seq (sq_ [mv_ 11 0,
 pr_ 12 (.lenv (.tmp 11)),
 pr_ 13 (bk_ .gtr 12 .i64 800)]
 (.cond (.tmp 13)
 (sq_ [cl_ 14 34 [],
 mv_ 2 14]
 .ret)
 .skip))
 (sq_ [mv_ 16 0,
 c1_ 17 43 16,
 mv_ 15 17,
 pr_ 18 (ex_ 0 15),
 pr_ 19 (ex_ 1 15),
 ⟨some 3, none, .fresh 19 3 (.tmp 18)⟩,
 mv_ 4 19]
 (sq_ [mv_ 21 0,
 c1_ 22 44 21,
 mv_ 20 22,
 pr_ 23 (ex_ 0 20),
 pr_ 24 (ex_ 1 20),
 ⟨some 5, none, .fresh 19 5 (.tmp 23)⟩,
 mv_ 6 24]
 (sq_ [mv_ 26 0,
 c1_ 27 45 26,
 mv_ 25 27,
 pr_ 28 (ex_ 0 25),
 pr_ 29 (ex_ 1 25),
 ⟨some 7, none, .fresh 19 7 (.tmp 28)⟩,
 mv_ 8 29]
 (sq_ [mv_ 31 0,
 c1_ 32 46 31,
 mv_ 30 32,
 pr_ 33 (ex_ 0 30),
 pr_ 34 (ex_ 1 30),
 ⟨some 9, none, .fresh 19 9 (.tmp 33)⟩,
 mv_ 10 34]
 (sq_ [mv_ 35 4,
 mv_ 36 6,
 pr_ 37 (.bin true .eql (.tmp 35) (.tmp 36)),
 mv_ 38 37,
 gp_ 39 38 true (lt_ 19 3),
 gp_ 40 38 true (lt_ 19 5),
 gc_ 41 38 true 42 [(.tmp 39), (.tmp 40)],
 pr_ 42 (pa_ 38 41),
 mv_ 43 42,
 gp_ 44 43 true (mo_ 8),
 gp_ 45 43 true (mo_ 10),
 gp_ 46 43 true (.bin true .eql (.tmp 44) (.tmp 45)),
 pr_ 47 (pa_ 43 46),
 mv_ 48 47,
 gp_ 49 48 true (lt_ 19 7),
 gp_ 50 48 true (lt_ 19 9),
 gc_ 51 48 true 42 [(.tmp 49), (.tmp 50)],
 pr_ 52 (pa_ 48 51),
 mv_ 53 52,
 gc_ 54 53 true 34 [],
 pr_ 55 (pa_ 53 54),
 mv_ 2 55]
 .ret)))))))
def o13 : List Tmp := []
def r13 : List RV := [.tmp 2]
theorem t13 : Text Tryz.prog 13 o13 c13 r13 56 := .mk_ Tryz.f13 rfl
end Go.Proofs.YtmkmhhjkdaklbaaGreat
namespace Go.Proofs.YtmkmhhjkdaklbaaGreat
open Go Go.Ab Go.Cod
set_option maxRecDepth 100000
theorem bool_self (b : Bool) : (b == b) = true := by cases b <;> rfl
structure ReLn (x : ReM) : Prop where
 mt : x.mt.length ≤ 1000
 src : x.ru.src.length ≤ 1000
 tgt : x.ru.tgt.length ≤ 1000
 eq : x.ru.eq.length ≤ 100000
 ls : x.ls.length ≤ 1000
theorem emI_zero {n : Nat} (h : emI n = true) : n = 0 := by unfold emI at h; simp only [beq_iff_eq] at h; omega
theorem may_ln {x : ReM} (h : mayR x = true) : ReLn x := by
 unfold mayR zeroB rightB at h
 generalize (fOf x.op).1 = f at h
 simp only [Bool.and_eq_true] at h
 obtain ⟨_, ⟨_, _, _, _, _, _, z7, z8, _⟩, _, _, _, _, _, r6, _, _, r9, r10⟩ := h
 have l1 := (listB_at r6).1
 have l2 : x.ru.src.length ≤ 1000 ∧ x.ru.tgt.length ≤ 1000 ∧ x.ru.eq.length ≤ 100000 := by
  cases h128 : hasF f 128 with
  | true =>
    rw [h128] at r9
    obtain ⟨q1, q2, q3, q4, q5⟩ := ruIs_all (show ruIs x.ru = true from r9)
    have := (listB_at q1).1; have := (listB_at q2).1
    omega
  | false =>
    rw [h128] at z7
    have z7 : noRl x.ru = true := z7
    unfold noRl at z7
    simp only [Bool.and_eq_true] at z7
    have := emI_zero z7.1; have := emI_zero z7.2.1; have := emI_zero z7.2.2.1
    omega
 have l3 : x.ls.length ≤ 1000 := by
  cases h256 : hasF f 256 with
  | true =>
    rw [h256] at r10
    have := (setB_at (show setB x.ls = true from r10)).1
    omega
  | false =>
    rw [h256] at z8
    have := emI_zero (show emI x.ls.length = true from z8)
    omega
 exact ⟨by omega, l2.1, l2.2.1, l2.2.2, l3⟩
theorem no_ln : ReLn noRe := ⟨by decide, by decide, by decide, by decide, by decide⟩
theorem bodyR_may {b : Byt} {x : ReM} {t : Byt} (h : bodyR b = some (x, t)) : mayR x = true := by
 cases b with
 | nil => cases h
 | cons c u =>
   have h : onlyR (clR (fOf (c.toNat : Int)).1 (c.toNat : Int)) mayR u = some (x, t) := h
   simp only [onlyR] at h
   cases h3 : clR (fOf (c.toNat : Int)).1 (c.toNat : Int) u with
   | none => simp [h3] at h
   | some y =>
     simp only [h3, Option.bind_some] at h
     split at h
     · rename_i hm
       simp only [Option.some.injEq] at h
       subst h
       exact hm
     · cases h
theorem wholeO_some {α : Type} {o : Option (α × Byt)} {x : α} (h : wholeO o = some x) : o = some (x, []) := by
 unfold wholeO at h
 split at h
 · simp only [Option.some.injEq] at h; rw [h]
 · cases h
theorem body_may {b : Byt} {x : ReM} (h : wholeO (bodyR b) = some x) : mayR x = true := bodyR_may (wholeO_some h)
theorem req_may {b : Byt} {x : ReM} (h : wholeO (reqR b) = some x) : mayR x = true := by
 rw [reqR_eq] at h
 cases ht : textR 16 b with
 | none => rw [ht] at h; cases h
 | some p =>
   rw [ht] at h
   simp only [Option.bind_some] at h
   split at h
   · cases hw : wholeO (bodyR p.2) with
     | none => rw [hw] at h; cases h
     | some y =>
       rw [hw] at h
       simp only [Option.map_some, Option.some.injEq] at h
       subst h
       have hm : mayR y = true := body_may hw
       exact hm
   · cases h
theorem whole_form {o : Option ReM} (h : ∀ x, o = some x → mayR x = true) : ∃ (x : ReM) (ok : Bool), ReLn x ∧ wholeV o = .tup [reV x, Bo ok] := by
 cases o with
 | none => exact ⟨noRe, false, no_ln, rfl⟩
 | some x => exact ⟨x, true, may_ln (h x rfl), rfl⟩
theorem same_self (x : ReM) (h : ReLn x) (σ : St) : Ans Tryz.prog 42 [reV x, reV x] σ (Bo true) σ := by
 have := samere_ans σ x x h.mt h.src h.tgt h.eq h.ls
 rw [sameRe_refl] at this; exact this
theorem reqReads_ans (b : Byt) : Ans Tryz.prog 13 [.sl 1 (byv b)] [] (.pl (.bool true)) [] := by
 have d8 : decide ((800 : Int) < b.length) = decide (800 < b.length) := decNN 800 _
 refine Ans.of_run t13 ?_
 by_cases h8 : 800 < b.length
 · rw [decide_eq_true h8] at d8
   simp -implicitDefEqProofs only [c13, r13, go_sem, byv_len, d8]
   refine CO.intro (rq_a _) ?_
   simp -implicitDefEqProofs only [go_sem]
   exact Fini.ret rfl
 · rw [decide_eq_false h8] at d8
   have p1 := fun s => readreq_ans s b (by omega)
   have p2 := fun s => dreadreq_ans s b (by omega)
   have p3 := fun s => readbody_ans s b (by omega)
   have p4 := fun s => dreadbody_ans s b (by omega)
   obtain ⟨x, ok, hx, hv⟩ := whole_form (o := wholeO (reqR b)) (fun x h => req_may h)
   obtain ⟨y, is, hy, hw⟩ := whole_form (o := wholeO (bodyR b)) (fun x h => body_may h)
   rw [hv] at p1 p2
   rw [hw] at p3 p4
   have s1 := same_self x hx
   have s2 := same_self y hy
   have e0 := bool_self
   unfold reV reC at *
   simp -implicitDefEqProofs only [c13, r13, go_sem, byv_len, d8]
   refine CO.intro (p1 _) ?_
   simp -implicitDefEqProofs only [go_sem]
   refine CO.intro (p2 _) ?_
   simp -implicitDefEqProofs only [go_sem]
   refine CO.intro (p3 _) ?_
   simp -implicitDefEqProofs only [go_sem]
   refine CO.intro (p4 _) ?_
   simp -implicitDefEqProofs only [go_sem, e0]
   refine CO.intro (s1 _) ?_
   simp -implicitDefEqProofs only [go_sem, e0]
   refine CO.intro (s2 _) ?_
   simp -implicitDefEqProofs only [go_sem]
   refine CO.intro (rq_a _) ?_
   simp -implicitDefEqProofs only [go_sem]
   exact Fini.ret rfl
end Go.Proofs.YtmkmhhjkdaklbaaGreat
