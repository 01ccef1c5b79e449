/- Any lists of matchers: the document's List. No condition. -/
import Derived.Test.YtmkmhhjkdaklbaaGreatXPDoc1
import Derived.Test.YtmkmhhjkdaklbaaGreatXDc10
import Derived.Test.YtmkmhhjkdaklbaaGreatProg
import Derived.Test.YtmkmhhjkdaklbaaGreatAbStep
import Derived.Test.YtmkmhhjkdaklbaaGreatRows
import Derived.Test.YtmkmhhjkdaklbaaGreatAbArg
import Derived.Test.YtmkmhhjkdaklbaaGreatXPPar5
import Derived.Test.YtmkmhhjkdaklbaaGreatXVi1
set_option linter.unusedSimpArgs false
set_option linter.unusedVariables false
namespace Go.Proofs.YtmkmhhjkdaklbaaGreat
open Go Go.Ab
set_option maxRecDepth 100000
theorem before_ans (σ : St) (x y : Mtr) : Ans Tryz.prog 150 [mv3 x, mv3 y] σ (Bo (aheadD x y)) σ := by
 refine Ans.of_run t150 ?_
 unfold aheadD
 simp -implicitDefEqProofs only [c150, r150, go_sem, mv3]
 cases h1 : (x.2.1.toList == y.2.1.toList) with
 | false =>
   simp -implicitDefEqProofs only [go_sem]
   exact Fini.ret rfl
 | true =>
   simp -implicitDefEqProofs only [go_sem]
   cases h2 : (x.1 == y.1) with
   | false =>
     simp -implicitDefEqProofs only [go_sem, bne, h2]
     exact Fini.ret rfl
   | true =>
     simp -implicitDefEqProofs only [go_sem, bne, h2]
     exact Fini.ret rfl
theorem mvs3_get (M : List Mtr) (i : Nat) (h : i < M.length) : (mvs3 M)[i]? = some (mv3 M[i]) := by simp [mvs3, h]
theorem mvs3_len (M : List Mtr) : (mvs3 M).length = M.length := List.length_map ..
abbrev noM3 : Mtr := (0, ⟨#[]⟩, ⟨#[]⟩)
def isM (x : Mtr) : Bool := isB x.1 x.2.1 x.2.2
def okL (M : List Mtr) (i : Nat) : Bool := isM (M.getD i noM3) && (i == 0 || aheadD (M.getD (i - 1) noM3) (M.getD i noM3))
def listB (M : List Mtr) : Bool := decide (M.length ≤ 5) && (List.range M.length).all (okL M)
theorem mget_D (M : List Mtr) (i : Nat) (h : i < M.length) : (mvs3 M)[i]? = some (mv3 (M.getD i noM3)) := by
 rw [mvs3_get M i h, List.getD_eq_getElem?_getD, List.getElem?_eq_getElem h]; rfl
theorem dlist_ans (σ : St) (M : List Mtr) (hs : ∀ x ∈ M, x.2.1.size ≤ 100000) : Ans Tryz.prog 117 [.sl 3 (mvs3 M)] σ (Bo (listB M)) σ := by
 refine Ans.of_run t117 ?_
 have d5 : decide ((5 : Int) < M.length) = decide (5 < M.length) := decN 5 _
 unfold listB
 simp -implicitDefEqProofs only [c117, r117, go_sem, mvs3_len, d5]
 by_cases hl : M.length ≤ 5
 · rw [decide_eq_true hl, Bool.true_and]
   have h5 : decide (5 < M.length) = false := decide_eq_false (by omega)
   simp -implicitDefEqProofs only [go_sem, h5]
   refine Go.Ab.L.scan M.length (okL M) (fun i => mkE 36 [(0, .sl 3 (mvs3 M)), (3, I i)]) (fun _ => σ) ?_ ?_ rfl rfl
   · intro i hi hp J hJ
     have hF : okL M i = false → (List.range M.length).all (okL M) = false := fun h => List.all_eq_false.2 ⟨i, List.mem_range.2 hi, by simp [h]⟩
     have hx := mget_D M i hi
     have hsz : (M.getD i noM3).2.1.size ≤ 100000 := by
      rw [List.getD_eq_getElem?_getD, List.getElem?_eq_getElem hi]; exact hs _ (List.getElem_mem hi)
     have hin := wrap_nat (n := i) (by omega)
     have hI := fun σ => dis_any σ (M.getD i noM3).1 (M.getD i noM3).2.1 (M.getD i noM3).2.2 hsz
     have hO : okL M i = (isB (M.getD i noM3).1 (M.getD i noM3).2.1 (M.getD i noM3).2.2 && (i == 0 || aheadD (M.getD (i - 1) noM3) (M.getD i noM3))) := rfl
     have d0 : decide ((0 : Int) < i) = decide (0 < i) := decN 0 i
     rw [hO] at hJ hF
     simp -implicitDefEqProofs only [mkE, go_sem, mvs3_len, nat_lt hi, dec_lt hi, hx, mv3, D_callS]
     first | refine CD.intro (hI _) ?_ | refine CS.intro hI ?_
     generalize isB (M.getD i noM3).1 (M.getD i noM3).2.1 (M.getD i noM3).2.2 = b1 at hJ hF
     cases b1 with
     | false =>
       simp -implicitDefEqProofs only [go_sem]
       refine Fini.ret' rfl (bo_congr ?_)
       rw [hF rfl]
     | true =>
       by_cases hz : i = 0
       · subst hz
         simp -implicitDefEqProofs only [go_sem, hin, D_callS, Int.natCast_zero]
         exact hJ rfl
       · have hpos : decide (0 < i) = true := by simp; omega
         have hx1 := mget_D M (i - 1) (by omega)
         have hB := fun σ => before_ans σ (M.getD (i - 1) noM3) (M.getD i noM3)
         have w1 : IntKind.i64.wrap ((i : Int) - 1) = ((i - 1 : Nat) : Int) := by rw [wrapN (by omega) (by omega)]; omega
         have hlt1 : (((i - 1 : Nat) : Int) < M.length) = True := by simp; omega
         have hz' : (i == 0) = false := by simpa using hz
         rw [hz'] at hJ hF
         simp -implicitDefEqProofs only [go_sem, d0, hpos, w1, mvs3_len, nat_lt hi, dec_lt hi, hlt1, hx, hx1, D_callS, mv3]
         first | refine CD.intro (hB _) ?_ | refine CS.intro hB ?_
         generalize aheadD (M.getD (i - 1) noM3) (M.getD i noM3) = b2 at hJ hF
         cases b2 with
         | true =>
           simp -implicitDefEqProofs only [go_sem, hin]
           exact hJ rfl
         | false =>
           simp -implicitDefEqProofs only [go_sem]
           refine Fini.ret' rfl (bo_congr ?_)
           rw [hF rfl]
   · intro hp J
     have hd : decide ((M.length : Int) < M.length) = false := by simp
     simp -implicitDefEqProofs only [mkE, go_sem, mvs3_len, hd]
     refine Fini.ret' rfl (bo_congr ?_)
     exact (List.all_eq_true.2 fun i hi => hp i (List.mem_range.1 hi)).symm
 · rw [decide_eq_false hl, Bool.false_and]
   have h5 : decide (5 < M.length) = true := decide_eq_true (by omega)
   simp -implicitDefEqProofs only [go_sem, h5]
   exact Fini.ret rfl
theorem bel_mvs3 (n : Nat) (M : List Mtr) : Bel n (.sl 3 (mvs3 M)) := by
 refine .sl 3 _ fun i hi => ?_
 have : ∀ y ∈ mvs3 M, Bel n y := by
  intro y hy
  simp only [mvs3, List.mem_map] at hy
  obtain ⟨x, _, rfl⟩ := hy
  refine .agg _ fun i hi => ?_
  have : ∀ y ∈ ([I x.1, Sx x.2.1, Sx x.2.2] : List AV), Bel n y := by
   intro y hy
   simp only [List.mem_cons, List.not_mem_nil, or_false] at hy
   rcases hy with rfl | rfl | rfl <;> exact .pl _
  exact this _ (List.getElem_mem hi)
 exact this _ (List.getElem_mem hi)
theorem BL_mvs (n : Nat) (M : List Mtr) : Bel n (.sl 3 (mvs3 M)) = True := eq_true (bel_mvs3 n M)
theorem memM (n : Nat) (k : Int) (a b : ByteArray) : ∀ y ∈ ([I k, Sx a, Sx b] : List AV), Bel n y := by
 intro y hy
 simp only [List.mem_cons, List.not_mem_nil, or_false] at hy
 rcases hy with rfl | rfl | rfl <;> exact .pl _
theorem BL_mat (n : Nat) (k : Int) (a b : ByteArray) : Bel n (.agg [I k, Sx a, Sx b]) = True := eq_true (.agg _ fun i hi => memM n k a b _ (List.getElem_mem hi))
theorem BL_rp (n : Nat) (k : Int) (a b : ByteArray) : Bel n (.rp [I k, Sx a, Sx b]) = True := eq_true (.rp _ fun i hi => memM n k a b _ (List.getElem_mem hi))
theorem list_any (σ : St) (M : List Mtr) : Ans Tryz.prog 106 [.sl 3 (mvs3 M)] σ (Bo (listB M)) σ := by
 refine Ans.of_run' t106 (fun hbel _ => ?_)
 have d5 : decide ((5 : Int) < M.length) = decide (5 < M.length) := decN 5 _
 have hb0 : (∀ o ∈ σ, BelO σ.length o) = True := eq_true hbel
 unfold listB
 simp -implicitDefEqProofs only [c106, r106, go_sem, mvs3_len, d5]
 by_cases hl : M.length ≤ 5
 · rw [decide_eq_true hl, Bool.true_and]
   have h5 : decide (5 < M.length) = false := decide_eq_false (by omega)
   simp -implicitDefEqProofs only [go_sem, h5, mvs3_len]
   refine Go.Ab.L.scan M.length (okL M) (fun i => mkE 33 [(0, .sl 3 (mvs3 M)), (8, .sl 3 (mvs3 M)), (9, I M.length), (10, I i)]) (fun _ => σ) ?_ ?_ rfl rfl
   · intro i hi hp J hJ
     have htk : ∀ x : Ob, (σ ++ [x]).take σ.length = σ := fun x => List.take_left' rfl
     have hF : okL M i = false → (List.range M.length).all (okL M) = false := fun h => List.all_eq_false.2 ⟨i, List.mem_range.2 hi, by simp [h]⟩
     have hx := mget_D M i hi
     have hin := wrap_nat (n := i) (by omega)
     have hI := fun σ => is_any σ (M.getD i noM3).1 (M.getD i noM3).2.1 (M.getD i noM3).2.2
     have hO : okL M i = (isB (M.getD i noM3).1 (M.getD i noM3).2.1 (M.getD i noM3).2.2 && (i == 0 || aheadD (M.getD (i - 1) noM3) (M.getD i noM3))) := rfl
     have d0 : decide ((0 : Int) < i) = decide (0 < i) := decN 0 i
     rw [hO] at hJ hF
     simp -implicitDefEqProofs only [mkE, go_sem, mvs3_len, nat_lt hi, dec_lt hi, hx, mv3, D_callS, g0, s0, List.drop_nil]
     first | refine CD.intro (hI _) ?_ | refine CS.intro hI ?_
     generalize isB (M.getD i noM3).1 (M.getD i noM3).2.1 (M.getD i noM3).2.2 = b1 at hJ hF
     cases b1 with
     | false =>
       simp -implicitDefEqProofs only [go_sem, D_callS, g0, s0]
       rw [hF rfl]
       exact Fini.trim2 (σ' := σ) rfl rfl (Nat.le_refl _) (.pl _) hbel
     | true =>
       by_cases hz : i = 0
       · subst hz
         have hgo := hJ rfl
         simp -implicitDefEqProofs only [go_sem, hin, D_callS, g0, s0, Int.natCast_zero, B_pl, B_any, B_nils, B_tup, B_osl, B_ptr, B_sl0, BL_mvs, BL_mat, BL_rp, htk, Nat.add_zero, hb0, List.length_append]
         exact ⟨by omega, hgo⟩
       · have hpos : decide (0 < i) = true := by simp; omega
         have hx1 := mget_D M (i - 1) (by omega)
         have hB := fun σ => compare_ans σ (M.getD (i - 1) noM3) (M.getD i noM3)
         have hc := cmp3_aheadD (M.getD (i - 1) noM3) (M.getD i noM3)
         have w1 : IntKind.i64.wrap ((i : Int) - 1) = ((i - 1 : Nat) : Int) := by rw [wrapN (by omega) (by omega)]; omega
         have hlt1 : (((i - 1 : Nat) : Int) < M.length) = True := by simp; omega
         have hz' : (i == 0) = false := by simpa using hz
         rw [hz'] at hJ hF
         simp -implicitDefEqProofs only [go_sem, d0, hpos, w1, mvs3_len, nat_lt hi, dec_lt hi, hlt1, hx, hx1, D_callS, mv3, g0, s0]
         first | refine CD.intro (hB _) ?_ | refine CS.intro hB ?_
         generalize aheadD (M.getD (i - 1) noM3) (M.getD i noM3) = b2 at hJ hF hc
         generalize cmp3 (M.getD (i - 1) noM3) (M.getD i noM3) = cc at hc
         cases b2 with
         | true =>
           have hgo := hJ rfl
           simp -implicitDefEqProofs only [go_sem, hc, hin, g0, s0, B_pl, B_any, B_nils, B_tup, B_osl, B_ptr, B_sl0, BL_mvs, BL_mat, BL_rp, htk, Nat.add_zero, hb0, List.length_append, Bool.not_true]
           exact ⟨by omega, hgo⟩
         | false =>
           simp -implicitDefEqProofs only [go_sem, hc, Bool.not_false, g0, s0]
           rw [hF rfl]
           exact Fini.trim2 (σ' := σ) rfl rfl (Nat.le_refl _) (.pl _) hbel
   · intro hp J
     have hd : decide ((M.length : Int) < M.length) = false := by simp
     simp -implicitDefEqProofs only [mkE, go_sem, mvs3_len, hd]
     refine Fini.ret' rfl (bo_congr ?_)
     exact (List.all_eq_true.2 fun i hi => hp i (List.mem_range.1 hi)).symm
 · rw [decide_eq_false hl, Bool.false_and]
   have h5 : decide (5 < M.length) = true := decide_eq_true (by omega)
   simp -implicitDefEqProofs only [go_sem, h5]
   exact Fini.ret rfl
def c51 : ACode :=
 (sq_ [pr_ 1 (.boxr (.tmp 0)),
 pr_ 2 mf_]
 (.seq (sq_ [pr_ 5 (fa_ 0 1),
 pr_ 6 (lf_ 1 5),
 pr_ 7 (.lenv (.tmp 6)),
 pr_ 8 (bk_ .eql 7 .i64 0),
 mv_ 9 8,
 gp_ 10 9 false (fa_ 1 1),
 gp_ 11 9 false (lf_ 1 10),
 gp_ 12 9 false (.lenv (.tmp 11)),
 gp_ 13 9 false (bk_ .eql 12 .i64 0),
 pr_ 14 (po_ 9 13),
 mv_ 15 14,
 gp_ 16 15 false (fa_ 0 1),
 gp_ 17 15 false (lf_ 1 16),
 gc_ 18 15 false 106 [(.tmp 17)],
 gp_ 19 15 false (no_ 18),
 pr_ 20 (po_ 15 19),
 mv_ 21 20,
 gp_ 22 21 false (fa_ 1 1),
 gp_ 23 21 false (lf_ 1 22),
 gc_ 24 21 false 106 [(.tmp 23)],
 gp_ 25 21 false (no_ 24),
 pr_ 26 (po_ 21 25),
 mv_ 27 26,
 gp_ 28 27 false (fa_ 2 1),
 gp_ 29 27 false (lt_ 3 28),
 gc_ 30 27 false 107 [(.tmp 29)],
 gp_ 31 27 false (no_ 30),
 pr_ 32 (po_ 27 31),
 mv_ 33 32,
 gp_ 34 33 false (fa_ 5 1),
 gp_ 35 33 false (lf_ 1 34),
 gp_ 36 33 false (.lenv (.tmp 35)),
 gp_ 37 33 false (bk_ .gtr 36 .i64 4),
 pr_ 38 (po_ 33 37)]
 (.cond (.tmp 38)
 (sq_ [pr_ 2 mf_]
 .ret)
 .skip))
 (.seq (sq_ [pr_ 39 (fa_ 5 1),
 pr_ 40 (lf_ 1 39),
 pr_ 41 (.lenv (.tmp 40)),
 pr_ 42 (mi_ .i64 0)]
 (.block 0 (.loop [0, 2, 3, 4, 5, 6, 7, 8, 9, 10, 11, 12, 13, 14, 15, 16, 17, 18, 19, 20, 21, 22, 23, 24, 25, 26, 27, 28, 29, 30, 31, 32, 33, 34, 35, 36, 37, 38, 39, 43, 44, 45, 46, 47, 48, 49, 50, 51, 52, 53, 54, 55, 56, 57, 58, 59, 60, 61, 62, 63, 64] (sq_ [pr_ 43 (bt_ .lss 42 41)]
 (.seq (.cond (.tmp 43)
 .skip
 (.exit 0))
 (.seq (.block 1 (sq_ [mv_ 44 42,
 pr_ 45 (.iadrs 1 (.tmp 40) (.tmp 42)),
 pr_ 46 (lf_ 1 45),
 mv_ 3 44,
 mv_ 4 46]
 (sq_ [mv_ 47 4,
 c1_ 48 108 47,
 pr_ 49 (no_ 48),
 mv_ 50 49,
 gp_ 51 50 false (mo_ 3),
 gp_ 52 50 false (bk_ .gtr 51 .i64 0),
 gp_ 53 50 false (mo_ 52),
 gp_ 54 53 true (mo_ 4),
 gp_ 55 53 true (fa_ 5 1),
 gp_ 56 53 true (lf_ 1 55),
 gp_ 57 53 true (mo_ 3),
 gp_ 58 53 true (bk_ .sub 57 .i64 1),
 gp_ 59 53 true (.iadrs 1 (.tmp 56) (.tmp 58)),
 gp_ 60 53 true (lf_ 1 59),
 gp_ 61 53 true (bt_ .leq 54 60),
 gp_ 62 50 false (pa_ 53 61),
 pr_ 63 (po_ 50 62)]
 (.cond (.tmp 63)
 (sq_ [pr_ 2 mf_]
 .ret)
 .skip))))
 (.ops [pr_ 64 (bk_ .add 42 .i64 1),
 mv_ 42 64])))))))
 (sq_ [pr_ 2 mt_]
 .ret))))
def o51 : List Tmp := []
def r51 : List RV := [.tmp 2]
theorem t51 : Text Tryz.prog 51 o51 c51 r51 65 := .mk_ Tryz.f51 rfl
def c94 : ACode :=
 (sq_ [pr_ 2 (mi_ .u64 0)]
 (.seq (sq_ [mv_ 3 0,
 c1_ 4 132 3]
 (.cond (.tmp 4)
 (sq_ [pr_ 2 (mi_ .u64 9221120237041090561)]
 .ret)
 .skip))
 (sq_ [mv_ 5 0,
 c1_ 6 47 5,
 mv_ 2 6]
 .ret)))
def o94 : List Tmp := []
def r94 : List RV := [.tmp 2]
theorem t94 : Text Tryz.prog 94 o94 c94 r94 7 := .mk_ Tryz.f94 rfl
def c107 : ACode :=
 (sq_ [pr_ 1 (.boxr (.tmp 0)),
 pr_ 2 mf_]
 (.seq (sq_ [pr_ 3 (fa_ 0 1),
 pr_ 4 (lf_ 1 3)]
 (.cond (.tmp 4)
 (sq_ [pr_ 5 (fa_ 1 1),
 pr_ 6 (lf_ 1 5),
 c1_ 7 94 6,
 pr_ 8 (bk_ .eql 7 .u64 0),
 mv_ 9 8,
 gp_ 10 9 true (fa_ 2 1),
 gp_ 11 9 true (lf_ 1 10),
 gc_ 12 9 true 94 [(.tmp 11)],
 gp_ 13 9 true (bk_ .eql 12 .u64 0),
 pr_ 14 (pa_ 9 13),
 mv_ 2 14]
 .ret)
 .skip))
 (sq_ [pr_ 15 (fa_ 1 1),
 pr_ 16 (lf_ 1 15),
 pr_ 17 (fa_ 2 1),
 pr_ 18 (lf_ 1 17),
 pr_ 19 (bt_ .leq 16 18),
 mv_ 2 19]
 .ret)))
def o107 : List Tmp := []
def r107 : List RV := [.tmp 2]
theorem t107 : Text Tryz.prog 107 o107 c107 r107 20 := .mk_ Tryz.f107 rfl
end Go.Proofs.YtmkmhhjkdaklbaaGreat
namespace Go.Proofs.YtmkmhhjkdaklbaaGreat
open Go Go.Ab Go.Cod
set_option maxRecDepth 100000
abbrev Fl (n : Nat) : AV := .pl (.float .f64 n)
structure RuM where
 src : List Mtr
 tgt : List Mtr
 any : Bool
 lo : Nat
 hi : Nat
 eq : List ByteArray
def txs (l : List ByteArray) : List AV := l.map fun s => Sx s
def ruV (r : RuM) : AV := .agg [.sl 3 (mvs3 r.src), .sl 3 (mvs3 r.tgt), Bo r.any, Fl r.lo, Fl r.hi, .sl 1 (txs r.eq)]
theorem txs_len (l : List ByteArray) : (txs l).length = l.length := List.length_map ..
theorem txs_get (l : List ByteArray) (i : Nat) (h : i < l.length) : (txs l)[i]? = some (Sx l[i]) := by simp [txs, h]
theorem txs_D (l : List ByteArray) (i : Nat) (h : i < l.length) : (txs l)[i]? = some (Sx (l.getD i ⟨#[]⟩)) := by
 rw [txs_get l i h, List.getD_eq_getElem?_getD, List.getElem?_eq_getElem h]; rfl
def leF (a b : Nat) : Bool := FloatKind.f64.format.order a b == some .lt || FloatKind.f64.format.order a b == some .eq
theorem leF_def (a b : Nat) : (FloatKind.f64.format.order a b == some .lt || FloatKind.f64.format.order a b == some .eq) = leF a b := rfl
def nanF (a : Nat) : Bool := FloatKind.f64.format.order a a != some .eq
theorem nanF_def (a : Nat) : (FloatKind.f64.format.order a a != some .eq) = nanF a := rfl
def bitsF (a : Nat) : Nat := if nanF a then 9221120237041090561 else a
def mayB (any : Bool) (lo hi : Nat) : Bool := if any then (((bitsF lo : Nat) : Int) == 0) && (((bitsF hi : Nat) : Int) == 0) else leF lo hi
def eqOk (e : List ByteArray) (i : Nat) : Bool := nameB (e.getD i ⟨#[]⟩) && !(decide (0 < i) && leS (e.getD i ⟨#[]⟩) (e.getD (i - 1) ⟨#[]⟩))
def eqB (e : List ByteArray) : Bool := decide (e.length ≤ 4) && (List.range e.length).all (eqOk e)
def ruIs (r : RuM) : Bool := !(((r.src.length : Nat) : Int) == 0) && (!(((r.tgt.length : Nat) : Int) == 0) && (listB r.src && (listB r.tgt && (mayB r.any r.lo r.hi && eqB r.eq))))
section
variable (σ : St)
theorem no_ans (a : Nat) : Ans Tryz.prog 132 [Fl a] σ (Bo (nanF a)) σ := by
 refine Ans.of_run t132 ?_
 simp -implicitDefEqProofs only [c132, r132, go_sem, nanF_def]
 exact Fini.ret rfl
theorem f64bits_ans (a : Nat) : Ans Tryz.prog 47 [Fl a] σ (UN a) σ := ext_bits.ok _ _ _ _ rfl
theorem bits_ans (a : Nat) : Ans Tryz.prog 94 [Fl a] σ (UN (bitsF a)) σ := by
 refine Ans.of_run t94 ?_
 simp -implicitDefEqProofs only [c94, r94, go_sem]
 refine CO.intro (no_ans σ a) ?_
 unfold bitsF
 cases nanF a with
 | true =>
   simp -implicitDefEqProofs only [go_sem]
   exact Fini.ret rfl
 | false =>
   simp -implicitDefEqProofs only [go_sem]
   refine CO.intro (f64bits_ans σ a) ?_
   simp -implicitDefEqProofs only [go_sem]
   exact Fini.ret rfl
theorem may_ans (any : Bool) (lo hi : Nat) : Ans Tryz.prog 107 [.agg [Bo any, Fl lo, Fl hi]] σ (Bo (mayB any lo hi)) σ := by
 refine Ans.of_run t107 ?_
 unfold mayB
 cases any with
 | true =>
   simp -implicitDefEqProofs only [c107, r107, go_sem]
   refine CO.intro (bits_ans σ lo) ?_
   cases h : (((bitsF lo : Nat) : Int) == 0) with
   | false =>
     simp -implicitDefEqProofs only [go_sem, h]
     exact Fini.ret rfl
   | true =>
     simp -implicitDefEqProofs only [go_sem, h]
     refine CO.intro (bits_ans σ hi) ?_
     simp -implicitDefEqProofs only [go_sem, h]
     exact Fini.ret rfl
 | false =>
   simp -implicitDefEqProofs only [c107, r107, go_sem, leF_def]
   exact Fini.ret rfl
theorem ruis_ans (r : RuM) : Ans Tryz.prog 51 [ruV r] σ (Bo (ruIs r)) σ := by
 obtain ⟨src, tgt, any, lo, hi, eq⟩ := r
 have d4 : decide ((4 : Int) < eq.length) = decide (4 < eq.length) := decNN 4 _
 refine Ans.of_run t51 ?_
 unfold ruIs ruV
 simp only
 cases h1 : (((src.length : Nat) : Int) == 0) with
 | true =>
   simp -implicitDefEqProofs only [c51, r51, go_sem, mvs3_len, h1]
   exact Fini.ret rfl
 | false =>
 cases h2 : (((tgt.length : Nat) : Int) == 0) with
 | true =>
   simp -implicitDefEqProofs only [c51, r51, go_sem, mvs3_len, h1, h2]
   exact Fini.ret rfl
 | false =>
 simp -implicitDefEqProofs only [c51, r51, go_sem, mvs3_len, h1, h2]
 refine CO.intro (list_any σ src) ?_
 cases h3 : listB src with
 | false =>
   simp -implicitDefEqProofs only [go_sem]
   exact Fini.ret rfl
 | true =>
 simp -implicitDefEqProofs only [go_sem]
 refine CO.intro (list_any σ tgt) ?_
 cases h4 : listB tgt with
 | false =>
   simp -implicitDefEqProofs only [go_sem]
   exact Fini.ret rfl
 | true =>
 simp -implicitDefEqProofs only [go_sem]
 refine CO.intro (may_ans σ any lo hi) ?_
 cases h5 : mayB any lo hi with
 | false =>
   simp -implicitDefEqProofs only [go_sem]
   exact Fini.ret rfl
 | true =>
 unfold eqB
 by_cases h6 : eq.length ≤ 4
 · have x4 : decide (4 < eq.length) = false := decide_eq_false (by omega)
   rw [decide_eq_true h6]
   simp -implicitDefEqProofs only [go_sem, txs_len, d4, x4]
   refine Go.Ab.L.scan eq.length (eqOk eq) (fun i => mkE 65 [(1, .rp [.sl 3 (mvs3 src), .sl 3 (mvs3 tgt), Bo any, Fl lo, Fl hi, .sl 1 (txs eq)]), (40, .sl 1 (txs eq)), (41, I eq.length), (42, I i)]) (fun _ => σ) ?_ ?_ rfl rfl
   · intro i hi hp J hJ
     have hx := txs_D eq i hi
     have hF : eqOk eq i = false → (List.range eq.length).all (eqOk eq) = false := fun h => List.all_eq_false.2 ⟨i, List.mem_range.2 hi, by rw [h]; decide⟩
     have hin := wrap_succ (i := i) (by omega)
     have d0 : decide ((0 : Int) < i) = decide (0 < i) := by rw [Bool.eq_iff_iff]; simp
     have hO : eqOk eq i = (nameB (eq.getD i ⟨#[]⟩) && !(decide (0 < i) && leS (eq.getD i ⟨#[]⟩) (eq.getD (i - 1) ⟨#[]⟩))) := rfl
     rw [hO] at hJ hF
     simp -implicitDefEqProofs only [mkE, go_sem, txs_len, nat_lt hi, dec_lt hi, hx]
     refine CO.intro (name_ans' σ _) ?_
     generalize eq.getD i ⟨#[]⟩ = s at hJ hF hx
     cases hb : nameB s with
     | false =>
       rw [hb] at hF
       rw [hF rfl]
       simp -implicitDefEqProofs only [go_sem]
       exact Fini.ret rfl
     | true =>
       rw [hb] at hJ hF
       by_cases hz : i = 0
       · subst hz
         have hgo := hJ rfl
         simp -implicitDefEqProofs only [go_sem, d0, hin]
         exact hgo
       · have hpos : decide (0 < i) = true := decide_eq_true (by omega)
         have hx1 := txs_D eq (i - 1) (by omega)
         have w1 : IntKind.i64.wrap ((i : Int) - 1) = ((i - 1 : Nat) : Int) := by rw [wrapN (by omega) (by omega)]; omega
         have hlt1 : (((i - 1 : Nat) : Int) < eq.length) = True := by simp; omega
         rw [hpos] at hJ hF
         generalize eq.getD (i - 1) ⟨#[]⟩ = s1 at hJ hF hx1
         have hle : (Op.bytesLess s.toList s1.toList || s.toList == s1.toList) = leS s s1 := rfl
         simp -implicitDefEqProofs only [go_sem, d0, hpos, w1, txs_len, hlt1, hx1, hle]
         cases h7 : leS s s1 with
         | true =>
           rw [h7] at hF
           rw [hF rfl]
           simp -implicitDefEqProofs only [go_sem]
           exact Fini.ret rfl
         | false =>
           rw [h7] at hJ
           have hgo := hJ rfl
           simp -implicitDefEqProofs only [go_sem, hin]
           exact hgo
   · intro hp J
     have hd : decide ((eq.length : Int) < eq.length) = false := by simp
     simp -implicitDefEqProofs only [mkE, go_sem, txs_len, hd]
     refine Fini.ret' rfl (bo_congr ?_)
     exact (List.all_eq_true.2 fun i hi => hp i (List.mem_range.1 hi)).symm
 · have x4 : decide (4 < eq.length) = true := decide_eq_true (by omega)
   rw [decide_eq_false h6]
   simp -implicitDefEqProofs only [go_sem, txs_len, d4, x4]
   exact Fini.ret rfl
end
def mkM (x : UInt8 × ByteArray × ByteArray) : Mtr := ((x.1.toNat : Int), x.2.1, x.2.2)
def mtrR : Rd Mtr := dressR (seqR byteR (seqR (textR 12) (textR 40))) mkM
def listR : Rd (List Mtr) := onlyR (rowR 5 mtrR) listB
def putM (x : Mtr) : Byt := x.1.toNat.toUInt8 :: (txtB x.2.1 ++ txtB x.2.2)
def putL (M : List Mtr) : Byt := laidRow putM M
theorem ends_mtr : EndsR mtrR := ends_dress (ends_seq ends_byte (ends_seq (ends_text 12) (ends_text 40))) _
theorem ends_list : EndsR listR := ends_only (ends_row ends_mtr 5) _
theorem mtr_fits : Fits mtrR putM (fun x => 0 ≤ x.1 ∧ x.1 < 256 ∧ x.2.1.size ≤ 12 ∧ x.2.2.size ≤ 40) := by
 refine dress_fits (seq_fits byte_fits (seq_fits (text_fits (by decide)) (text_fits (by decide)))) (g := fun x => (x.1.toNat.toUInt8, x.2.1, x.2.2)) ?_ ?_
 · rintro ⟨c, n, v⟩ ⟨_, h1, h2⟩
   have := c.toNat_lt
   refine ⟨⟨by simp only [mkM]; omega, by simp only [mkM]; omega, h1, h2⟩, ?_⟩
   simp only [putM, mkM, Int.toNat_natCast, toUInt8_toNat]
   rfl
 · rintro ⟨k, n, v⟩ ⟨h0, h1, h2, h3⟩
   refine ⟨⟨trivial, h2, h3⟩, ?_⟩
   simp only at h0 h1
   have : (k.toNat.toUInt8.toNat : Int) = k := by rw [toNat_toUInt8 (by omega)]; omega
   simp only [mkM, this]
theorem pparse_size {s : ByteArray} (h : (pparse s).2 = true) : s.size ≤ 40 := by
 unfold pparse at h
 rcases Nat.lt_or_ge 40 s.size with h40 | h40
 · exfalso
   have := (fwd_PW s 8 0 true).2 rfl
   simp [h40, this] at h
 · exact h40
theorem isB_kind {k : Int} {nm v : ByteArray} (h : isB k nm v = true) : (1 ≤ k ∧ k ≤ 4) ∧ nm.size ≤ 12 ∧ v.size ≤ 40 := by
 unfold isB nameB at h
 simp only [Bool.and_eq_true, decide_eq_true_eq] at h
 obtain ⟨⟨⟨⟨_, hn⟩, _⟩, _⟩, h2⟩ := h
 split at h2
 · rename_i hl
   unfold likeB at hl
   simp only [Bool.or_eq_true, beq_iff_eq] at hl
   exact ⟨by omega, hn, pparse_size h2⟩
 · simp only [Bool.and_eq_true, Bool.or_eq_true, beq_iff_eq, decide_eq_true_eq] at h2
   exact ⟨by omega, hn, by omega⟩
theorem listB_fits : Fits listR putL (fun M => listB M = true) := by
 refine (only_fits (row_fits (by decide) mtr_fits) listB).weaken fun M => ⟨fun h => h.2, fun h => ⟨?_, h⟩⟩
 unfold listB at h
 simp only [Bool.and_eq_true, decide_eq_true_eq] at h
 refine ⟨h.1, fun x hx => ?_⟩
 obtain ⟨i, hi, rfl⟩ := List.getElem_of_mem hx
 have h2 := List.all_eq_true.1 h.2 i (List.mem_range.2 hi)
 unfold okL isM at h2
 simp only [Bool.and_eq_true] at h2
 have e : M.getD i noM3 = M[i] := by rw [List.getD_eq_getElem?_getD, List.getElem?_eq_getElem hi]; rfl
 rw [e] at h2
 have := isB_kind h2.1
 omega
def mtrS (b : Byt) (q : Nat × Bool) : Mtr × (Nat × Bool) := dressSt (seqSt (runR byteR 0 b) (seqSt (runR (textR 12) ⟨#[]⟩ b) (runR (textR 40) ⟨#[]⟩ b))) mkM q
theorem steps_mtr (b : Byt) : StepsR b mtrR (mtrS b) := steps_dress (steps_seq (steps_run b byteR 0) (steps_seq (steps_run b _ _) (steps_run b _ _) (ends_text 12)) ends_byte) _
def listS (b : Byt) : Nat × Bool → List Mtr × (Nat × Bool) := onlySt (rowSt 5 b (mtrS b)) listB
theorem steps_list (b : Byt) : StepsR b listR (listS b) := steps_only (steps_row (steps_mtr b) ends_mtr 5) _
def readV {α : Type} (r : Option (α × Byt)) (b : Byt) (enc : α → AV) (none_ : AV) : AV := match r with
 | some p => .tup [enc p.1, I (b.length - p.2.length : Nat), Bo true]
 | none => .tup [none_, I 0, Bo false]
theorem runR_le {most : Nat} (b : Byt) (q : Nat × Bool) : (runR (numR most) 0 b q).1 ≤ most := by
 unfold runR
 split
 · exact Nat.zero_le _
 · split
   · exact Nat.zero_le _
   · rename_i p h
     simp only [numR] at h
     cases hg : getN 0 (b.drop q.1) with
     | none => simp [hg] at h
     | some x =>
       simp only [hg, Option.bind_some] at h
       split at h
       · simp only [Option.some.injEq] at h; rw [← h]; assumption
       · cases h
theorem mvs3_snoc (M : List Mtr) (x : Mtr) : mvs3 M ++ [mv3 x] = mvs3 (M ++ [x]) := by simp [mvs3]
theorem bel_tup3 {n : Nat} {x : AV} {i : Int} {c : Bool} (h : Bel n x) : Bel n (.tup [x, I i, Bo c]) := .tup _ fun j hj => by
 have : ∀ y ∈ ([x, I i, Bo c] : List AV), Bel n y := by
  intro y hy
  simp only [List.mem_cons, List.not_mem_nil, or_false] at hy
  rcases hy with rfl | rfl | rfl
  · exact h
  · exact .pl _
  · exact .pl _
 exact this _ (List.getElem_mem hj)
theorem mread_ans0 (σ : St) (b : Byt) (hb : b.length ≤ 50000) : Ans Tryz.prog 56 [.sl 1 (byv b)] σ (readV (listR b) b (fun M => .sl 3 (mvs3 M)) .nils) σ := by
 have hS := (steps_list b).top
 refine Ans.of_run' t56 (fun hbel _ => ?_)
 simp -implicitDefEqProofs only [c56, r56, go_sem]
 refine CO.intro (new_ans σ b) ?_
 simp -implicitDefEqProofs only [go_sem, List.append_assoc, List.length_append]
 generalize hq1 : runR (numR 5) 0 b (0, false) = q1
 have hin0 : Inb b (0, false) := Nat.zero_le _
 have hn := num_ans (σ ++ [rob b (0, false), .row 3 []]) σ.length b (0, false) 5 (by decide) (g0 _ _ _) hin0 hb
 rw [hq1, s0] at hn
 refine CO.intro hn ?_
 have hn5 : q1.1 ≤ 5 := by rw [← hq1]; exact runR_le b _
 have hin1 : Inb b q1.2 := by rw [← hq1]; exact run_inb _ _ _ _ hin0
 simp -implicitDefEqProofs only [go_sem]
 refine Go.Ab.L.count q1.1 (fun i => mkE 40 [(5, .ptr σ.length 0), (6, .osl (σ.length + 1) i), (12, UN q1.1), (13, UN i)]) (fun i => σ ++ [rob b (itSt (mtrS b) q1.2 i).2, .row 3 (mvs3 (itSt (mtrS b) q1.2 i).1)]) ?_ ?_ rfl rfl
 · intro i hi J hJ
   have hitI := itSt_inb (steps_mtr b).inb q1.2 hin1 i
   have hlen := itSt_len (mtrS b) q1.2 i
   simp only [itSt] at hJ
   generalize itSt (mtrS b) q1.2 i = c at hJ hitI hlen ⊢
   obtain ⟨l, q⟩ := c
   simp only at hJ hitI hlen ⊢
   have d0 : decide ((i : Int) < q1.1) = true := dec_lt hi
   have w0 := wrapUN (n := i + 1) (by omega)
   have e0 : ((i : Int) + 1) = ((i + 1 : Nat) : Int) := rfl
   unfold mtrS dressSt seqSt at hJ
   simp only at hJ
   simp -implicitDefEqProofs only [mkE, go_sem, d0]
   have h1 := byte_ans' (σ ++ [rob b q, .row 3 (mvs3 l)]) σ.length b q (g0 _ _ _) hitI hb
   have hi2 := run_inb byteR 0 b q hitI
   generalize runR byteR 0 b q = r1 at h1 hi2 hJ
   rw [s0] at h1
   refine CO.intro h1 ?_
   have h2 := text_ans (σ ++ [rob b r1.2, .row 3 (mvs3 l)]) σ.length b r1.2 12 (by decide) (g0 _ _ _) hi2 hb
   have hi3 := run_inb (textR 12) ⟨#[]⟩ b r1.2 hi2
   generalize runR (textR 12) ⟨#[]⟩ b r1.2 = r2 at h2 hi3 hJ
   rw [s0] at h2
   simp -implicitDefEqProofs only [go_sem, bc]
   refine CO.intro h2 ?_
   have h3 := text_ans (σ ++ [rob b r2.2, .row 3 (mvs3 l)]) σ.length b r2.2 40 (by decide) (g0 _ _ _) hi3 hb
   generalize runR (textR 40) ⟨#[]⟩ b r2.2 = r3 at h3 hJ
   rw [s0] at h3
   simp -implicitDefEqProofs only [go_sem]
   refine CO.intro h3 ?_
   have hl : (mvs3 l).length = i := by rw [mvs3_len, hlen]
   have hw : IntKind.i64.wrap (r1.1.toNat : Int) = (r1.1.toNat : Int) := wrapI (by have := r1.1.toNat_lt; omega)
   have hle : i + 1 ≤ 4294967296 := by omega
   have hsn := mvs3_snoc l (mkM (r1.1, r2.1, r3.1))
   simp -implicitDefEqProofs only [go_sem, hw, g1, s1, hl, hle, List.length_singleton, e0, w0]
   rw [← hsn] at hJ
   exact hJ
 · intro J
   have hitI := itSt_inb (steps_mtr b).inb q1.2 hin1 q1.1
   have hlen := itSt_len (mtrS b) q1.2 q1.1
   have hL : listS b (0, false) = ((itSt (mtrS b) q1.2 q1.1).1, took (itSt (mtrS b) q1.2 q1.1).2 0 (listB (itSt (mtrS b) q1.2 q1.1).1)) := by
    unfold listS onlySt rowSt
    rw [hq1]
   rw [hL] at hS
   generalize itSt (mtrS b) q1.2 q1.1 = c at hS hitI hlen ⊢
   obtain ⟨l, q⟩ := c
   simp only at hS hitI hlen ⊢
   have hl : (mvs3 l).length = q1.1 := by rw [mvs3_len, hlen]
   have d0 : decide ((q1.1 : Int) < q1.1) = false := by simp
   simp -implicitDefEqProofs only [mkE, go_sem, d0, g1, s1, hl]
   refine CO.intro (list_any _ l) ?_
   have h2 := refuse_ans (σ ++ [rob b q, .dead]) σ.length b q (listB l) (g0 _ _ _) hitI hb
   rw [s0] at h2
   simp -implicitDefEqProofs only [go_sem]
   refine CO.intro h2 ?_
   have h3 := end_ans (σ ++ [rob b (took q 0 (listB l)), .dead]) σ.length b (took q 0 (listB l)) (g0 _ _ _)
   simp -implicitDefEqProofs only [go_sem]
   refine CO.intro h3 ?_
   have hbm : Bel σ.length (.sl 3 (mvs3 l)) := bel_mvs3 _ _
   cases hr : listR b with
   | none =>
     have hb2 := hS.2 hr
     rw [hb2]
     simp -implicitDefEqProofs only [go_sem]
     exact Fini.trim2 (σ' := σ) rfl rfl (Nat.le_refl _) (by unfold readV; exact bel_tup3 .nils) hbel
   | some p =>
     obtain ⟨M, t⟩ := p
     have hb2 := hS.1 M t hr
     simp only [Prod.mk.injEq] at hb2
     obtain ⟨rfl, hb2⟩ := hb2
     rw [hb2]
     simp -implicitDefEqProofs only [go_sem]
     refine Fini.trim2 (σ' := σ) rfl rfl (Nat.le_refl _) ?_ hbel
     unfold readV
     exact bel_tup3 hbm
theorem mread_ans (σ : St) (b : Byt) (hb : b.length ≤ 50000) : Ans Tryz.prog 56 [.sl 1 (byv b)] σ (readV (listR b) b (fun M => .sl 3 (mvs3 M)) (.sl 3 [])) σ := by
 refine (mread_ans0 σ b hb).subR ?_
 unfold readV
 cases listR b with
 | none => exact .tup (.cons (.nils 3) (.refl _))
 | some p => exact .refl _
theorem tmod128 (n : Nat) : ((n : Int).tmod 128) = ((n % 128 : Nat) : Int) := rfl
def orD (a d s : Nat) : Int := IntKind.u64.wrap ((BitVec.ofInt 64 (a : Int) ||| BitVec.ofInt 64 (IntKind.u64.wrap ((d : Int) * 2 ^ min s 64))).toNat : Int)
theorem orD_eq (a d s : Nat) (ha : a < 2 ^ s) (hs : s < 64) (hd : d * 2 ^ s < 18446744073709551616) : orD a d s = ((a + 2 ^ s * d : Nat) : Int) := or_shl a d s ha hs hd
theorem shl_bound (i c : Nat) (h : i < 9 ∨ i = 9 ∧ c % 128 ≤ 1) : c % 128 * 2 ^ (7 * i) < 18446744073709551616 := by
 rcases h with h | ⟨rfl, h⟩
 · have h4 : c % 128 < 2 ^ 7 := Nat.mod_lt _ (by decide)
   calc c % 128 * 2 ^ (7 * i) < 2 ^ 7 * 2 ^ (7 * i) := Nat.mul_lt_mul_of_pos_right h4 (Nat.two_pow_pos _)
    _ = 2 ^ (7 + 7 * i) := by rw [Nat.pow_add]
    _ ≤ 2 ^ 63 := Nat.pow_le_pow_right (by decide) (by omega)
    _ < 18446744073709551616 := by decide
 · calc c % 128 * 2 ^ (7 * 9) ≤ 1 * 2 ^ 63 := Nat.mul_le_mul_right _ h
   _ < 18446744073709551616 := by decide
section
variable (σ : St)
theorem dget_ans (b : Byt) (hb : b.length ≤ 100000) : Ans Tryz.prog 65 [.sl 1 (byv b)] σ (getV b) σ := by
 refine Ans.of_run t65 ?_
 simp -implicitDefEqProofs only [c65, r65, go_sem]
 refine Go.Ab.L.intro (α := { p : Nat × Nat // p.1 ≤ b.length ∧ ((p.1 ≤ 9 ∧ p.2 < 2 ^ (7 * p.1) ∧ getN 0 b = (getN p.1 (b.drop p.1)).map fun q => (p.2 + 2 ^ (7 * p.1) * q.1, q.2)) ∨ (p.1 = 10 ∧ getN 0 b = none)) }) (fun p => b.length - p.1.1)
  (fun p => mkE 51 [(0, .sl 1 (byv b)), (5, UN p.1.2), (6, I p.1.1)]) (fun _ => σ) ?_ ⟨(0, 0), Nat.zero_le _, .inl ⟨Nat.zero_le _, by simp, by cases h : getN 0 b <;> simp [h]⟩⟩ rfl rfl
 rintro ⟨⟨i, a⟩, hi, hinv⟩ J hJ
 simp only at hi hinv hJ
 rcases hinv with ⟨h9, ha, hg⟩ | ⟨h10, hg⟩
 · have h10 : decide ((i : Int) < 10) = true := by simp; omega
   by_cases hlt : i < b.length
   · have hx := byv_get b i hlt
     have hdr : b.drop i = b[i] :: b.drop (i + 1) := List.drop_eq_getElem_cons hlt
     rw [hdr] at hg
     have hcl := (b[i]).toNat_lt
     generalize hc : b[i] = c at hx hg hcl
     have hbeq9 : ((i : Int) == 9) = decide (i = 9) := by rw [Bool.eq_iff_iff]; simp; omega
     have hgt1 : decide ((1 : Int) < ((c.toNat % 128 : Nat) : Int)) = decide (1 < c.toNat % 128) := by rw [Bool.eq_iff_iff]; simp only [decide_eq_true_eq]; omega
     have hgt0 : decide ((0 : Int) < i) = decide (0 < i) := by rw [Bool.eq_iff_iff]; simp
     have hbeq0 : (((c.toNat % 128 : Nat) : Int) == 0) = decide (c.toNat % 128 = 0) := by rw [Bool.eq_iff_iff]; simp only [decide_eq_true_eq, beq_iff_eq]; omega
     have h128 : decide ((128 : Int) ≤ c.toNat) = decide (128 ≤ c.toNat) := by rw [Bool.eq_iff_iff]; simp only [decide_eq_true_eq]; omega
     have hwd := wrapUN (n := c.toNat % 128) (by omega)
     have hin := wrap_succ (i := i) (by omega)
     have h7 := wrap_mul7 (i := i) (by omega)
     have h7u := wrapUN (n := 7 * i) (by omega)
     simp only [getN] at hg
     by_cases hbad : i = 9 ∧ 1 < c.toNat % 128
     · rw [if_pos (.inl ⟨hbad.1, by omega⟩)] at hg
       rw [getV_none hg]
       simp -implicitDefEqProofs only [mkE, go_sem, byv_len, nat_lt hlt, dec_lt hlt, h10, hx, bc, tmod128, hwd, hbeq9, hgt1, decide_eq_true hbad.1, decide_eq_true hbad.2]
       exact Fini.ret rfl
     · have go : ∀ (P : Prop), (decide (i = 9) = true → decide (1 < c.toNat % 128) = false → P) → (decide (i = 9) = false → P) → P := fun P p q => by
        by_cases h3 : i = 9
        · exact p (decide_eq_true h3) (decide_eq_false (by omega))
        · exact q (decide_eq_false h3)
       have hor := orD_eq a (c.toNat % 128) (7 * i) ha (by omega) (shl_bound i c.toNat (by omega))
       by_cases hend : c.toNat < 128
       · have e128 : decide (128 ≤ c.toNat) = false := decide_eq_false (by omega)
         have hmod : c.toNat % 128 = c.toNat := Nat.mod_eq_of_lt hend
         by_cases hz : c.toNat % 128 = 0 ∧ 0 < i
         · rw [if_pos (.inr ⟨hz.2, by omega⟩)] at hg
           rw [getV_none hg]
           refine go _ (fun x1 x2 => ?_) fun x1 => ?_
           · simp -implicitDefEqProofs only [mkE, go_sem, byv_len, nat_lt hlt, dec_lt hlt, h10, hx, bc, tmod128, hwd, hbeq9, hgt1, hgt0, hbeq0, x1, x2, h7, h7u, h128, e128, decide_eq_true hz.1, decide_eq_true hz.2]
             exact Fini.ret rfl
           · simp -implicitDefEqProofs only [mkE, go_sem, byv_len, nat_lt hlt, dec_lt hlt, h10, hx, bc, tmod128, hwd, hbeq9, hgt1, hgt0, hbeq0, x1, h7, h7u, h128, e128, decide_eq_true hz.1, decide_eq_true hz.2]
             exact Fini.ret rfl
         · rw [if_neg (by omega), if_pos hend] at hg
           simp only [Option.map_some] at hg
           rw [getV_some hg]
           have hfin : ∀ v : Int, v = ((a + 2 ^ (7 * i) * (c.toNat % 128) : Nat) : Int) → (.tup [.pl (.int .u64 v), I ((i + 1 : Nat) : Int), Bo true] : AV) = .tup [UN (a + 2 ^ (7 * i) * c.toNat), I (b.length - (b.drop (i + 1)).length : Nat), Bo true] := by
            rintro _ rfl
            rw [hmod, List.length_drop, show b.length - (b.length - (i + 1)) = i + 1 by omega]
           have go2 : ∀ (P : Prop), (decide (c.toNat % 128 = 0) = true → decide (0 < i) = false → P) → (decide (c.toNat % 128 = 0) = false → P) → P := fun P p q => by
            by_cases h3 : c.toNat % 128 = 0
            · exact p (decide_eq_true h3) (decide_eq_false (by omega))
            · exact q (decide_eq_false h3)
           refine go _ (fun x1 x2 => go2 _ (fun y1 y2 => ?_) fun y1 => ?_) fun x1 => go2 _ (fun y1 y2 => ?_) fun y1 => ?_
           · simp -implicitDefEqProofs only [mkE, go_sem, byv_len, nat_lt hlt, dec_lt hlt, h10, hx, bc, tmod128, hwd, hbeq9, hgt1, hgt0, hbeq0, x1, x2, y1, y2, h7, h7u, h128, e128, hin]
             exact Fini.ret' rfl (hfin _ hor)
           · simp -implicitDefEqProofs only [mkE, go_sem, byv_len, nat_lt hlt, dec_lt hlt, h10, hx, bc, tmod128, hwd, hbeq9, hgt1, hgt0, hbeq0, x1, x2, y1, h7, h7u, h128, e128, hin]
             exact Fini.ret' rfl (hfin _ hor)
           · simp -implicitDefEqProofs only [mkE, go_sem, byv_len, nat_lt hlt, dec_lt hlt, h10, hx, bc, tmod128, hwd, hbeq9, hgt1, hgt0, hbeq0, x1, y1, y2, h7, h7u, h128, e128, hin]
             exact Fini.ret' rfl (hfin _ hor)
           · simp -implicitDefEqProofs only [mkE, go_sem, byv_len, nat_lt hlt, dec_lt hlt, h10, hx, bc, tmod128, hwd, hbeq9, hgt1, hgt0, hbeq0, x1, y1, h7, h7u, h128, e128, hin]
             exact Fini.ret' rfl (hfin _ hor)
       · have e128 : decide (128 ≤ c.toNat) = true := decide_eq_true (by omega)
         have hgo := hJ ⟨(i + 1, a + 2 ^ (7 * i) * (c.toNat % 128)), by simp only; omega, (by
          simp only
          rcases Nat.lt_or_eq_of_le h9 with hi9 | hi9
          · refine .inl ⟨by omega, ?_, ?_⟩
            · have e1 : 2 ^ (7 * (i + 1)) = 2 ^ (7 * i) * 128 := by rw [Nat.mul_add, Nat.pow_add]
              have : c.toNat % 128 < 128 := Nat.mod_lt _ (by decide)
              have : 2 ^ (7 * i) * (c.toNat % 128 + 1) ≤ 2 ^ (7 * i) * 128 := Nat.mul_le_mul_left _ this
              rw [Nat.mul_add, Nat.mul_one] at this
              omega
            · rw [if_neg (by omega), if_neg hend] at hg
              rw [hg]
              have hm : c.toNat % 128 = c.toNat - 128 := by omega
              cases getN (i + 1) (b.drop (i + 1)) with
              | none => rfl
              | some q =>
                simp only [Option.map_some, Option.some.injEq, Prod.mk.injEq, and_true]
                rw [hm, show 7 * (i + 1) = 7 * i + 7 by omega, Nat.pow_add, Nat.mul_add, Nat.add_assoc, ← Nat.mul_assoc]
          · refine .inr ⟨by omega, ?_⟩
            rw [if_pos (.inl ⟨hi9, by omega⟩)] at hg
            exact hg)⟩ (by simp only; omega)
         have key : ∀ v : Int, v = ((a + 2 ^ (7 * i) * (c.toNat % 128) : Nat) : Int) → J (mkE 51 [(0, .sl 1 (byv b)), (5, .pl (.int .u64 v)), (6, I ((i + 1 : Nat) : Int))]) σ := by
          rintro _ rfl
          exact hgo
         refine go _ (fun x1 x2 => ?_) fun x1 => ?_
         · simp -implicitDefEqProofs only [mkE, go_sem, byv_len, nat_lt hlt, dec_lt hlt, h10, hx, bc, tmod128, hwd, hbeq9, hgt1, x1, x2, h7, h7u, h128, e128, hin]
           exact key _ hor
         · simp -implicitDefEqProofs only [mkE, go_sem, byv_len, nat_lt hlt, dec_lt hlt, h10, hx, bc, tmod128, hwd, hbeq9, hgt1, x1, h7, h7u, h128, e128, hin]
           exact key _ hor
   · have hn : b.drop i = [] := List.drop_eq_nil_of_le (by omega)
     rw [hn] at hg
     simp only [getN, Option.map_none] at hg
     rw [getV_none hg]
     simp -implicitDefEqProofs only [mkE, go_sem, byv_len, nat_nlt hlt, dec_nlt hlt]
     exact Fini.ret rfl
 · subst h10
   have h10 : decide (((10 : Nat) : Int) < 10) = false := by simp
   rw [getV_none hg]
   by_cases hlt : 10 < b.length
   · simp -implicitDefEqProofs only [mkE, go_sem, byv_len, dec_lt hlt, h10]
     exact Fini.ret rfl
   · simp -implicitDefEqProofs only [mkE, go_sem, byv_len, dec_nlt hlt]
     exact Fini.ret rfl
theorem dgettext_ans (b : Byt) (most : Nat) (hb : b.length ≤ 100000) (hm : most < 9223372036854775808) : Ans Tryz.prog 66 [.sl 1 (byv b), I most] σ (textV most b) σ := by
 refine Ans.of_run t66 ?_
 simp -implicitDefEqProofs only [c66, r66, go_sem]
 refine CO.intro (dget_ans σ b hb) ?_
 have hneg : decide ((most : Int) < 0) = false := by simp
 have hwm := wrapUN (n := most) (by omega)
 cases hg : getN 0 b with
 | none =>
   rw [getV_none hg, textV_none (textR_none hg)]
   simp -implicitDefEqProofs only [go_sem]
   exact Fini.ret rfl
 | some p =>
   obtain ⟨n, t⟩ := p
   obtain ⟨hbt, hn, _⟩ := getN_inv b 0 n t (by omega) hg
   have hn : n < 18446744073709551616 := hn
   have hlen : b.length = (putN n).length + t.length := by rw [hbt, List.length_append]
   have hk : b.length - t.length = (putN n).length := by omega
   have hsub := subN (a := b.length) (b := (putN n).length) (by omega) hb
   have hsub2 : b.length - (putN n).length = t.length := by omega
   have hwt := wrapUN (n := t.length) (by omega)
   have e1 : decide ((most : Int) < n) = decide (most < n) := decNN most n
   have e2 : decide ((t.length : Int) < n) = decide (t.length < n) := decNN _ n
   rw [getV_some hg, hk]
   have hR := textR_of (most := most) hg
   by_cases h2 : n ≤ t.length
   · have x2 : decide (t.length < n) = false := decide_eq_false (by omega)
     by_cases h1 : n ≤ most
     · have x1 : decide (most < n) = false := decide_eq_false (by omega)
       rw [if_pos ⟨h1, h2⟩] at hR
       have hwn := wrapI (a := n) (by omega)
       have hadd := addN (a := (putN n).length) (b := n) (by omega)
       have hlo : ((putN n).length : Int) ≤ ((putN n).length + n : Nat) := by omega
       have hhi : (((putN n).length + n : Nat) : Int) ≤ (b.length : Nat) := by omega
       have hcut : (b.take ((putN n).length + n)).drop (putN n).length = t.take n := by
        rw [hbt, List.take_append, List.take_of_length_le (by omega), Nat.add_sub_cancel_left, List.drop_left]
       rw [textV_some hR]
       simp -implicitDefEqProofs only [go_sem, hneg, hwm, e1, x1, hsub, hsub2, hwt, e2, x2, hwn, hadd, byv_len, hlo, hhi, AV.isStr, byv_take, byv_drop, hcut, byv_all', bc, byteL_byv, textOf_byv]
       refine Fini.ret' rfl ?_
       rw [List.length_drop]
       have : b.length - (t.length - n) = (putN n).length + n := by omega
       rw [this]; rfl
     · have x1 : decide (most < n) = true := decide_eq_true (by omega)
       rw [if_neg (by omega)] at hR
       rw [textV_none hR]
       simp -implicitDefEqProofs only [go_sem, hneg, hwm, e1, x1, byv_len, hsub, hsub2, hwt, e2, x2]
       exact Fini.ret rfl
   · have x2 : decide (t.length < n) = true := decide_eq_true (by omega)
     rw [if_neg (by omega)] at hR
     rw [textV_none hR]
     simp -implicitDefEqProofs only [go_sem, hneg, hwm, byv_len, hsub, hsub2, hwt, e2, x2]
     exact Fini.ret rfl
end
theorem listB_at {M : List Mtr} (h : listB M = true) : M.length ≤ 5 ∧ ∀ x ∈ M, (1 ≤ x.1 ∧ x.1 ≤ 4) ∧ x.2.1.size ≤ 12 ∧ x.2.2.size ≤ 40 := by
 unfold listB at h
 simp only [Bool.and_eq_true, decide_eq_true_eq] at h
 refine ⟨h.1, fun x hx => ?_⟩
 obtain ⟨i, hi, rfl⟩ := List.getElem_of_mem hx
 have h2 := List.all_eq_true.1 h.2 i (List.mem_range.2 hi)
 unfold okL isM at h2
 simp only [Bool.and_eq_true] at h2
 have e : M.getD i noM3 = M[i] := by rw [List.getD_eq_getElem?_getD, List.getElem?_eq_getElem hi]; rfl
 rw [e] at h2
 exact isB_kind h2.1
section
variable (σ : St)
end
def okV (u : Nat) : Bool := decide (bitsF u = u)
def valR : Rd Nat := onlyR wordR okV
def putV (u : Nat) : Byt := wrdB (bitsF u)
theorem val_fits : Fits valR putV (fun u => u < 2 ^ 64 ∧ bitsF u = u) := by
 have h := only_fits word_fits okV
 refine ⟨fun a t ho => ?_, fun b a t hr => ?_⟩
 · have := h.fwd a t ⟨ho.1, by unfold okV; exact decide_eq_true ho.2⟩
   unfold putV; rw [ho.2]; exact this
 · obtain ⟨⟨h1, h2⟩, h3⟩ := h.bwd b a t hr
   have h2 : bitsF a = a := by unfold okV at h2; exact of_decide_eq_true h2
   exact ⟨⟨h1, h2⟩, by unfold putV; rw [h2]; exact h3⟩
theorem ends_val : EndsR valR := val_fits.ends
abbrev Bnd := Bool × Nat × Nat
def bnd0 : Rd Bnd
 | [] => none
 | c :: t => if c = 0 then (seqR valR valR t).map (fun p => ((false, p.1.1, p.1.2), p.2)) else if c = 1 then some ((true, 0, 0), t) else none
def bandR : Rd Bnd := onlyR bnd0 (fun x => mayB x.1 x.2.1 x.2.2)
def putBd (x : Bnd) : Byt := if x.1 then [1] else 0 :: (putV x.2.1 ++ putV x.2.2)
def bndOk (x : Bnd) : Prop := if x.1 then x.2.1 = 0 ∧ x.2.2 = 0 else (x.2.1 < 2 ^ 64 ∧ bitsF x.2.1 = x.2.1) ∧ (x.2.2 < 2 ^ 64 ∧ bitsF x.2.2 = x.2.2)
theorem bnd0_fits : Fits bnd0 putBd bndOk where
 fwd x t h := by
  obtain ⟨any, lo, hi⟩ := x
  cases any with
  | true =>
    obtain ⟨rfl, rfl⟩ : lo = 0 ∧ hi = 0 := h
    rfl
  | false =>
    have h : (lo < 2 ^ 64 ∧ bitsF lo = lo) ∧ (hi < 2 ^ 64 ∧ bitsF hi = hi) := h
    have h2 := (seq_fits val_fits val_fits).fwd (lo, hi) t h
    simp only at h2
    simp only [putBd, Bool.false_eq_true, if_false, bnd0, List.cons_append, if_true, h2, Option.map_some]
 bwd b x t hr := by
  cases b with
  | nil => cases hr
  | cons c u =>
    simp only [bnd0] at hr
    split at hr
    · rename_i hc
      cases h1 : seqR valR valR u with
      | none => simp [h1] at hr
      | some p =>
        simp only [h1, Option.map_some, Option.some.injEq, Prod.mk.injEq] at hr
        obtain ⟨rfl, rfl⟩ := hr
        obtain ⟨h2, h3⟩ := (seq_fits val_fits val_fits).bwd _ _ _ h1
        refine ⟨h2, ?_⟩
        rw [h3, hc]; rfl
    · split at hr
      · rename_i hc
        simp only [Option.some.injEq, Prod.mk.injEq] at hr
        obtain ⟨rfl, rfl⟩ := hr
        exact ⟨⟨rfl, rfl⟩, by rw [hc]; rfl⟩
      · cases hr
def bMay (x : Bnd) : Bool := mayB x.1 x.2.1 x.2.2
def bSz (x : Bnd) : Prop := x.2.1 < 2 ^ 64 ∧ x.2.2 < 2 ^ 64
theorem nan_of_leF {a b : Nat} (h : leF a b = true) : nanF a = false ∧ nanF b = false := by
 unfold leF Ieee.Format.order at h
 unfold nanF Ieee.Format.order
 generalize FloatKind.f64.format.read a = x at *
 generalize FloatKind.f64.format.read b = y at *
 cases x with
 | nan s m => simp [Ieee.Datum.order] at h
 | infinity s =>
   cases y with
   | nan t n => simp [Ieee.Datum.order] at h
   | infinity t => cases s <;> cases t <;> simp [Ieee.Datum.order] at h ⊢
   | number t n j => cases s <;> simp [Ieee.Datum.order] at h ⊢
 | number s m i =>
   cases y with
   | nan t n => simp [Ieee.Datum.order] at h
   | infinity t => cases t <;> simp [Ieee.Datum.order] at h ⊢
   | number t n j => simp [Ieee.Datum.order]
theorem bitsF_not {a : Nat} (h : nanF a = false) : bitsF a = a := by unfold bitsF; rw [h]; rfl
theorem bitsF_zero {a : Nat} (h : bitsF a = 0) : a = 0 := by
 unfold bitsF at h
 split at h
 · cases h
 · exact h
theorem may_ok {x : Bnd} (h : bMay x = true) (w : bSz x) : bndOk x := by
 obtain ⟨any, lo, hi⟩ := x
 unfold bMay mayB at h
 cases any with
 | true =>
   simp only [if_true, Bool.and_eq_true, beq_iff_eq] at h
   exact ⟨bitsF_zero (Int.ofNat.inj h.1), bitsF_zero (Int.ofNat.inj h.2)⟩
 | false =>
   obtain ⟨h1, h2⟩ := nan_of_leF h
   exact ⟨⟨w.1, bitsF_not h1⟩, ⟨w.2, bitsF_not h2⟩⟩
theorem ok_sz {x : Bnd} (h : bndOk x) : bSz x := by
 obtain ⟨any, lo, hi⟩ := x
 cases any with
 | true =>
   obtain ⟨rfl, rfl⟩ : lo = 0 ∧ hi = 0 := h
   exact ⟨by decide, by decide⟩
 | false =>
   have h : (lo < 2 ^ 64 ∧ bitsF lo = lo) ∧ (hi < 2 ^ 64 ∧ bitsF hi = hi) := h
   exact ⟨h.1.1, h.2.1⟩
theorem band_fits : Fits bandR putBd (fun x => bMay x = true ∧ bSz x) :=
 (only_fits bnd0_fits bMay).weaken fun x => ⟨fun h => ⟨h.2, ok_sz h.1⟩, fun h => ⟨may_ok h.1 h.2, h.1⟩⟩
theorem ends_band : EndsR bandR := band_fits.ends
def mkRu (x : List Mtr × List Mtr × Bnd × List ByteArray) : RuM := ⟨x.1, x.2.1, x.2.2.1.1, x.2.2.1.2.1, x.2.2.1.2.2, x.2.2.2⟩
def ruR0 : Rd RuM := dressR (seqR listR (seqR listR (seqR bandR (rowR 4 (textR 12))))) mkRu
def ruR : Rd RuM := onlyR ruR0 ruIs
def putR (r : RuM) : Byt := putL r.src ++ (putL r.tgt ++ (putBd (r.any, r.lo, r.hi) ++ laidRow txtB r.eq))
def ruSz (r : RuM) : Prop := r.lo < 2 ^ 64 ∧ r.hi < 2 ^ 64
theorem ru0_fits : Fits ruR0 putR (fun r => listB r.src = true ∧ listB r.tgt = true ∧ (mayB r.any r.lo r.hi = true ∧ ruSz r) ∧ (r.eq.length ≤ 4 ∧ ∀ a ∈ r.eq, a.size ≤ 12)) :=
 dress_fits (seq_fits listB_fits (seq_fits listB_fits (seq_fits band_fits (row_fits (by decide) (text_fits (by decide)))))) (g := fun r => (r.src, r.tgt, (r.any, r.lo, r.hi), r.eq))
  (fun _ h => ⟨h, rfl⟩) (fun _ h => ⟨h, rfl⟩)
theorem nameB_size {s : ByteArray} (h : nameB s = true) : s.size ≤ 12 := by
 unfold nameB at h
 simp only [Bool.and_eq_true, decide_eq_true_eq] at h
 exact h.1.1.2
theorem eqB_at {e : List ByteArray} (h : eqB e = true) : e.length ≤ 4 ∧ ∀ a ∈ e, a.size ≤ 12 := by
 unfold eqB at h
 simp only [Bool.and_eq_true, decide_eq_true_eq] at h
 refine ⟨h.1, fun a ha => ?_⟩
 obtain ⟨i, hi, rfl⟩ := List.getElem_of_mem ha
 have h2 := List.all_eq_true.1 h.2 i (List.mem_range.2 hi)
 unfold eqOk at h2
 simp only [Bool.and_eq_true] at h2
 have e2 : e.getD i ⟨#[]⟩ = e[i] := by rw [List.getD_eq_getElem?_getD, List.getElem?_eq_getElem hi]; rfl
 rw [e2] at h2
 exact nameB_size h2.1
theorem ruIs_all {r : RuM} (h : ruIs r = true) : listB r.src = true ∧ listB r.tgt = true ∧ mayB r.any r.lo r.hi = true ∧ (r.eq.length ≤ 4 ∧ ∀ a ∈ r.eq, a.size ≤ 12) := by
 unfold ruIs at h
 simp only [Bool.and_eq_true] at h
 exact ⟨h.2.2.1, h.2.2.2.1, h.2.2.2.2.1, eqB_at h.2.2.2.2.2⟩
theorem ru_fits : Fits ruR putR (fun r => ruIs r = true ∧ ruSz r) :=
 (only_fits ru0_fits ruIs).weaken fun r => ⟨fun h => ⟨h.2, h.1.2.2.1.2⟩, fun h => ⟨⟨(ruIs_all h.1).1, (ruIs_all h.1).2.1, ⟨(ruIs_all h.1).2.2.1, h.2⟩, (ruIs_all h.1).2.2.2⟩, h.1⟩⟩
theorem ends_ru : EndsR ruR := ru_fits.ends
theorem steps_val {α : Type} {b : Byt} {rd : Rd α} {st st' : Nat × Bool → α × (Nat × Bool)} (h : StepsR b rd st) (h2 : ∀ q, (st' q).2 = (st q).2) (h3 : ∀ q, (st q).2.2 = false → st' q = st q) : StepsR b rd st' where
 some_ a x t ha hr := by
  have := h.some_ a x t ha hr
  rw [h3 _ (by rw [this]), this]
 none_ a ha hr := by rw [h2]; exact h.none_ a ha hr
 bad a := by rw [h2]; exact h.bad a
 inb q hq := by rw [h2]; exact h.inb q hq
def valS (b : Byt) (q : Nat × Bool) : Nat × (Nat × Bool) := (if okV (runR wordR 0 b q).1 then (runR wordR 0 b q).1 else 0, took (runR wordR 0 b q).2 0 (okV (runR wordR 0 b q).1))
theorem steps_value (b : Byt) : StepsR b valR (valS b) := by
 refine steps_val (steps_only (steps_run b wordR 0) okV) (fun q => rfl) fun q h => ?_
 unfold onlySt took at h
 unfold valS onlySt
 simp only at h ⊢
 cases ho : okV (runR wordR 0 b q).1 with
 | true => rfl
 | false => rw [ho] at h; simp at h
def bnd0S (b : Byt) (q : Nat × Bool) : Bnd × (Nat × Bool) :=
 if (runR byteR 0 b q).1 = 0 then ((false, (valS b (runR byteR 0 b q).2).1, (valS b (valS b (runR byteR 0 b q).2).2).1), (valS b (valS b (runR byteR 0 b q).2).2).2)
 else if (runR byteR 0 b q).1 = 1 then ((true, 0, 0), (runR byteR 0 b q).2) else ((false, 0, 0), took (runR byteR 0 b q).2 0 false)
theorem steps_bnd0 (b : Byt) : StepsR b bnd0 (bnd0S b) where
 some_ a x t ha hr := by
  cases hd : b.drop a with
  | nil => rw [hd] at hr; cases hr
  | cons c u =>
    have h1 : byteR (b.drop a) = some (c, u) := by rw [hd]; rfl
    obtain ⟨e1, e2, e3⟩ := ends_byte.drop ha h1
    rw [hd] at hr
    simp only [bnd0] at hr
    unfold bnd0S
    simp only [runR_some h1]
    split at hr
    · rename_i hc
      rw [if_pos hc]
      cases h2 : seqR valR valR u with
      | none => simp [h2] at hr
      | some p =>
        simp only [h2, Option.map_some, Option.some.injEq, Prod.mk.injEq] at hr
        obtain ⟨rfl, rfl⟩ := hr
        have := (steps_seq (steps_value b) (steps_value b) ends_val).some_ (b.length - u.length) p.1 p.2 (by omega) (by rw [e1]; exact h2)
        unfold seqSt at this
        simp only [Prod.ext_iff] at this ⊢
        simp only [this, and_self]
    · rename_i hc
      rw [if_neg hc]
      split at hr
      · rename_i hc
        rw [if_pos hc]
        simp only [Option.some.injEq, Prod.mk.injEq] at hr
        obtain ⟨rfl, rfl⟩ := hr
        rfl
      · cases hr
 none_ a ha hr := by
  cases hd : b.drop a with
  | nil =>
    have h1 : byteR (b.drop a) = none := by rw [hd]; rfl
    unfold bnd0S
    simp only [runR_none h1, if_true]
    exact bad_eta (steps_value b).bad _ ((steps_value b).bad a)
  | cons c u =>
    have h1 : byteR (b.drop a) = some (c, u) := by rw [hd]; rfl
    obtain ⟨e1, e2, e3⟩ := ends_byte.drop ha h1
    rw [hd] at hr
    simp only [bnd0] at hr
    unfold bnd0S
    simp only [runR_some h1]
    split at hr
    · rename_i hc
      rw [if_pos hc]
      cases h2 : seqR valR valR u with
      | some p => simp [h2] at hr
      | none =>
        exact (steps_seq (steps_value b) (steps_value b) ends_val).none_ (b.length - u.length) (by omega) (by rw [e1]; exact h2)
    · rename_i hc
      rw [if_neg hc]
      split at hr
      · cases hr
      · rename_i hc
        rw [if_neg hc]
        rfl
 bad a := by
  unfold bnd0S
  simp only [runR_bad, if_true]
  exact bad_eta (steps_value b).bad _ ((steps_value b).bad a)
 inb q hq := by
  have h1 := run_inb byteR 0 b q hq
  unfold bnd0S
  split
  · exact (steps_value b).inb _ ((steps_value b).inb _ h1)
  · split
    · exact h1
    · exact took_inb b _ _ h1
def bandS (b : Byt) : Nat × Bool → Bnd × (Nat × Bool) := onlySt (bnd0S b) bMay
theorem steps_band (b : Byt) : StepsR b bandR (bandS b) := steps_only (steps_bnd0 b) _
def ruS (b : Byt) : Nat × Bool → RuM × (Nat × Bool) :=
 onlySt (dressSt (seqSt (runR listR [] b) (seqSt (runR listR [] b) (seqSt (runR bandR (false, 0, 0) b) (rowSt 4 b (runR (textR 12) ⟨#[]⟩ b))))) mkRu) ruIs
theorem steps_ru (b : Byt) : StepsR b ruR (ruS b) :=
 steps_only (steps_dress (steps_seq (steps_run b listR []) (steps_seq (steps_run b listR []) (steps_seq (steps_run b bandR _) (steps_row (steps_run b (textR 12) _) (ends_text 12) 4) ends_band) ends_list) ends_list) mkRu) ruIs
end Go.Proofs.YtmkmhhjkdaklbaaGreat
namespace Go.Proofs.YtmkmhhjkdaklbaaGreat
open Go Go.Ab
set_option maxRecDepth 100000
def c17 : ACode :=
 (sq_ [pr_ 2 (.allocm [.nils, .nils, .pl (.bool false), .pl (.float .f64 0), .pl (.float .f64 0), .nils]),
 pr_ 3 (mi_ .i64 0),
 pr_ 4 mf_]
 (sq_ [mv_ 9 0,
 c1_ 10 54 9,
 mv_ 5 10]
 (sq_ [mv_ 11 5,
 cl_ 12 55 [(.tmp 11), (.func 56)],
 mv_ 13 5,
 cl_ 14 55 [(.tmp 13), (.func 56)],
 mv_ 15 5,
 cl_ 16 57 [(.tmp 15), (.func 58)],
 pr_ 17 (.build [.nils, .nils, .pl (.bool false), .pl (.float .f64 0), .pl (.float .f64 0), .nils] [(0, 1, (.tmp 12)), (1, 1, (.tmp 14)), (2, 3, (.tmp 16))]),
 pr_ 6 (.allocm [.nils, .nils, .pl (.bool false), .pl (.float .f64 0), .pl (.float .f64 0), .nils]),
 st_ (so_ 6 6 17)]
 (.seq (sq_ [mv_ 18 5,
 cl_ 19 59 [(.tmp 18), (.const (.int .u64 4))],
 pr_ 20 (mi_ .u64 0)]
 (.block 0 (.loop [0, 1, 3, 4, 7, 8, 9, 10, 11, 12, 13, 14, 15, 16, 17, 18, 21, 22, 23, 24, 25, 26, 27, 28, 29, 30, 31, 32, 33, 34, 35, 36, 37, 38, 39, 40, 41, 42, 43] (sq_ [pr_ 21 (bt_ .lss 20 19)]
 (.seq (.cond (.tmp 21)
 .skip
 (.exit 0))
 (.seq (.block 1 (.draw [⟨pr_ 22 (fa_ 5 6), [], false, 0, 1⟩,
 ⟨pr_ 23 (lf_ 1 22), [0], false, 0, 1⟩,
 ⟨mv_ 24 5, [], false, 0, 0⟩,
 ⟨cl_ 25 60 [(.tmp 24), (.const (.int .i64 12))], [2], true, 0, 0⟩,
 ⟨pr_ 26 (.bsl false 1 false 1 [.pl (.string .empty)] [(0, 1, (.tmp 25))]), [2, 3], false, 1, 1⟩,
 ⟨pr_ 27 (.app 1 (.tmp 23) (.tmp 26)), [0, 1, 2, 3, 4], true, 0, 0⟩,
 ⟨pr_ 28 (fa_ 5 6), (List.range 6), false, 2, 2⟩,
 ⟨st_ (so_ 1 28 27), (List.range 7), true, 0, 0⟩]))
 (.ops [pr_ 29 (bk_ .add 20 .u64 1),
 mv_ 20 29])))))))
 (.seq (.ghost (.shutc 6 5 1) (.ops [mv_ 30 5,
 pr_ 31 (lt_ 6 6),
 c1_ 32 51 31,
 cl_ 33 61 [(.tmp 30), (.tmp 32)]]))
 (sq_ [mv_ 35 5,
 c1_ 36 62 35,
 mv_ 34 36,
 pr_ 37 (ex_ 0 34),
 pr_ 38 (ex_ 1 34),
 mv_ 7 37,
 mv_ 8 38]
 (.seq (sq_ [mv_ 39 8,
 pr_ 40 (no_ 39)]
 (.cond (.tmp 40)
 (sq_ [pr_ 41 (.build [.nils, .nils, .pl (.bool false), .pl (.float .f64 0), .pl (.float .f64 0), .nils] []),
 st_ (so_ 6 2 41),
 pr_ 3 (mi_ .i64 0),
 pr_ 4 mf_]
 .ret)
 .skip))
 (sq_ [pr_ 42 (lt_ 6 6),
 mv_ 43 7,
 st_ (so_ 6 2 42),
 mv_ 3 43,
 pr_ 4 mt_]
 .ret))))))))
def o17 : List Tmp := [2, 6]
def r17 : List RV := [.cell 2 6 true, .tmp 3, .tmp 4]
theorem t17 : Text Tryz.prog 17 o17 c17 r17 44 := .mk_ Tryz.f17 rfl
def c19 : ACode :=
 (sq_ [pr_ 1 (.boxr (.tmp 0)),
 pr_ 2 (.mov (.const (.slice none 0 0)))]
 (.seq (sq_ [pr_ 6 (lt_ 6 1),
 c1_ 7 51 6,
 pr_ 8 (no_ 7)]
 (.cond (.tmp 8)
 (sq_ [pr_ 2 (.mov (.const (.slice none 0 0)))]
 (.ghost (.shut 2) .ret))
 .skip))
 (.seq (.draw [⟨pr_ 9 (fa_ 0 1), [], false, 0, 0⟩,
 ⟨pr_ 10 (lf_ 1 9), [0], false, 0, 0⟩,
 ⟨c1_ 11 69 10, [0, 1], true, 0, 0⟩,
 ⟨pr_ 12 (fa_ 1 1), [], false, 0, 1⟩,
 ⟨pr_ 13 (lf_ 1 12), [3], false, 0, 1⟩,
 ⟨c1_ 14 69 13, [0, 1, 2, 3, 4], true, 0, 0⟩,
 ⟨pr_ 15 (fa_ 2 1), [], false, 0, 2⟩,
 ⟨pr_ 16 (lt_ 3 15), [6], false, 0, 2⟩,
 ⟨c1_ 17 70 16, (List.range 8), true, 0, 0⟩,
 ⟨pr_ 18 (fa_ 5 1), [], false, 0, 3⟩,
 ⟨pr_ 19 (lf_ 1 18), [9], false, 0, 3⟩,
 ⟨pr_ 20 (.lenv (.tmp 19)), [9, 10], false, 0, 3⟩,
 ⟨pr_ 21 (.convi .u64 (.tmp 20)), [9, 10, 11], false, 0, 3⟩,
 ⟨c1_ 22 71 21, (List.range 13), true, 0, 0⟩,
 ⟨pr_ 23 (.bsl false 1 false 4 [.nils] [(0, 1, (.tmp 11)), (1, 1, (.tmp 14)), (2, 1, (.tmp 17)), (3, 1, (.tmp 22))]), (List.range 14), false, 4, 4⟩,
 ⟨c1_ 24 68 23, (List.range 15), true, 0, 0⟩,
 ⟨mv_ 3 24, (List.range 16), false, 5, 5⟩])
 (.seq (sq_ [pr_ 25 (fa_ 5 1),
 pr_ 26 (lf_ 1 25),
 pr_ 27 (.lenv (.tmp 26)),
 pr_ 28 (mi_ .i64 0)]
 (.block 0 (.loop [0, 1, 2, 4, 5, 6, 7, 8, 9, 10, 11, 12, 13, 14, 15, 16, 17, 18, 19, 20, 21, 22, 23, 24, 25, 29, 30, 31, 32, 33, 34, 35, 36, 37] (sq_ [pr_ 29 (bt_ .lss 28 27)]
 (.seq (.cond (.tmp 29)
 .skip
 (.exit 0))
 (.seq (.block 1 (sq_ [pr_ 30 (.iadrs 1 (.tmp 26) (.tmp 28)),
 pr_ 31 (lf_ 1 30),
 mv_ 5 31]
 (.ops [mv_ 32 3,
 mv_ 33 5,
 c1_ 34 72 33,
 pr_ 35 (.app 1 (.tmp 32) (.tmp 34)),
 mv_ 3 35])))
 (.ops [pr_ 36 (bk_ .add 28 .i64 1),
 mv_ 28 36])))))))
 (sq_ [mv_ 37 3,
 mv_ 2 37]
 (.ghost (.shut 2) .ret))))))
def o19 : List Tmp := []
def r19 : List RV := [.tmp 2]
theorem t19 : Text Tryz.prog 19 o19 c19 r19 38 := .mk_ Tryz.f19 rfl
def c55 : ACode :=
 (sq_ [pr_ 4 (.mov (.const (.slice none 0 0)))]
 (sq_ [mv_ 10 1,
 mv_ 11 0,
 c1_ 12 112 11,
 ⟨some 13, none, .call (.tmp 10) [(.tmp 12)]⟩,
 mv_ 9 13,
 pr_ 14 (ex_ 0 9),
 pr_ 15 (ex_ 1 9),
 pr_ 16 (ex_ 2 9),
 mv_ 5 14,
 mv_ 6 15,
 mv_ 7 16]
 (.seq (sq_ [mv_ 17 0,
 mv_ 18 6,
 mv_ 19 7,
 cl_ 20 113 [(.tmp 17), (.tmp 18), (.tmp 19)],
 pr_ 21 (no_ 20)]
 (.cond (.tmp 21)
 (sq_ [pr_ 8 (.mov (.const (.slice none 0 0)))]
 (sq_ [mv_ 22 8,
 mv_ 4 22]
 .ret))
 .skip))
 (sq_ [mv_ 23 5,
 mv_ 4 23]
 .ret))))
def o55 : List Tmp := []
def r55 : List RV := [.tmp 4]
theorem t55 : Text Tryz.prog 55 o55 c55 r55 24 := .mk_ Tryz.f55 rfl
def c57 : ACode :=
 (sq_ [pr_ 4 (.allocm [.pl (.bool false), .pl (.float .f64 0), .pl (.float .f64 0)])]
 (sq_ [mv_ 10 1,
 mv_ 11 0,
 c1_ 12 112 11,
 ⟨some 13, none, .call (.tmp 10) [(.tmp 12)]⟩,
 mv_ 9 13,
 pr_ 14 (ex_ 0 9),
 pr_ 15 (ex_ 1 9),
 pr_ 16 (ex_ 2 9),
 ⟨some 5, none, .fresh 3 5 (.tmp 14)⟩,
 mv_ 6 15,
 mv_ 7 16]
 (.seq (sq_ [mv_ 17 0,
 mv_ 18 6,
 mv_ 19 7,
 cl_ 20 113 [(.tmp 17), (.tmp 18), (.tmp 19)],
 pr_ 21 (no_ 20)]
 (.cond (.tmp 21)
 (sq_ [pr_ 8 (.allocm [.pl (.bool false), .pl (.float .f64 0), .pl (.float .f64 0)])]
 (sq_ [pr_ 22 (lt_ 3 8),
 st_ (so_ 3 4 22)]
 .ret))
 .skip))
 (sq_ [pr_ 23 (lt_ 3 5),
 st_ (so_ 3 4 23)]
 .ret))))
def o57 : List Tmp := [4]
def r57 : List RV := [.cell 4 3 true]
theorem t57 : Text Tryz.prog 57 o57 c57 r57 24 := .mk_ Tryz.f57 rfl
def c58 : ACode :=
 (sq_ [pr_ 2 (.allocm [.pl (.bool false), .pl (.float .f64 0), .pl (.float .f64 0)]),
 pr_ 3 (mi_ .i64 0),
 pr_ 4 mf_]
 (sq_ [mv_ 9 0,
 c1_ 10 54 9,
 mv_ 5 10]
 (sq_ [pr_ 6 (.allocm [.pl (.bool false), .pl (.float .f64 0), .pl (.float .f64 0)])]
 (.seq (sq_ [mv_ 11 5,
 c1_ 12 83 11]
 (.block 0 (sq_ [pr_ 16 (bk_ .eql 12 .u8 0),
 mv_ 15 16]
 (.cond (.tmp 15)
 (.ops [mv_ 17 5,
 c1_ 18 114 17,
 mv_ 19 5,
 c1_ 20 114 19,
 pr_ 21 (fa_ 1 6),
 st_ (so_ 1 21 18),
 pr_ 22 (fa_ 2 6),
 st_ (so_ 1 22 20)])
 (sq_ [pr_ 24 (bk_ .eql 12 .u8 1),
 mv_ 23 24]
 (.cond (.tmp 23)
 (.ops [pr_ 25 (fa_ 0 6),
 st_ (.store 1 (.tmp 25) (.const (.bool true)))])
 (.ops [mv_ 13 5,
 cl_ 14 61 [(.tmp 13), (.const (.bool false))]])))))))
 (sq_ [mv_ 26 5,
 pr_ 27 (lt_ 3 6),
 c1_ 28 107 27,
 cl_ 29 61 [(.tmp 26), (.tmp 28)]]
 (sq_ [mv_ 31 5,
 c1_ 32 62 31,
 mv_ 30 32,
 pr_ 33 (ex_ 0 30),
 pr_ 34 (ex_ 1 30),
 mv_ 7 33,
 mv_ 8 34]
 (.seq (sq_ [mv_ 35 8,
 pr_ 36 (no_ 35)]
 (.cond (.tmp 36)
 (sq_ [pr_ 37 (.build [.pl (.bool false), .pl (.float .f64 0), .pl (.float .f64 0)] []),
 st_ (so_ 3 2 37),
 pr_ 3 (mi_ .i64 0),
 pr_ 4 mf_]
 .ret)
 .skip))
 (sq_ [pr_ 38 (lt_ 3 6),
 mv_ 39 7,
 st_ (so_ 3 2 38),
 mv_ 3 39,
 pr_ 4 mt_]
 .ret))))))))
def o58 : List Tmp := [2, 6]
def r58 : List RV := [.cell 2 3 true, .tmp 3, .tmp 4]
theorem t58 : Text Tryz.prog 58 o58 c58 r58 40 := .mk_ Tryz.f58 rfl
def c68 : ACode :=
 (sq_ [pr_ 2 (.mov (.const (.slice none 0 0)))]
 (sq_ [pr_ 3 (mi_ .i64 0)]
 (.seq (sq_ [mv_ 9 0,
 pr_ 10 (.lenv (.tmp 9)),
 pr_ 11 (mi_ .i64 0)]
 (.block 0 (.loop [1, 2, 4, 5, 6, 7, 8, 12, 13, 14, 15, 16, 17, 18, 19, 20, 21, 22, 23, 24, 25, 26, 27, 28, 29, 30, 31, 32, 33, 34, 35] (sq_ [pr_ 12 (bt_ .lss 11 10)]
 (.seq (.cond (.tmp 12)
 .skip
 (.exit 0))
 (.seq (.block 1 (sq_ [pr_ 13 (.iadrs 1 (.tmp 9) (.tmp 11)),
 pr_ 14 (lf_ 1 13),
 mv_ 5 14]
 (sq_ [mv_ 15 3,
 mv_ 16 5,
 pr_ 17 (.lenv (.tmp 16)),
 pr_ 18 (bt_ .add 15 17),
 mv_ 3 18]
 (sq_ [mv_ 19 3,
 pr_ 20 (bk_ .lss 19 .i64 0)]
 (.cond (.tmp 20)
 (.ops [pr_ 21 (.bad),
 st_ (.bad)])
 .skip)))))
 (.ops [pr_ 22 (bk_ .add 11 .i64 1),
 mv_ 11 22])))))))
 (sq_ [mv_ 23 3,
 cl_ 24 122 [(.const (.slice none 0 0)), (.tmp 23)],
 mv_ 6 24]
 (.seq (sq_ [mv_ 25 0,
 pr_ 26 (.lenv (.tmp 25)),
 pr_ 27 (mi_ .i64 0)]
 (.block 2 (.loop [0, 1, 2, 3, 4, 5, 7, 8, 9, 10, 11, 12, 13, 14, 15, 16, 17, 18, 19, 20, 21, 22, 23, 24, 28, 29, 30, 31, 32, 33, 34, 35] (sq_ [pr_ 28 (bt_ .lss 27 26)]
 (.seq (.cond (.tmp 28)
 .skip
 (.exit 2))
 (.seq (.block 3 (sq_ [pr_ 29 (.iadrs 1 (.tmp 25) (.tmp 27)),
 pr_ 30 (lf_ 1 29),
 mv_ 8 30]
 (.ops [mv_ 31 6,
 mv_ 32 8,
 pr_ 33 (.app 1 (.tmp 31) (.tmp 32)),
 mv_ 6 33])))
 (.ops [pr_ 34 (bk_ .add 27 .i64 1),
 mv_ 27 34])))))))
 (sq_ [mv_ 35 6,
 mv_ 2 35]
 .ret))))))
def o68 : List Tmp := []
def r68 : List RV := [.tmp 2]
theorem t68 : Text Tryz.prog 68 o68 c68 r68 36 := .mk_ Tryz.f68 rfl
def c70 : ACode :=
 (sq_ [pr_ 1 (.boxr (.tmp 0)),
 pr_ 2 (.mov (.const (.slice none 0 0)))]
 (.seq (sq_ [pr_ 3 (fa_ 0 1),
 pr_ 4 (lf_ 1 3)]
 (.cond (.tmp 4)
 (sq_ [pr_ 5 (.bsl false 1 false 1 [.pl (.int .u8 0)] [(0, 1, (.const (.int .u8 1)))]),
 mv_ 2 5]
 (.ghost (.shut 2) .ret))
 .skip))
 (.seq (.draw [⟨pr_ 6 (.bsl false 1 false 1 [.pl (.int .u8 0)] [(0, 1, (.const (.int .u8 0)))]), [], false, 0, 4⟩,
 ⟨pr_ 7 (fa_ 1 1), [], false, 0, 0⟩,
 ⟨pr_ 8 (lf_ 1 7), [1], false, 0, 0⟩,
 ⟨c1_ 9 94 8, [1, 2], true, 0, 0⟩,
 ⟨c1_ 10 93 9, [1, 2, 3], true, 0, 0⟩,
 ⟨pr_ 11 (fa_ 2 1), [], false, 0, 2⟩,
 ⟨pr_ 12 (lf_ 1 11), [5], false, 0, 2⟩,
 ⟨c1_ 13 94 12, [1, 2, 3, 4, 5, 6], true, 0, 0⟩,
 ⟨c1_ 14 93 13, [1, 2, 3, 4, 5, 6, 7], true, 0, 0⟩,
 ⟨pr_ 15 (.bsl false 1 false 3 [.nils] [(0, 1, (.tmp 6)), (1, 1, (.tmp 10)), (2, 1, (.tmp 14))]), (List.range 9), false, 4, 4⟩,
 ⟨c1_ 16 68 15, (List.range 10), true, 0, 0⟩,
 ⟨mv_ 2 16, (List.range 11), false, 5, 5⟩])
 (.ghost (.shut 2) .ret))))
def o70 : List Tmp := []
def r70 : List RV := [.tmp 2]
theorem t70 : Text Tryz.prog 70 o70 c70 r70 17 := .mk_ Tryz.f70 rfl
def c93 : ACode :=
 (sq_ [pr_ 2 (.mov (.const (.slice none 0 0)))]
 (sq_ [pr_ 5 (.mks 1 false [.pl (.int .u8 0)] (.const (.int .i64 8)) (.const (.int .i64 8))),
 mv_ 3 5]
 (.seq (sq_ [mv_ 6 3,
 pr_ 7 (.lenv (.tmp 6)),
 pr_ 8 (mi_ .i64 0)]
 (.block 0 (.loop [1, 2, 4, 5, 6, 9, 10, 11, 12, 13, 14, 15, 16, 17, 18, 19, 20, 21] (sq_ [pr_ 9 (bt_ .lss 8 7)]
 (.seq (.cond (.tmp 9)
 .skip
 (.exit 0))
 (.seq (.block 1 (sq_ [mv_ 10 8,
 mv_ 4 10]
 (.ops [mv_ 11 3,
 mv_ 12 4,
 mv_ 13 0,
 mv_ 14 4,
 pr_ 15 (.bin false .mul (.const (.int .i64 8)) (.tmp 14)),
 pr_ 16 (.bin false .sub (.const (.int .i64 56)) (.tmp 15)),
 pr_ 17 (bt_ .shr 13 16),
 pr_ 18 (.convi .u8 (.tmp 17)),
 pr_ 19 (.iadrs 1 (.tmp 11) (.tmp 12)),
 st_ (so_ 1 19 18)])))
 (.ops [pr_ 20 (bk_ .add 8 .i64 1),
 mv_ 8 20])))))))
 (sq_ [mv_ 21 3,
 mv_ 2 21]
 (.ghost (.shut 2) .ret)))))
def o93 : List Tmp := []
def r93 : List RV := [.tmp 2]
theorem t93 : Text Tryz.prog 93 o93 c93 r93 22 := .mk_ Tryz.f93 rfl
def c114 : ACode :=
 (sq_ [pr_ 2 (.mov (.const (.float Go.FloatKind.f64 0)))]
 (sq_ [mv_ 6 0,
 c1_ 7 140 6,
 c1_ 8 139 7,
 mv_ 5 8,
 pr_ 9 (ex_ 0 5),
 pr_ 10 (ex_ 1 5),
 mv_ 3 9,
 mv_ 4 10]
 (sq_ [mv_ 11 0,
 mv_ 12 4,
 cl_ 13 61 [(.tmp 11), (.tmp 12)]]
 (sq_ [mv_ 14 3,
 mv_ 2 14]
 .ret))))
def o114 : List Tmp := []
def r114 : List RV := [.tmp 2]
theorem t114 : Text Tryz.prog 114 o114 c114 r114 15 := .mk_ Tryz.f114 rfl
def c122 : ACode :=
 (sq_ [pr_ 4 (.mov (.const (.slice none 0 0)))]
 (.seq (sq_ [mv_ 5 1,
 pr_ 6 (bk_ .lss 5 .i64 0)]
 (.cond (.tmp 6)
 (.ops [pr_ 7 (.bad),
 st_ (.bad)])
 .skip))
 (.seq (sq_ [mv_ 8 1,
 mv_ 9 0,
 pr_ 10 (.capn (.tmp 9)),
 mv_ 11 0,
 pr_ 12 (.lenv (.tmp 11)),
 pr_ 13 (bt_ .sub 10 12),
 pr_ 14 (bt_ .sub 8 13),
 mv_ 1 14]
 (sq_ [mv_ 15 1,
 pr_ 16 (bk_ .gtr 15 .i64 0)]
 (.cond (.tmp 16)
 (.ops [mv_ 17 0,
 mv_ 18 0,
 pr_ 19 (.capn (.tmp 18)),
 pr_ 20 (.slco 1 (.tmp 17) none (some (.tmp 19))),
 mv_ 21 1,
 pr_ 22 (.appz 1 false [.pl (.int .u8 0)] (.tmp 20) (.tmp 21)),
 mv_ 23 0,
 pr_ 24 (.lenv (.tmp 23)),
 pr_ 25 (.slco 1 (.tmp 22) none (some (.tmp 24))),
 mv_ 0 25])
 .skip)))
 (sq_ [mv_ 26 0,
 mv_ 4 26]
 .ret))))
def o122 : List Tmp := [20, 25]
def r122 : List RV := [.tmp 4]
theorem t122 : Text Tryz.prog 122 o122 c122 r122 27 := .mk_ Tryz.f122 rfl
def c139 : ACode :=
 (sq_ [pr_ 2 (.mov (.const (.float Go.FloatKind.f64 0))),
 pr_ 3 mf_]
 (sq_ [mv_ 5 0,
 c1_ 6 151 5,
 mv_ 4 6]
 (.seq (sq_ [mv_ 7 4,
 c1_ 8 94 7,
 mv_ 9 0,
 pr_ 10 (bt_ .neq 8 9)]
 (.cond (.tmp 10)
 (sq_ [pr_ 2 (.mov (.const (.float Go.FloatKind.f64 0))),
 pr_ 3 mf_]
 .ret)
 .skip))
 (sq_ [mv_ 11 4,
 mv_ 2 11,
 pr_ 3 mt_]
 .ret))))
def o139 : List Tmp := []
def r139 : List RV := [.tmp 2, .tmp 3]
theorem t139 : Text Tryz.prog 139 o139 c139 r139 12 := .mk_ Tryz.f139 rfl
def c140 : ACode :=
 (sq_ [pr_ 2 (mi_ .u64 0)]
 (sq_ [mv_ 6 0,
 c1_ 7 112 6,
 c1_ 8 158 7,
 mv_ 5 8,
 pr_ 9 (ex_ 0 5),
 pr_ 10 (ex_ 1 5),
 mv_ 3 9,
 mv_ 4 10]
 (.seq (sq_ [mv_ 11 0,
 mv_ 12 4,
 cl_ 13 113 [(.tmp 11), (.const (.int .i64 8)), (.tmp 12)],
 pr_ 14 (no_ 13)]
 (.cond (.tmp 14)
 (sq_ [pr_ 2 (mi_ .u64 0)]
 .ret)
 .skip))
 (sq_ [mv_ 15 3,
 mv_ 2 15]
 .ret))))
def o140 : List Tmp := []
def r140 : List RV := [.tmp 2]
theorem t140 : Text Tryz.prog 140 o140 c140 r140 16 := .mk_ Tryz.f140 rfl
def c158 : ACode :=
 (sq_ [pr_ 2 (mi_ .u64 0),
 pr_ 3 mf_]
 (.seq (sq_ [mv_ 7 0,
 pr_ 8 (.lenv (.tmp 7)),
 pr_ 9 (bk_ .lss 8 .i64 8)]
 (.cond (.tmp 9)
 (sq_ [pr_ 2 (mi_ .u64 0),
 pr_ 3 mf_]
 .ret)
 .skip))
 (sq_ [pr_ 4 (mi_ .u64 0)]
 (.seq (sq_ [mv_ 10 0,
 pr_ 11 (.slcv 1 (.tmp 10) none (some (.const (.int .i64 8)))),
 pr_ 12 (.lenv (.tmp 11)),
 pr_ 13 (mi_ .i64 0)]
 (.block 0 (.loop [0, 1, 2, 3, 5, 6, 7, 8, 9, 10, 14, 15, 16, 17, 18, 19, 20, 21, 22, 23] (sq_ [pr_ 14 (bt_ .lss 13 12)]
 (.seq (.cond (.tmp 14)
 .skip
 (.exit 0))
 (.seq (.block 1 (sq_ [pr_ 15 (.iadrs 1 (.tmp 11) (.tmp 13)),
 pr_ 16 (lf_ 1 15),
 mv_ 6 16]
 (.ops [mv_ 17 4,
 pr_ 18 (bk_ .shl 17 .u64 8),
 mv_ 19 6,
 pr_ 20 (.convi .u64 (.tmp 19)),
 pr_ 21 (bt_ .or 18 20),
 mv_ 4 21])))
 (.ops [pr_ 22 (bk_ .add 13 .i64 1),
 mv_ 13 22])))))))
 (sq_ [mv_ 23 4,
 mv_ 2 23,
 pr_ 3 mt_]
 .ret)))))
def o158 : List Tmp := []
def r158 : List RV := [.tmp 2, .tmp 3]
theorem t158 : Text Tryz.prog 158 o158 c158 r158 24 := .mk_ Tryz.f158 rfl
end Go.Proofs.YtmkmhhjkdaklbaaGreat
namespace Go.Proofs.YtmkmhhjkdaklbaaGreat
open Go Go.Ab Go.Cod
set_option maxRecDepth 100000
section
variable (σ : St)
def wN (b : Byt) : Nat := b.foldl (fun a c => a * 256 + c.toNat) 0
theorem wN_snoc (b : Byt) (c : UInt8) : wN (b ++ [c]) = wN b * 256 + c.toNat := by simp [wN]
theorem wN_lt' : ∀ (b : Byt) (a : Nat), b.foldl (fun a c => a * 256 + c.toNat) a < (a + 1) * 2 ^ (8 * b.length)
 | [], a => by simp
 | c :: b, a => by
   have ih := wN_lt' b (a * 256 + c.toNat)
   have hc := c.toNat_lt
   have e : 8 * (c :: b).length = 8 + 8 * b.length := by simp only [List.length_cons]; omega
   rw [List.foldl_cons, e, Nat.pow_add, ← Nat.mul_assoc]
   exact Nat.lt_of_lt_of_le ih (Nat.mul_le_mul_right _ (by omega))
theorem wN_lt (b : Byt) : wN b < 2 ^ (8 * b.length) := by have := wN_lt' b 0; simpa [wN] using this
theorem wordR_of : ∀ b : Byt, wordR b = if 8 ≤ b.length then some (wN (b.take 8), b.drop 8) else none
 | a :: b :: c :: d :: e :: f :: g :: h :: t => by
   rw [if_pos (by simp only [List.length_cons]; omega)]
   simp [wordR, wN]
 | [] => rfl
 | [_] => rfl
 | [_, _] => rfl
 | [_, _, _] => rfl
 | [_, _, _, _] => rfl
 | [_, _, _, _, _] => rfl
 | [_, _, _, _, _, _] => rfl
 | [_, _, _, _, _, _, _] => rfl
theorem or_low (n c : Nat) (hc : c < 256) (hn : n < 2 ^ 56) : IntKind.u64.wrap ((BitVec.ofInt 64 (IntKind.u64.wrap ((n : Int) * 2 ^ min 8 64)) ||| BitVec.ofInt 64 (c : Int)).toNat : Int) = ((n * 256 + c : Nat) : Int) := by
 have h := or_shl c n 8 (by omega) (by decide) (by omega)
 rw [BitVec.or_comm]
 exact h.trans (by congr 1; omega)
def wordV (b : Byt) : AV := match wordR b with
 | none => .tup [UN 0, Bo false]
 | some p => .tup [UN p.1, Bo true]
theorem getword_ans (b : Byt) (hb : b.length ≤ 100000) : Ans Tryz.prog 158 [.sl 1 (byv b)] σ (wordV b) σ := by
 refine Ans.of_run t158 ?_
 unfold wordV
 rw [wordR_of]
 by_cases h8 : 8 ≤ b.length
 · have d0 : decide ((b.length : Int) < 8) = false := by simp; omega
   have l8 : (8 : Int) ≤ (b.length : Nat) := by omega
   have lt8 : (b.take 8).length = 8 := by rw [List.length_take]; omega
   have z8 : Int.toNat 8 = 8 := rfl
   have z0 : Int.toNat 0 = 0 := rfl
   rw [if_pos h8]
   simp only
   simp -implicitDefEqProofs only [c158, r158, go_sem, byv_len, d0, l8, z8, z0, byv_take, byv_drop, List.drop_zero, lt8]
   refine Go.Ab.L.count 8 (fun i => mkE 24 [(4, UN (wN ((b.take 8).take i))), (11, .sl 1 (byv (b.take 8))), (12, I 8), (13, I i)]) (fun _ => σ) ?_ ?_ rfl rfl
   · intro i hi J hJ
     have hx := byv_get (b.take 8) i (by omega)
     have hs : (b.take 8).take (i + 1) = (b.take 8).take i ++ [(b.take 8)[i]] := List.take_succ_eq_append_getElem (by omega)
     rw [hs, wN_snoc] at hJ
     have hl := wN_lt ((b.take 8).take i)
     rw [List.length_take] at hl
     have hl : wN ((b.take 8).take i) < 2 ^ 56 := Nat.lt_of_lt_of_le hl (Nat.pow_le_pow_right (by decide) (by omega))
     have hc := ((b.take 8)[i]).toNat_lt
     generalize (b.take 8)[i] = c at hx hJ hc
     generalize wN ((b.take 8).take i) = w at hl hJ ⊢
     have hor := or_low w c.toNat hc hl
     have hwc := wrapUN (n := c.toNat) (by omega)
     have d1 : decide ((i : Int) < 8) = true := by simp; omega
     have hlt : ((i : Int) < ((8 : Nat) : Int)) = True := eq_true (by omega)
     have hin := wrap_succ (i := i) (by omega)
     simp -implicitDefEqProofs only [mkE, go_sem, d1, byv_len, lt8, hlt, hx, bc, hwc, z8, hin]
     have key : ∀ v : Int, v = ((w * 256 + c.toNat : Nat) : Int) → J (mkE 24 [(4, .pl (.int .u64 v)), (11, .sl 1 (byv (b.take 8))), (12, I 8), (13, I ((i + 1 : Nat) : Int))]) σ := by
      rintro _ rfl
      exact hJ
     exact key _ hor
   · intro J
     have d1 : decide (((8 : Nat) : Int) < 8) = false := by decide
     have e8 : (b.take 8).take 8 = b.take 8 := List.take_of_length_le (by omega)
     simp -implicitDefEqProofs only [mkE, go_sem, d1, e8]
     exact Fini.ret rfl
 · have d0 : decide ((b.length : Int) < 8) = true := by simp; omega
   rw [if_neg h8]
   simp -implicitDefEqProofs only [c158, r158, go_sem, byv_len, d0]
   exact Fini.ret rfl
theorem frombits_ans (u : Nat) : Ans Tryz.prog 151 [UN u] σ (Fl u) σ := ext_frombits.ok _ _ _ _ rfl
theorem of_ans (u : Nat) : Ans Tryz.prog 139 [UN u] σ (.tup [Fl (if okV u then u else 0), Bo (okV u)]) σ := by
 have e : (((bitsF u : Nat) : Int) != (u : Nat)) = !okV u := by
  unfold okV
  rw [bne]
  congr 1
  rw [Bool.eq_iff_iff]
  simp only [beq_iff_eq, decide_eq_true_eq]
  omega
 refine Ans.of_run t139 ?_
 simp -implicitDefEqProofs only [c139, r139, go_sem]
 refine CO.intro (frombits_ans σ u) ?_
 simp -implicitDefEqProofs only [go_sem]
 refine CO.intro (bits_ans σ u) ?_
 simp -implicitDefEqProofs only [go_sem, e]
 cases h : okV u with
 | true =>
   simp -implicitDefEqProofs only [go_sem]
   exact Fini.ret rfl
 | false =>
   simp -implicitDefEqProofs only [go_sem]
   exact Fini.ret rfl
section
variable (p : Nat) (b : Byt) (q : Nat × Bool)
theorem word_ans (h : σ[p]? = some (rob b q)) (hq : Inb b q) (hb : b.length ≤ 50000) :
  Ans Tryz.prog 140 [.ptr p 0] σ (UN (runR wordR 0 b q).1) (σ.set p (rob b (runR wordR 0 b q).2)) := by
 refine Ans.of_run t140 ?_
 simp -implicitDefEqProofs only [c140, r140, go_sem]
 refine CO.intro (rest_ans σ p b q h hq) ?_
 simp -implicitDefEqProofs only [go_sem]
 refine CO.intro (getword_ans σ (b.drop q.1) (by rw [List.length_drop]; omega)) ?_
 obtain ⟨a, bad⟩ := q
 simp only at hq h ⊢
 have hq : a ≤ b.length := hq
 unfold wordV
 have hw := wordR_of (b.drop a)
 have ht := took_ans σ p b (a, bad) 8 (wordR (b.drop a)).isSome h (by simp only; omega)
 cases hg : wordR (b.drop a) with
 | none =>
   rw [hg] at ht
   have e : took (a, bad) 8 (none : Option (Nat × Byt)).isSome = (a, true) := by cases bad <;> rfl
   rw [e] at ht
   simp -implicitDefEqProofs only [go_sem]
   refine CO.intro ht ?_
   simp -implicitDefEqProofs only [go_sem]
   cases bad with
   | true => rw [runR_bad]; exact Fini.ret rfl
   | false => rw [runR_none hg]; exact Fini.ret rfl
 | some x =>
   obtain ⟨n, t⟩ := x
   rw [hg] at ht hw
   have hl : t.length = b.length - (a + 8) ∧ a + 8 ≤ b.length := by
    split at hw
    · rename_i h8
      simp only [Option.some.injEq, Prod.mk.injEq] at hw
      rw [hw.2, List.length_drop, List.length_drop]
      rw [List.length_drop] at h8
      omega
    · cases hw
   simp -implicitDefEqProofs only [go_sem]
   refine CO.intro ht ?_
   cases bad with
   | true =>
     have e : took (a, true) 8 (some (n, t)).isSome = (a, true) := rfl
     rw [e, runR_bad]
     simp -implicitDefEqProofs only [go_sem]
     exact Fini.ret rfl
   | false =>
     have e : took (a, false) 8 (some (n, t)).isSome = (b.length - t.length, false) := by
      simp only [took, Option.isSome_some, Bool.false_or, Bool.not_true, Bool.false_eq_true, if_false]
      congr 1; omega
     rw [e, runR_some hg]
     simp -implicitDefEqProofs only [go_sem]
     exact Fini.ret rfl
theorem valr_ans (h : σ[p]? = some (rob b q)) (hq : Inb b q) (hb : b.length ≤ 50000) :
  Ans Tryz.prog 114 [.ptr p 0] σ (Fl (valS b q).1) (σ.set p (rob b (valS b q).2)) := by
 refine Ans.of_run t114 ?_
 simp -implicitDefEqProofs only [c114, r114, go_sem]
 refine CO.intro (word_ans σ p b q h hq hb) ?_
 have hi2 := run_inb wordR 0 b q hq
 unfold valS
 generalize runR wordR 0 b q = w at hi2 ⊢
 simp -implicitDefEqProofs only [go_sem]
 refine CO.intro (of_ans _ w.1) ?_
 simp -implicitDefEqProofs only [go_sem]
 have h2 := refuse_ans (σ.set p (rob b w.2)) p b w.2 (okV w.1) (get_set_eq' h _) hi2 hb
 rw [List.set_set] at h2
 refine CO.intro h2 ?_
 simp -implicitDefEqProofs only [go_sem]
 exact Fini.ret rfl
end
end
end Go.Proofs.YtmkmhhjkdaklbaaGreat
namespace Go.Proofs.YtmkmhhjkdaklbaaGreat
open Go Go.Ab
set_option maxRecDepth 100000
def vals8 : List ByteArray := values ++ [⟨#[]⟩]
abbrev Mz := Int × ByteArray × ByteArray
abbrev dv (d : Int × Int × Int) : AV := .agg [I d.1, I d.2.1, I d.2.2]
section
variable (σ : St)
end
def allV : List ByteArray := vals8 ++ pats
instance : DecidableEq ByteArray := fun a b => decidable_of_iff (a.data = b.data) (by cases a; cases b; simp)
structure MOK (x : Mz) : Prop where
 lo : 1 ≤ x.1
 hi : x.1 ≤ 4
 nm : x.2.1 ∈ names
 low : x.1 < 3 → x.2.2 ∈ vals8
 high : ¬ x.1 < 3 → x.2.2 ∈ pats
theorem MOK.val {x : Mz} (h : MOK x) : x.2.2 ∈ allV := by
 unfold allV
 by_cases h3 : x.1 < 3
 · exact List.mem_append_left _ (h.low h3)
 · exact List.mem_append_right _ (h.high h3)
end Go.Proofs.YtmkmhhjkdaklbaaGreat
namespace Go.Proofs.YtmkmhhjkdaklbaaGreat
open Go Go.Ab Go.Cod
set_option maxRecDepth 100000
def bandV (b : Bool × Nat × Nat) : AV := .agg [Bo b.1, Fl b.2.1, Fl b.2.2]
theorem bel_bandV (n : Nat) (b : Bool × Nat × Nat) : Bel n (bandV b) := .agg _ fun i hi => by
 have : ∀ y ∈ ([Bo b.1, Fl b.2.1, Fl b.2.2] : List AV), Bel n y := by
  intro y hy
  simp only [List.mem_cons, List.not_mem_nil, or_false] at hy
  rcases hy with rfl | rfl | rfl <;> exact .pl _
 exact this _ (List.getElem_mem hi)
section
variable (σ : St)
end
theorem txs_snoc (l : List ByteArray) (s : ByteArray) : txs (l ++ [s]) = txs l ++ [Sx s] := by simp [txs]
theorem txs_nil : txs [] = [] := rfl
theorem bel_txs (n : Nat) (L : List ByteArray) : Bel n (.sl 1 (txs L)) := by
 refine .sl 1 _ fun i hi => ?_
 have : ∀ y ∈ txs L, Bel n y := by
  intro y hy
  simp only [txs, List.mem_map] at hy
  obtain ⟨x, _, rfl⟩ := hy
  exact .pl _
 exact this _ (List.getElem_mem hi)
theorem g2 (σ : St) (x y z : Ob) (ex : St) : (σ ++ x :: y :: z :: ex)[σ.length + 2]? = some z := by rw [List.getElem?_append_right (by simp)]; simp
theorem s2 (σ : St) (x y z u : Ob) (ex : St) : (σ ++ x :: y :: z :: ex).set (σ.length + 2) u = σ ++ x :: y :: u :: ex := by rw [List.set_append_right _ _ (by simp)]; simp
section
variable (σ : St)
end
theorem Inb0 (b : Byt) : Inb b (0, false) := Nat.zero_le _
section
variable (σ : St)
theorem readband_ans (b : Byt) (hb : b.length ≤ 50000) : Ans Tryz.prog 58 [.sl 1 (byv b)] σ (readV (bandR b) b bandV (bandV (false, 0, 0))) σ := by
 have hS := (steps_band b).top
 refine Ans.of_run' t58 (fun hbel _ => ?_)
 simp -implicitDefEqProofs only [c58, r58, go_sem]
 refine CO.intro (new_ans _ b) ?_
 simp -implicitDefEqProofs only [go_sem, List.append_assoc, List.length_append]
 generalize hq1 : runR byteR 0 b (0, false) = q1
 have hin1 : Inb b q1.2 := by rw [← hq1]; exact run_inb _ _ _ _ (Inb0 b)
 have hby := byte_ans' (σ ++ [.box [Bo false, Fl 0, Fl 0], rob b (0, false), .box [Bo false, Fl 0, Fl 0]]) (σ.length + 1) b (0, false) (g1 _ _ _ _) (Inb0 b) hb
 rw [hq1, s1] at hby
 refine CO.intro hby ?_
 obtain ⟨c, q⟩ := q1
 simp only at hin1 ⊢
 by_cases h0 : c = 0
 · subst h0
   have v1 := valr_ans (σ ++ [.box [Bo false, Fl 0, Fl 0], rob b q, .box [Bo false, Fl 0, Fl 0]]) (σ.length + 1) b q (g1 _ _ _ _) hin1 hb
   have hi2 := (steps_value b).inb q hin1
   have hL : bandS b (0, false) = ((false, (valS b q).1, (valS b (valS b q).2).1), took (valS b (valS b q).2).2 0 (mayB false (valS b q).1 (valS b (valS b q).2).1)) := by
    unfold bandS onlySt bnd0S
    rw [hq1]
    rfl
   generalize valS b q = w1 at v1 hi2 hL
   obtain ⟨lo, p1⟩ := w1
   simp only at v1 hi2 hL
   rw [s1] at v1
   have v2 := valr_ans (σ ++ [.box [Bo false, Fl 0, Fl 0], rob b p1, .box [Bo false, Fl 0, Fl 0]]) (σ.length + 1) b p1 (g1 _ _ _ _) hi2 hb
   have hi3 := (steps_value b).inb p1 hi2
   generalize valS b p1 = w2 at v2 hi3 hL
   obtain ⟨hi, p2⟩ := w2
   simp only at v2 hi3 hL
   rw [s1] at v2
   have e0 : ((((0 : UInt8).toNat : Nat) : Int) == 0) = true := rfl
   simp -implicitDefEqProofs only [go_sem, bc, e0, g0, g1, g2, s0, s1, s2]
   refine CO.intro v1 ?_
   simp -implicitDefEqProofs only [go_sem]
   refine CO.intro v2 ?_
   have h1 := refuse_ans (σ ++ [.box [Bo false, Fl 0, Fl 0], rob b p2, .box [Bo false, Fl lo, Fl hi]]) (σ.length + 1) b p2 (mayB false lo hi) (g1 _ _ _ _) hi3 hb
   rw [s1] at h1
   have hL : bandS b (0, false) = ((false, lo, hi), took p2 0 (mayB false lo hi)) := hL
   rw [hL] at hS
   generalize took p2 0 (mayB false lo hi) = qe at h1 hS
   have h2 := end_ans (σ ++ [.box [Bo false, Fl 0, Fl 0], rob b qe, .box [Bo false, Fl lo, Fl hi]]) (σ.length + 1) b qe (g1 _ _ _ _)
   simp -implicitDefEqProofs only [go_sem, g0, g1, g2, s0, s1, s2]
   refine CO.intro (may_ans _ false lo hi) ?_
   simp -implicitDefEqProofs only [go_sem]
   refine CO.intro h1 ?_
   simp -implicitDefEqProofs only [go_sem]
   refine CO.intro h2 ?_
   cases hr : bandR b with
   | none =>
     have hb2 := hS.2 hr
     obtain ⟨qa, qb⟩ := qe
     simp only at hb2
     subst hb2
     simp -implicitDefEqProofs only [go_sem, g0, g1, g2, s0, s1, s2]
     exact tr_ (σ' := σ) (ex := [_, _, _]) rfl (by unfold readV; exact bel_tup3 (bel_bandV _ _)) hbel
   | some p =>
     obtain ⟨M, t⟩ := p
     have hb2 := hS.1 M t hr
     simp only [Prod.mk.injEq] at hb2
     obtain ⟨rfl, rfl⟩ := hb2
     simp -implicitDefEqProofs only [go_sem, g0, g1, g2, s0, s1, s2]
     exact tr_ (σ' := σ) (ex := [_, _, _]) rfl (by unfold readV; exact bel_tup3 (bel_bandV _ _)) hbel
 · have e0 : (((c.toNat : Nat) : Int) == 0) = false := by
    rw [Bool.eq_false_iff]
    intro h
    rw [beq_iff_eq] at h
    exact h0 (UInt8.toNat_inj.1 (by rw [show (0 : UInt8).toNat = 0 from rfl]; omega))
   by_cases h1 : c = 1
   · subst h1
     have hL : bandS b (0, false) = ((true, 0, 0), took q 0 (mayB true 0 0)) := by
      unfold bandS onlySt bnd0S
      rw [hq1]
      rfl
     have e1 : ((((1 : UInt8).toNat : Nat) : Int) == 1) = true := rfl
     simp -implicitDefEqProofs only [go_sem, bc, e0, e1, g0, g1, g2, s0, s1, s2]
     have h1 := refuse_ans (σ ++ [.box [Bo false, Fl 0, Fl 0], rob b q, .box [Bo true, Fl 0, Fl 0]]) (σ.length + 1) b q (mayB true 0 0) (g1 _ _ _ _) hin1 hb
     rw [s1] at h1
     have hL : bandS b (0, false) = ((true, 0, 0), took q 0 (mayB true 0 0)) := hL
     rw [hL] at hS
     generalize took q 0 (mayB true 0 0) = qe at h1 hS
     have h2 := end_ans (σ ++ [.box [Bo false, Fl 0, Fl 0], rob b qe, .box [Bo true, Fl 0, Fl 0]]) (σ.length + 1) b qe (g1 _ _ _ _)
     refine CO.intro (may_ans _ true 0 0) ?_
     simp -implicitDefEqProofs only [go_sem]
     refine CO.intro h1 ?_
     simp -implicitDefEqProofs only [go_sem]
     refine CO.intro h2 ?_
     cases hr : bandR b with
     | none =>
       have hb2 := hS.2 hr
       obtain ⟨qa, qb⟩ := qe
       simp only at hb2
       subst hb2
       simp -implicitDefEqProofs only [go_sem, g0, g1, g2, s0, s1, s2]
       exact tr_ (σ' := σ) (ex := [_, _, _]) rfl (by unfold readV; exact bel_tup3 (bel_bandV _ _)) hbel
     | some p =>
       obtain ⟨M, t⟩ := p
       have hb2 := hS.1 M t hr
       simp only [Prod.mk.injEq] at hb2
       obtain ⟨rfl, rfl⟩ := hb2
       simp -implicitDefEqProofs only [go_sem, g0, g1, g2, s0, s1, s2]
       exact tr_ (σ' := σ) (ex := [_, _, _]) rfl (by unfold readV; exact bel_tup3 (bel_bandV _ _)) hbel
   · have hL : bandS b (0, false) = ((false, 0, 0), took (took q 0 false) 0 (mayB false 0 0)) := by
      unfold bandS onlySt bnd0S
      rw [hq1]
      simp only [h0, h1, if_false]
      rfl
     have e1 : (((c.toNat : Nat) : Int) == 1) = false := by
      rw [Bool.eq_false_iff]
      intro h
      rw [beq_iff_eq] at h
      exact h1 (UInt8.toNat_inj.1 (by rw [show (1 : UInt8).toNat = 1 from rfl]; omega))
     have v1 := refuse_ans (σ ++ [.box [Bo false, Fl 0, Fl 0], rob b q, .box [Bo false, Fl 0, Fl 0]]) (σ.length + 1) b q false (g1 _ _ _ _) hin1 hb
     rw [s1] at v1
     have hi2 := took_inb b q false hin1
     generalize took q 0 false = p1 at v1 hi2 hL
     simp -implicitDefEqProofs only [go_sem, bc, e0, e1, g0, g1, g2, s0, s1, s2]
     refine CO.intro v1 ?_
     have h1 := refuse_ans (σ ++ [.box [Bo false, Fl 0, Fl 0], rob b p1, .box [Bo false, Fl 0, Fl 0]]) (σ.length + 1) b p1 (mayB false 0 0) (g1 _ _ _ _) hi2 hb
     rw [s1] at h1
     have hL : bandS b (0, false) = ((false, 0, 0), took p1 0 (mayB false 0 0)) := hL
     rw [hL] at hS
     generalize took p1 0 (mayB false 0 0) = qe at h1 hS
     have h2 := end_ans (σ ++ [.box [Bo false, Fl 0, Fl 0], rob b qe, .box [Bo false, Fl 0, Fl 0]]) (σ.length + 1) b qe (g1 _ _ _ _)
     simp -implicitDefEqProofs only [go_sem, g0, g1, g2, s0, s1, s2]
     refine CO.intro (may_ans _ false 0 0) ?_
     simp -implicitDefEqProofs only [go_sem]
     refine CO.intro h1 ?_
     simp -implicitDefEqProofs only [go_sem]
     refine CO.intro h2 ?_
     cases hr : bandR b with
     | none =>
       have hb2 := hS.2 hr
       obtain ⟨qa, qb⟩ := qe
       simp only at hb2
       subst hb2
       simp -implicitDefEqProofs only [go_sem, g0, g1, g2, s0, s1, s2]
       exact tr_ (σ' := σ) (ex := [_, _, _]) rfl (by unfold readV; exact bel_tup3 (bel_bandV _ _)) hbel
     | some p =>
       obtain ⟨M, t⟩ := p
       have hb2 := hS.1 M t hr
       simp only [Prod.mk.injEq] at hb2
       obtain ⟨rfl, rfl⟩ := hb2
       simp -implicitDefEqProofs only [go_sem, g0, g1, g2, s0, s1, s2]
       exact tr_ (σ' := σ) (ex := [_, _, _]) rfl (by unfold readV; exact bel_tup3 (bel_bandV _ _)) hbel
end
theorem readV_none {α : Type} {r : Option (α × Byt)} {b : Byt} {enc : α → AV} {z : AV} (h : r = none) : readV r b enc z = .tup [z, I 0, Bo false] := by subst h; rfl
theorem readV_some {α : Type} {r : Option (α × Byt)} {b : Byt} {enc : α → AV} {z : AV} {x : α} {t : Byt} (h : r = some (x, t)) : readV r b enc z = .tup [enc x, I (b.length - t.length : Nat), Bo true] := by subst h; rfl
abbrev mlV (M : List Mtr) : AV := .sl 3 (mvs3 M)
section
variable (σ : St) (p : Nat) (b : Byt) (q : Nat × Bool)
theorem ofmats (h : σ[p]? = some (rob b q)) (hq : Inb b q) (hb : b.length ≤ 50000) : Ans Tryz.prog 55 [.ptr p 0, .fn 56 [] []] σ (mlV (runR listR [] b q).1) (σ.set p (rob b (runR listR [] b q).2)) := by
 obtain ⟨a, bad⟩ := q
 have hq : a ≤ b.length := hq
 have hl : (b.drop a).length ≤ 50000 := by rw [List.length_drop]; omega
 cases hr : listR (b.drop a) with
 | none =>
   have hrd := mread_ans σ (b.drop a) hl
   rw [readV_none hr] at hrd
   have e : runR listR [] b (a, bad) = ([], (a, true)) := by
    cases bad
    · exact runR_none hr
    · exact runR_bad _ _ _ _
   have e2 : took (a, bad) 0 false = (a, true) := by cases bad <;> rfl
   have ht := took_ans σ p b (a, bad) 0 false h (by simp only; omega)
   rw [e2] at ht
   rw [e]
   have : Ans Tryz.prog 55 [.ptr p 0, .fn 56 [] []] σ .nils (σ.set p (rob b (a, true))) := by
    refine Ans.of_run t55 ?_
    simp -implicitDefEqProofs only [c55, r55, go_sem]
    refine CO.intro (rest_ans σ p b (a, bad) h hq) ?_
    simp -implicitDefEqProofs only [go_sem]
    refine CO.intro hrd ?_
    simp -implicitDefEqProofs only [go_sem]
    refine CO.intro ht ?_
    simp -implicitDefEqProofs only [go_sem]
    exact Fini.ret rfl
   exact this.subR (.nils 3)
 | some x =>
   obtain ⟨x, t⟩ := x
   have hrd := mread_ans σ (b.drop a) hl
   rw [readV_some hr] at hrd
   have hdr := ends_list.drop hq hr
   have ht := took_ans σ p b (a, bad) ((b.drop a).length - t.length) true h (by simp only [List.length_drop]; omega)
   cases bad with
   | true =>
     have e2 : took (a, true) ((b.drop a).length - t.length) true = (a, true) := rfl
     rw [e2] at ht
     rw [runR_bad]
     have : Ans Tryz.prog 55 [.ptr p 0, .fn 56 [] []] σ .nils (σ.set p (rob b (a, true))) := by
      refine Ans.of_run t55 ?_
      simp -implicitDefEqProofs only [c55, r55, go_sem]
      refine CO.intro (rest_ans σ p b (a, true) h hq) ?_
      simp -implicitDefEqProofs only [go_sem]
      refine CO.intro hrd ?_
      simp -implicitDefEqProofs only [go_sem]
      refine CO.intro ht ?_
      simp -implicitDefEqProofs only [go_sem]
      exact Fini.ret rfl
     exact this.subR (.nils 3)
   | false =>
     have e2 : took (a, false) ((b.drop a).length - t.length) true = (b.length - t.length, false) := by
      simp only [took, Bool.false_or, Bool.not_true, Bool.false_eq_true, if_false, List.length_drop]
      congr 1; omega
     rw [e2] at ht
     rw [runR_some hr]
     refine Ans.of_run t55 ?_
     simp -implicitDefEqProofs only [c55, r55, go_sem]
     refine CO.intro (rest_ans σ p b (a, false) h hq) ?_
     simp -implicitDefEqProofs only [go_sem]
     refine CO.intro hrd ?_
     simp -implicitDefEqProofs only [go_sem]
     refine CO.intro ht ?_
     simp -implicitDefEqProofs only [go_sem]
     exact Fini.ret rfl
theorem ofband (h : σ[p]? = some (rob b q)) (hq : Inb b q) (hb : b.length ≤ 50000) : Ans Tryz.prog 57 [.ptr p 0, .fn 58 [] []] σ (bandV (runR bandR (false, 0, 0) b q).1) (σ.set p (rob b (runR bandR (false, 0, 0) b q).2)) := by
 obtain ⟨a, bad⟩ := q
 have hq : a ≤ b.length := hq
 have hl : (b.drop a).length ≤ 50000 := by rw [List.length_drop]; omega
 have hp : p < σ.length := (List.getElem?_eq_some_iff.1 h).1
 have hz : ∀ ob, (σ ++ [ob])[p]? = some (rob b (a, bad)) := fun ob => by rw [List.getElem?_append_left hp]; exact h
 have hst : ∀ ob X, (σ ++ [ob]).set p X = σ.set p X ++ [ob] := fun ob X => by rw [List.set_append_left _ _ hp]
 have hlen : ∀ X, (σ.set p X).length = σ.length := fun X => List.length_set
 have gx : ∀ (X : Ob) (o : Ob) (ex : St), (σ.set p X ++ o :: ex)[σ.length]? = some o := fun X o ex => by rw [← hlen X]; exact g0 _ _ _
 have sx : ∀ (X : Ob) (o u : Ob) (ex : St), (σ.set p X ++ o :: ex).set σ.length u = σ.set p X ++ u :: ex := fun X o u ex => by rw [← hlen X]; exact s0 _ _ _ _
 have gx1 : ∀ (X : Ob) (o o2 : Ob) (ex : St), (σ.set p X ++ o :: o2 :: ex)[σ.length + 1]? = some o2 := fun X o o2 ex => by rw [← hlen X]; exact g1 _ _ _ _
 have hbo : ∀ (hbel : ∀ o ∈ σ, BelO σ.length o) (q : Nat × Bool), ∀ o ∈ σ.set p (rob b q), BelO (σ.set p (rob b q)).length o := fun hbel q => by
  rw [hlen]
  exact bel_set hbel (fun c hc => by
   simp only [List.mem_cons, List.not_mem_nil, or_false] at hc
   rcases hc with rfl | rfl | rfl
   · exact bel_byv _ _
   · exact .pl _
   · exact .pl _)
 cases hr : bandR (b.drop a) with
 | none =>
   have hrd := fun s => readband_ans s (b.drop a) hl
   simp only [readV_none hr] at hrd
   have e : runR bandR (false, 0, 0) b (a, bad) = ((false, 0, 0), (a, true)) := by
    cases bad
    · exact runR_none hr
    · exact runR_bad _ _ _ _
   have e2 : took (a, bad) 0 false = (a, true) := by cases bad <;> rfl
   have ht := fun ob => took_ans (σ ++ [ob]) p b (a, bad) 0 false (hz ob) (by simp only; omega)
   simp only [e2, hst] at ht
   rw [e]
   refine Ans.of_run' t57 (fun hbel _ => ?_)
   simp -implicitDefEqProofs only [c57, r57, go_sem]
   refine CO.intro (rest_ans _ p b (a, bad) (hz _) hq) ?_
   simp -implicitDefEqProofs only [go_sem]
   refine CO.intro (hrd _) ?_
   simp -implicitDefEqProofs only [go_sem, bandV]
   refine CO.intro (ht _) ?_
   simp -implicitDefEqProofs only [go_sem, gx, sx, gx1, List.append_assoc, List.length_append, hlen]
   exact Fini.trim2 (σ' := σ.set p (rob b (a, true))) (ex := [_, _]) (by simp -implicitDefEqProofs only [go_sem, resA, allSome, rvA, oneOf, gx]) rfl (by rw [hlen]; exact Nat.le_refl _) (bel_bandV _ (false, 0, 0)) (hbo hbel _)
 | some x =>
   obtain ⟨x, t⟩ := x
   have hrd := fun s => readband_ans s (b.drop a) hl
   simp only [readV_some hr] at hrd
   have hdr := ends_band.drop hq hr
   have ht := fun ob => took_ans (σ ++ [ob]) p b (a, bad) ((b.drop a).length - t.length) true (hz ob) (by simp only [List.length_drop]; omega)
   simp only [hst] at ht
   cases bad with
   | true =>
     have e2 : took (a, true) ((b.drop a).length - t.length) true = (a, true) := rfl
     rw [e2] at ht
     rw [runR_bad]
     refine Ans.of_run' t57 (fun hbel _ => ?_)
     simp -implicitDefEqProofs only [c57, r57, go_sem]
     refine CO.intro (rest_ans _ p b (a, true) (hz _) hq) ?_
     simp -implicitDefEqProofs only [go_sem]
     refine CO.intro (hrd _) ?_
     simp -implicitDefEqProofs only [go_sem, bandV]
     refine CO.intro (ht _) ?_
     simp -implicitDefEqProofs only [go_sem, gx, sx, gx1, List.append_assoc, List.length_append, hlen]
     exact Fini.trim2 (σ' := σ.set p (rob b (a, true))) (ex := [_, _]) (by simp -implicitDefEqProofs only [go_sem, resA, allSome, rvA, oneOf, gx]) rfl (by rw [hlen]; exact Nat.le_refl _) (bel_bandV _ (false, 0, 0)) (hbo hbel _)
   | false =>
     have e2 : took (a, false) ((b.drop a).length - t.length) true = (b.length - t.length, false) := by
      simp only [took, Bool.false_or, Bool.not_true, Bool.false_eq_true, if_false, List.length_drop]
      congr 1; omega
     rw [e2] at ht
     rw [runR_some hr]
     refine Ans.of_run' t57 (fun hbel _ => ?_)
     simp -implicitDefEqProofs only [c57, r57, go_sem]
     refine CO.intro (rest_ans _ p b (a, false) (hz _) hq) ?_
     simp -implicitDefEqProofs only [go_sem]
     refine CO.intro (hrd _) ?_
     simp -implicitDefEqProofs only [go_sem, bandV]
     refine CO.intro (ht _) ?_
     simp -implicitDefEqProofs only [go_sem, gx, sx, gx1, List.append_assoc, List.length_append, hlen]
     exact Fini.trim2 (σ' := σ.set p (rob b (b.length - t.length, false))) (ex := [_]) (by simp -implicitDefEqProofs only [go_sem, resA, allSome, rvA, oneOf, gx]) rfl (by rw [hlen]; exact Nat.le_refl _) (bel_bandV _ x) (hbo hbel _)
end
end Go.Proofs.YtmkmhhjkdaklbaaGreat
