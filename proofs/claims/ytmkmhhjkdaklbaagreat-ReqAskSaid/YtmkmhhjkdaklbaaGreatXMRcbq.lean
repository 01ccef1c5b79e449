/- Any lists of matchers: the program's List. No condition. -/
import Derived.Test.YtmkmhhjkdaklbaaGreatXLs2q
import Derived.Test.YtmkmhhjkdaklbaaGreatRows
import Derived.Test.YtmkmhhjkdaklbaaGreatXPDoc1q
import Derived.Test.YtmkmhhjkdaklbaaGreatAbArgq
import Derived.Test.YtmkmhhjkdaklbaaGreatProg
import Derived.Test.YtmkmhhjkdaklbaaGreatAbStepq
import Derived.Test.YtmkmhhjkdaklbaaGreatXPPar6q
import Derived.Test.YtmkmhhjkdaklbaaGreatXDr4q
set_option linter.unusedSimpArgs false
set_option linter.unusedVariables false
set_option linter.unusedSectionVars false
namespace Go.Proofs.YtmkmhhjkdaklbaaGreat
open Go Go.Ab
set_option maxRecDepth 100000
theorem zaN (n:Nat) (M:List Mtr):Bel n (.sl 3 (mvs3 M)):=by
 refine .sl 3 _ fun i hi=>?_
 have:∀y∈mvs3 M,Bel n y:=by
  intro y hy
  simp only[mvs3,List.mem_map]at hy
  obtain⟨x,_,rfl⟩:=hy
  refine .agg _ fun i hi=>?_
  have:∀y∈([I x.1,Sx x.2.1,Sx x.2.2]:List AV),Bel n y:=by
   intro y hy
   simp only[List.mem_cons,List.not_mem_nil,or_false]at hy
   rcases hy with rfl|rfl|rfl<;>exact .pl _
  exact this _ (List.getElem_mem hi)
 exact this _ (List.getElem_mem hi)
theorem zbm (n:Nat) (M:List Mtr):Bel n (.sl 3 (mvs3 M))=True:=eq_true (zaN n M)
theorem memM (n:Nat) (k:Int) (a b:ByteArray):∀y∈([I k,Sx a,Sx b]:List AV),Bel n y:=by
 intro y hy
 simp only[List.mem_cons,List.not_mem_nil,or_false]at hy
 rcases hy with rfl|rfl|rfl<;>exact .pl _
theorem zbn (n:Nat) (k:Int) (a b:ByteArray):Bel n (.agg [I k,Sx a,Sx b])=True:=eq_true (.agg _ fun i hi=>memM n k a b _ (List.getElem_mem hi))
theorem BL_rp (n:Nat) (k:Int) (a b:ByteArray):Bel n (.rp [I k,Sx a,Sx b])=True:=eq_true (.rp _ fun i hi=>memM n k a b _ (List.getElem_mem hi))
theorem z0V (σ:St) (M:List Mtr):Ans Tryz.prog 106 [.sl 3 (mvs3 M)] σ (Bo (listB M)) σ:=by
 refine Ans.of_run' t106 (fun hbel _=>?_)
 have d5:decide ((5:Int)<M.length)=decide (5<M.length):=decN 5 _
 have hb0:(∀o∈σ,BelO σ.length o)=True:=eq_true hbel
 unfold listB
 simp -implicitDefEqProofs only[c106,r106,go_sem,z0g,d5]
 by_cases hl:M.length≤5
 · rw[decide_eq_true hl,Bool.true_and]
   have h5:decide (5<M.length)=false:=decide_eq_false (by omega)
   simp -implicitDefEqProofs only[go_sem,h5,z0g]
   refine Go.Ab.L.scan M.length (okL M) (fun i=>mkE 33 [(0,.sl 3 (mvs3 M)),(8,.sl 3 (mvs3 M)),(9,I M.length),(10,I i)]) (fun _=>σ) ?_ ?_ rfl rfl
   · intro i hi hp J hJ
     have htk:∀x:Ob,(σ++[x]).take σ.length=σ:=fun x=>List.take_left' rfl
     have hF:okL M i=false→(List.range M.length).all (okL M)=false:=fun h=>List.all_eq_false.2 ⟨i,List.mem_range.2 hi,by simp[h]⟩
     have hx:=z7m M i hi
     have hin:=z0j (n:=i) (by omega)
     have hI:=fun σ=>zcL σ (M.getD i noM3).1 (M.getD i noM3).2.1 (M.getD i noM3).2.2
     have hO:okL M i=(isB (M.getD i noM3).1 (M.getD i noM3).2.1 (M.getD i noM3).2.2&&(i==0||z2U (M.getD (i-1) noM3) (M.getD i noM3))):=rfl
     have d0:decide ((0:Int)<i)=decide (0<i):=decN 0 i
     rw[hO]at hJ hF
     simp -implicitDefEqProofs only[mkE,go_sem,z0g,z0r hi,dec_lt hi,hx,mv3,z0p,g0,s0,List.drop_nil]
     first|refine CD.intro (hI _) ?_|refine CS.intro hI ?_
     generalize isB (M.getD i noM3).1 (M.getD i noM3).2.1 (M.getD i noM3).2.2=b1 at hJ hF
     cases b1 with
     |false =>
      simp -implicitDefEqProofs only[go_sem,z0p,g0,s0]
      rw[hF rfl]
      exact Fini.trim2 (σ':=σ) rfl rfl (Nat.le_refl _) (.pl _) hbel
     |true =>
      by_cases hz:i=0
      · subst hz
        have hgo:=hJ rfl
        simp -implicitDefEqProofs only[go_sem,hin,z0p,g0,s0,Int.natCast_zero,B_pl,B_any,z4E,B_tup,B_osl,B_ptr,B_sl0,zbm,zbn,BL_rp,htk,Nat.add_zero,hb0,List.length_append]
        exact⟨by omega,hgo⟩
      · have hpos:decide (0<i)=true:=by simp;omega
        have hx1:=z7m M (i-1) (by omega)
        have hB:=fun σ=>z6F σ (M.getD (i-1) noM3) (M.getD i noM3)
        have hc:=z6G (M.getD (i-1) noM3) (M.getD i noM3)
        have w1:IntKind.i64.wrap ((i:Int)-1)=((i-1:Nat):Int):=by rw[wrapN (by omega) (by omega)];omega
        have hlt1:(((i-1:Nat):Int)<M.length)=True:=by simp;omega
        have hz':(i==0)=false:=by simpa using hz
        rw[hz']at hJ hF
        simp -implicitDefEqProofs only[go_sem,d0,hpos,w1,z0g,z0r hi,dec_lt hi,hlt1,hx,hx1,z0p,mv3,g0,s0]
        first|refine CD.intro (hB _) ?_|refine CS.intro hB ?_
        generalize z2U (M.getD (i-1) noM3) (M.getD i noM3)=b2 at hJ hF hc
        generalize cmp3 (M.getD (i-1) noM3) (M.getD i noM3)=cc at hc
        cases b2 with
        |true =>
         have hgo:=hJ rfl
         simp -implicitDefEqProofs only[go_sem,hc,hin,g0,s0,B_pl,B_any,z4E,B_tup,B_osl,B_ptr,B_sl0,zbm,zbn,BL_rp,htk,Nat.add_zero,hb0,List.length_append,Bool.not_true]
         exact⟨by omega,hgo⟩
        |false =>
         simp -implicitDefEqProofs only[go_sem,hc,Bool.not_false,g0,s0]
         rw[hF rfl]
         exact Fini.trim2 (σ':=σ) rfl rfl (Nat.le_refl _) (.pl _) hbel
   · intro hp J
     have hd:decide ((M.length:Int)<M.length)=false:=by simp
     simp -implicitDefEqProofs only[mkE,go_sem,z0g,hd]
     refine Fini.ret' rfl (z0G ?_)
     exact(List.all_eq_true.2 fun i hi=>hp i (List.mem_range.1 hi)).symm
 · rw[decide_eq_false hl,Bool.false_and]
   have h5:decide (5<M.length)=true:=decide_eq_true (by omega)
   simp -implicitDefEqProofs only[go_sem,h5]
   exact Fini.ret rfl
end Go.Proofs.YtmkmhhjkdaklbaaGreat
namespace Go.Proofs.YtmkmhhjkdaklbaaGreat
open Go Go.Ab Go.ChangeShapes Go.WideShapes Go.ChangeAt Go.RowKit
set_option maxRecDepth 100000
def QLab:List AV→Prop:=fun xs=>∃a b:ByteArray,xs=[Sx a,Sx b]
def QMtr:List AV→Prop:=fun xs=>∃(k:Int) (a b:ByteArray),xs=[I k,Sx a,Sx b]
theorem z9r (f:Nat):Reads Tryz.prog 133 f QLab:=by
 cases f with
 |zero=>exact Reads.zero
 |succ f =>
  have h:=Reads.struct (P:=Tryz.prog) (t:=133) (f:=f) (Qs:=[QText,QText]) Tryz.underlying133 (by kernel_rfl) rfl (by
   intro p hp
   simp only[List.zip_cons_cons,List.zip_nil_right,List.mem_cons,List.not_mem_nil,or_false]at hp
   rcases hp with rfl|rfl
   · exact Reads.text Tryz.underlying9 f
   · exact Reads.text Tryz.underlying9 f)
  refine h.mono fun xs hq=>?_
  obtain⟨_,b,rfl,⟨k,_,rfl⟩,_,d,rfl,⟨n,_,rfl⟩,rfl⟩:=hq
  exact⟨k,n,rfl⟩
theorem z9s (f:Nat):Reads Tryz.prog 127 f QMtr:=by
 cases f with
 |zero=>exact Reads.zero
 |succ f =>
  have h:=Reads.struct (P:=Tryz.prog) (t:=127) (f:=f) (Qs:=[QInt .i64,QText,QText]) Tryz.underlying127 (by kernel_rfl) rfl (by
   intro p hp
   simp only[List.zip_cons_cons,List.zip_nil_right,List.mem_cons,List.not_mem_nil,or_false]at hp
   rcases hp with rfl|rfl|rfl
   · exact Reads.int Tryz.underlying3 f
   · exact Reads.text Tryz.underlying9 f
   · exact Reads.text Tryz.underlying9 f)
  refine h.mono fun xs hq=>?_
  obtain⟨_,b,rfl,⟨k,_,rfl⟩,_,d,rfl,⟨n,_,rfl⟩,_,_,rfl,⟨v,_,rfl⟩,rfl⟩:=hq
  exact⟨k,n,v,rfl⟩
theorem z9t:∀{ys:List (List AV)},(∀y∈ys,QLab y)→∃L:List Lab,ys.map (wrapC true)=lvs L
 |[],_=>⟨[],rfl⟩
 |y::ys,h=>by
  obtain⟨a,b,rfl⟩:=h y List.mem_cons_self
  obtain⟨L,hL⟩:=z9t fun y hy=>h y (List.mem_cons_of_mem _ hy)
  exact⟨(a,b)::L,by rw[List.map_cons,hL];rfl⟩
theorem z9u:∀{ys:List (List AV)},(∀y∈ys,QMtr y)→∃L:List Mtr,ys.map (wrapC true)=mvs3 L
 |[],_=>⟨[],rfl⟩
 |y::ys,h=>by
  obtain⟨k,a,b,rfl⟩:=h y List.mem_cons_self
  obtain⟨L,hL⟩:=z9u fun y hy=>h y (List.mem_cons_of_mem _ hy)
  exact⟨(k,a,b)::L,by rw[List.map_cons,hL];rfl⟩
end Go.Proofs.YtmkmhhjkdaklbaaGreat
namespace Go.Proofs.YtmkmhhjkdaklbaaGreat
open Go Go.Ab
set_option maxRecDepth 100000
def c15:ACode :=
 (sq_ [pr_ 2 (.boxr (.tmp 0)),
 pr_ 4 (mi_ .i64 0)]
 (sq_ [pr_ 7 (fa_ 0 2),
 pr_ 8 (lf_ 1 7),
 mv_ 9 1,
 cl_ 10 49 [(.tmp 8),(.tmp 9)],
 mv_ 5 10]
 (.seq (sq_ [mv_ 11 5,
 mv_ 12 1,
 pr_ 13 (bt_ .leq 11 12)]
 (.cond (.tmp 13)
 (.ops [mv_ 14 5,
 pr_ 15 (fa_ 1 2),
 pr_ 16 (lf_ 1 15),
 mv_ 17 1,
 cl_ 18 49 [(.tmp 16),(.tmp 17)],
 pr_ 19 (bt_ .add 14 18),
 mv_ 5 19])
 .skip))
 (.seq (sq_ [pr_ 6 (mi_ .i64 0)]
 (.block 0 (.loop [0,3,4,7,8,9,10,11,12,13,14,15,16,17,18,19,20,21,22,23,24,25,26,27,28,29,30,31,32,33,34,35,36,37,38,39,40,41,42,43,44,45,46,47,48,49,50,51,52,53,54] (.seq (sq_ [mv_ 20 6,
 pr_ 21 (fa_ 5 2),
 pr_ 22 (lf_ 1 21),
 pr_ 23 (.lenv (.tmp 22)),
 pr_ 24 (bt_ .lss 20 23),
 mv_ 25 24,
 gp_ 26 25 true (mo_ 5),
 gp_ 27 25 true (mo_ 1),
 gp_ 28 25 true (bt_ .leq 26 27),
 pr_ 29 (pa_ 25 28)]
 (.cond (.tmp 29)
 .skip
 (.exit 0)))
 (.seq (.block 1 (.seq (sq_ [pr_ 32 (fa_ 5 2),
 pr_ 33 (lf_ 1 32),
 mv_ 34 6,
 pr_ 35 (.iadrs 1 (.tmp 33) (.tmp 34)),
 pr_ 36 (lf_ 1 35),
 pr_ 37 (.lens (.tmp 36)),
 mv_ 38 1,
 pr_ 39 (bt_ .gtr 37 38)]
 (.cond (.tmp 39)
 (sq_ [mv_ 40 1,
 pr_ 41 (bk_ .add 40 .i64 1),
 mv_ 4 41]
 .ret)
 .skip))
 (.ops [mv_ 42 5,
 pr_ 43 (bk_ .add 42 .i64 1),
 pr_ 44 (fa_ 5 2),
 pr_ 45 (lf_ 1 44),
 mv_ 46 6,
 pr_ 47 (.iadrs 1 (.tmp 45) (.tmp 46)),
 pr_ 48 (lf_ 1 47),
 pr_ 49 (.lens (.tmp 48)),
 pr_ 50 (bt_ .add 43 49),
 mv_ 5 50])))
 (.ops [mv_ 30 6,
 pr_ 31 (bk_ .add 30 .i64 1),
 mv_ 6 31]))))))
 (sq_ [mv_ 51 5,
 mv_ 52 1,
 pr_ 53 (bk_ .add 52 .i64 1),
 pr_ 54 (.mm false (.tmp 51) (.tmp 53)),
 mv_ 4 54]
 .ret)))))
def o15:List Tmp:=[]
def r15:List RV:=[.tmp 4]
theorem t15:Text Tryz.prog 15 o15 c15 r15 55:=.mk_ Tryz.f15 rfl
def c51:ACode :=
 (sq_ [pr_ 1 (.boxr (.tmp 0)),
 pr_ 2 mf_]
 (.seq (sq_ [pr_ 5 (fa_ 0 1),
 pr_ 6 (lf_ 1 5),
 pr_ 7 (.lenv (.tmp 6)),
 pr_ 8 (bk_ .eql 7 .i64 0),
 mv_ 9 8,
 gp_ 10 9 false (fa_ 1 1),
 gp_ 11 9 false (lf_ 1 10),
 gp_ 12 9 false (.lenv (.tmp 11)),
 gp_ 13 9 false (bk_ .eql 12 .i64 0),
 pr_ 14 (po_ 9 13),
 mv_ 15 14,
 gp_ 16 15 false (fa_ 0 1),
 gp_ 17 15 false (lf_ 1 16),
 gc_ 18 15 false 106 [(.tmp 17)],
 gp_ 19 15 false (no_ 18),
 pr_ 20 (po_ 15 19),
 mv_ 21 20,
 gp_ 22 21 false (fa_ 1 1),
 gp_ 23 21 false (lf_ 1 22),
 gc_ 24 21 false 106 [(.tmp 23)],
 gp_ 25 21 false (no_ 24),
 pr_ 26 (po_ 21 25),
 mv_ 27 26,
 gp_ 28 27 false (fa_ 2 1),
 gp_ 29 27 false (lt_ 3 28),
 gc_ 30 27 false 107 [(.tmp 29)],
 gp_ 31 27 false (no_ 30),
 pr_ 32 (po_ 27 31),
 mv_ 33 32,
 gp_ 34 33 false (fa_ 5 1),
 gp_ 35 33 false (lf_ 1 34),
 gp_ 36 33 false (.lenv (.tmp 35)),
 gp_ 37 33 false (bk_ .gtr 36 .i64 4),
 pr_ 38 (po_ 33 37)]
 (.cond (.tmp 38)
 (sq_ [pr_ 2 mf_]
 .ret)
 .skip))
 (.seq (sq_ [pr_ 39 (fa_ 5 1),
 pr_ 40 (lf_ 1 39),
 pr_ 41 (.lenv (.tmp 40)),
 pr_ 42 (mi_ .i64 0)]
 (.block 0 (.loop [0,2,3,4,5,6,7,8,9,10,11,12,13,14,15,16,17,18,19,20,21,22,23,24,25,26,27,28,29,30,31,32,33,34,35,36,37,38,39,43,44,45,46,47,48,49,50,51,52,53,54,55,56,57,58,59,60,61,62,63,64] (sq_ [pr_ 43 (bt_ .lss 42 41)]
 (.seq (.cond (.tmp 43)
 .skip
 (.exit 0))
 (.seq (.block 1 (sq_ [mv_ 44 42,
 pr_ 45 (.iadrs 1 (.tmp 40) (.tmp 42)),
 pr_ 46 (lf_ 1 45),
 mv_ 3 44,
 mv_ 4 46]
 (sq_ [mv_ 47 4,
 c1_ 48 108 47,
 pr_ 49 (no_ 48),
 mv_ 50 49,
 gp_ 51 50 false (mo_ 3),
 gp_ 52 50 false (bk_ .gtr 51 .i64 0),
 gp_ 53 50 false (mo_ 52),
 gp_ 54 53 true (mo_ 4),
 gp_ 55 53 true (fa_ 5 1),
 gp_ 56 53 true (lf_ 1 55),
 gp_ 57 53 true (mo_ 3),
 gp_ 58 53 true (bk_ .sub 57 .i64 1),
 gp_ 59 53 true (.iadrs 1 (.tmp 56) (.tmp 58)),
 gp_ 60 53 true (lf_ 1 59),
 gp_ 61 53 true (bt_ .leq 54 60),
 gp_ 62 50 false (pa_ 53 61),
 pr_ 63 (po_ 50 62)]
 (.cond (.tmp 63)
 (sq_ [pr_ 2 mf_]
 .ret)
 .skip))))
 (.ops [pr_ 64 (bk_ .add 42 .i64 1),
 mv_ 42 64])))))))
 (sq_ [pr_ 2 mt_]
 .ret))))
def o51:List Tmp:=[]
def r51:List RV:=[.tmp 2]
theorem t51:Text Tryz.prog 51 o51 c51 r51 65:=.mk_ Tryz.f51 rfl
def c94:ACode :=
 (sq_ [pr_ 2 (mi_ .u64 0)]
 (.seq (sq_ [mv_ 3 0,
 c1_ 4 132 3]
 (.cond (.tmp 4)
 (sq_ [pr_ 2 (mi_ .u64 9221120237041090561)]
 .ret)
 .skip))
 (sq_ [mv_ 5 0,
 c1_ 6 47 5,
 mv_ 2 6]
 .ret)))
def o94:List Tmp:=[]
def r94:List RV:=[.tmp 2]
theorem t94:Text Tryz.prog 94 o94 c94 r94 7:=.mk_ Tryz.f94 rfl
def c107:ACode :=
 (sq_ [pr_ 1 (.boxr (.tmp 0)),
 pr_ 2 mf_]
 (.seq (sq_ [pr_ 3 (fa_ 0 1),
 pr_ 4 (lf_ 1 3)]
 (.cond (.tmp 4)
 (sq_ [pr_ 5 (fa_ 1 1),
 pr_ 6 (lf_ 1 5),
 c1_ 7 94 6,
 pr_ 8 (bk_ .eql 7 .u64 0),
 mv_ 9 8,
 gp_ 10 9 true (fa_ 2 1),
 gp_ 11 9 true (lf_ 1 10),
 gc_ 12 9 true 94 [(.tmp 11)],
 gp_ 13 9 true (bk_ .eql 12 .u64 0),
 pr_ 14 (pa_ 9 13),
 mv_ 2 14]
 .ret)
 .skip))
 (sq_ [pr_ 15 (fa_ 1 1),
 pr_ 16 (lf_ 1 15),
 pr_ 17 (fa_ 2 1),
 pr_ 18 (lf_ 1 17),
 pr_ 19 (bt_ .leq 16 18),
 mv_ 2 19]
 .ret)))
def o107:List Tmp:=[]
def r107:List RV:=[.tmp 2]
theorem t107:Text Tryz.prog 107 o107 c107 r107 20:=.mk_ Tryz.f107 rfl
end Go.Proofs.YtmkmhhjkdaklbaaGreat
namespace Go.Proofs.YtmkmhhjkdaklbaaGreat
open Go Go.Ab Go.Cod
set_option maxRecDepth 100000
abbrev Fl (n:Nat):AV:=.pl (.float .f64 n)
structure RuM where
 src:List Mtr
 tgt:List Mtr
 any:Bool
 lo:Nat
 hi:Nat
 eq:List ByteArray
def txs (l:List ByteArray):List AV:=l.map fun s=>Sx s
def ruV (r:RuM):AV:=.agg [.sl 3 (mvs3 r.src),.sl 3 (mvs3 r.tgt),Bo r.any,Fl r.lo,Fl r.hi,.sl 1 (txs r.eq)]
theorem z0o (l:List ByteArray):(txs l).length=l.length:=List.length_map ..
theorem z4h (l:List ByteArray) (i:Nat) (h:i<l.length):(txs l)[i]?=some (Sx l[i]):=by simp[txs,h]
theorem txs_D (l:List ByteArray) (i:Nat) (h:i<l.length):(txs l)[i]?=some (Sx (l.getD i ⟨#[]⟩)):=by
 rw[z4h l i h,List.getD_eq_getElem?_getD,List.getElem?_eq_getElem h];rfl
def leF (a b:Nat):Bool:=FloatKind.f64.format.order a b==some .lt||FloatKind.f64.format.order a b==some .eq
theorem z9v (a b:Nat):(FloatKind.f64.format.order a b==some .lt||FloatKind.f64.format.order a b==some .eq)=leF a b:=rfl
def nanF (a:Nat):Bool:=FloatKind.f64.format.order a a != some .eq
theorem z7p (a:Nat):(FloatKind.f64.format.order a a != some .eq)=nanF a:=rfl
def bitsF (a:Nat):Nat:=if nanF a then 9221120237041090561 else a
def mayB (any:Bool) (lo hi:Nat):Bool:=if any then(((bitsF lo:Nat):Int)==0)&&(((bitsF hi:Nat):Int)==0) else leF lo hi
def eqOk (e:List ByteArray) (i:Nat):Bool:=nameB (e.getD i ⟨#[]⟩)&& !(decide (0<i)&&leS (e.getD i ⟨#[]⟩) (e.getD (i-1) ⟨#[]⟩))
def eqB (e:List ByteArray):Bool:=decide (e.length≤4)&&(List.range e.length).all (eqOk e)
def ruIs (r:RuM):Bool:=!(((r.src.length:Nat):Int)==0)&&(!(((r.tgt.length:Nat):Int)==0)&&(listB r.src&&(listB r.tgt&&(mayB r.any r.lo r.hi&&eqB r.eq))))
section
variable (σ:St)
theorem zcO (a:Nat):Ans Tryz.prog 132 [Fl a] σ (Bo (nanF a)) σ:=by
 refine Ans.of_run t132 ?_
 simp -implicitDefEqProofs only[c132,r132,go_sem,z7p]
 exact Fini.ret rfl
theorem z4i (a:Nat):Ans Tryz.prog 47 [Fl a] σ (UN a) σ:=ext_bits.ok _ _ _ _ rfl
theorem z2r (a:Nat):Ans Tryz.prog 94 [Fl a] σ (UN (bitsF a)) σ:=by
 refine Ans.of_run t94 ?_
 simp -implicitDefEqProofs only[c94,r94,go_sem]
 refine CO.intro (zcO σ a) ?_
 unfold bitsF
 cases nanF a with
 |true =>
  simp -implicitDefEqProofs only[go_sem]
  exact Fini.ret rfl
 |false =>
  simp -implicitDefEqProofs only[go_sem]
  refine CO.intro (z4i σ a) ?_
  simp -implicitDefEqProofs only[go_sem]
  exact Fini.ret rfl
theorem z1Q (any:Bool) (lo hi:Nat):Ans Tryz.prog 107 [.agg [Bo any,Fl lo,Fl hi]] σ (Bo (mayB any lo hi)) σ:=by
 refine Ans.of_run t107 ?_
 unfold mayB
 cases any with
 |true =>
  simp -implicitDefEqProofs only[c107,r107,go_sem]
  refine CO.intro (z2r σ lo) ?_
  cases h:(((bitsF lo:Nat):Int)==0) with
  |false =>
   simp -implicitDefEqProofs only[go_sem,h]
   exact Fini.ret rfl
  |true =>
   simp -implicitDefEqProofs only[go_sem,h]
   refine CO.intro (z2r σ hi) ?_
   simp -implicitDefEqProofs only[go_sem,h]
   exact Fini.ret rfl
 |false =>
  simp -implicitDefEqProofs only[c107,r107,go_sem,z9v]
  exact Fini.ret rfl
theorem z1h (r:RuM):Ans Tryz.prog 51 [ruV r] σ (Bo (ruIs r)) σ:=by
 obtain⟨src,tgt,any,lo,hi,eq⟩:=r
 have d4:decide ((4:Int)<eq.length)=decide (4<eq.length):=decNN 4 _
 refine Ans.of_run t51 ?_
 unfold ruIs ruV
 simp only
 cases h1:(((src.length:Nat):Int)==0) with
 |true =>
  simp -implicitDefEqProofs only[c51,r51,go_sem,z0g,h1]
  exact Fini.ret rfl
 |false =>
 cases h2:(((tgt.length:Nat):Int)==0) with
 |true =>
  simp -implicitDefEqProofs only[c51,r51,go_sem,z0g,h1,h2]
  exact Fini.ret rfl
 |false =>
 simp -implicitDefEqProofs only[c51,r51,go_sem,z0g,h1,h2]
 refine CO.intro (z0V σ src) ?_
 cases h3:listB src with
 |false =>
  simp -implicitDefEqProofs only[go_sem]
  exact Fini.ret rfl
 |true =>
 simp -implicitDefEqProofs only[go_sem]
 refine CO.intro (z0V σ tgt) ?_
 cases h4:listB tgt with
 |false =>
  simp -implicitDefEqProofs only[go_sem]
  exact Fini.ret rfl
 |true =>
 simp -implicitDefEqProofs only[go_sem]
 refine CO.intro (z1Q σ any lo hi) ?_
 cases h5:mayB any lo hi with
 |false =>
  simp -implicitDefEqProofs only[go_sem]
  exact Fini.ret rfl
 |true =>
 unfold eqB
 by_cases h6:eq.length≤4
 · have x4:decide (4<eq.length)=false:=decide_eq_false (by omega)
   rw[decide_eq_true h6]
   simp -implicitDefEqProofs only[go_sem,z0o,d4,x4]
   refine Go.Ab.L.scan eq.length (eqOk eq) (fun i=>mkE 65 [(1,.rp [.sl 3 (mvs3 src),.sl 3 (mvs3 tgt),Bo any,Fl lo,Fl hi,.sl 1 (txs eq)]),(40,.sl 1 (txs eq)),(41,I eq.length),(42,I i)]) (fun _=>σ) ?_ ?_ rfl rfl
   · intro i hi hp J hJ
     have hx:=txs_D eq i hi
     have hF:eqOk eq i=false→(List.range eq.length).all (eqOk eq)=false:=fun h=>List.all_eq_false.2 ⟨i,List.mem_range.2 hi,by rw[h];decide⟩
     have hin:=wrap_succ (i:=i) (by omega)
     have d0:decide ((0:Int)<i)=decide (0<i):=by rw[Bool.eq_iff_iff];simp
     have hO:eqOk eq i=(nameB (eq.getD i ⟨#[]⟩)&& !(decide (0<i)&&leS (eq.getD i ⟨#[]⟩) (eq.getD (i-1) ⟨#[]⟩))):=rfl
     rw[hO]at hJ hF
     simp -implicitDefEqProofs only[mkE,go_sem,z0o,z0r hi,dec_lt hi,hx]
     refine CO.intro (z44 σ _) ?_
     generalize eq.getD i ⟨#[]⟩=s at hJ hF hx
     cases hb:nameB s with
     |false =>
      rw[hb]at hF
      rw[hF rfl]
      simp -implicitDefEqProofs only[go_sem]
      exact Fini.ret rfl
     |true =>
      rw[hb]at hJ hF
      by_cases hz:i=0
      · subst hz
        have hgo:=hJ rfl
        simp -implicitDefEqProofs only[go_sem,d0,hin]
        exact hgo
      · have hpos:decide (0<i)=true:=decide_eq_true (by omega)
        have hx1:=txs_D eq (i-1) (by omega)
        have w1:IntKind.i64.wrap ((i:Int)-1)=((i-1:Nat):Int):=by rw[wrapN (by omega) (by omega)];omega
        have hlt1:(((i-1:Nat):Int)<eq.length)=True:=by simp;omega
        rw[hpos]at hJ hF
        generalize eq.getD (i-1) ⟨#[]⟩=s1 at hJ hF hx1
        have hle:(Op.bytesLess s.toList s1.toList||s.toList==s1.toList)=leS s s1:=rfl
        simp -implicitDefEqProofs only[go_sem,d0,hpos,w1,z0o,hlt1,hx1,hle]
        cases h7:leS s s1 with
        |true =>
         rw[h7]at hF
         rw[hF rfl]
         simp -implicitDefEqProofs only[go_sem]
         exact Fini.ret rfl
        |false =>
         rw[h7]at hJ
         have hgo:=hJ rfl
         simp -implicitDefEqProofs only[go_sem,hin]
         exact hgo
   · intro hp J
     have hd:decide ((eq.length:Int)<eq.length)=false:=by simp
     simp -implicitDefEqProofs only[mkE,go_sem,z0o,hd]
     refine Fini.ret' rfl (z0G ?_)
     exact(List.all_eq_true.2 fun i hi=>hp i (List.mem_range.1 hi)).symm
 · have x4:decide (4<eq.length)=true:=decide_eq_true (by omega)
   rw[decide_eq_false h6]
   simp -implicitDefEqProofs only[go_sem,z0o,d4,x4]
   exact Fini.ret rfl
end
def putM (x:Mtr):Byt:=x.1.toNat.toUInt8::(txtB x.2.1++txtB x.2.2)
def putL (M:List Mtr):Byt:=z2e putM M
theorem z6K {s:ByteArray} (h:(z1J s).2=true):s.size≤40:=by
 unfold z1J at h
 rcases Nat.lt_or_ge 40 s.size with h40|h40
 · exfalso
   have:=(z7e s 8 0 true).2 rfl
   simp[h40,this]at h
 · exact h40
theorem zaQ {k:Int} {nm v:ByteArray} (h:isB k nm v=true):(1≤k∧k≤4)∧nm.size≤12∧v.size≤40:=by
 unfold isB nameB at h
 simp only[Bool.and_eq_true,decide_eq_true_eq]at h
 obtain⟨⟨⟨⟨_,hn⟩,_⟩,_⟩,h2⟩:=h
 split at h2
 · rename_i hl
   unfold likeB at hl
   simp only[Bool.or_eq_true,beq_iff_eq]at hl
   exact⟨by omega,hn,z6K h2⟩
 · simp only[Bool.and_eq_true,Bool.or_eq_true,beq_iff_eq,decide_eq_true_eq]at h2
   exact⟨by omega,hn,by omega⟩
theorem zcg (n:Nat):((n:Int).tmod 128)=((n%128:Nat):Int):=rfl
theorem zch (n:Nat):((n:Int).tdiv 128)=((n/128:Nat):Int):=rfl
theorem zcP (n:Nat):IntKind.u8.wrap (((n%128%256:Nat):Int)+128)=((n%128+128:Nat):Int):=by
 have:(((n%128%256:Nat):Int)+128)=((n%128%256+128:Nat):Int):=by push_cast;rfl
 rw[this,z3V]
 congr 1;omega
section
variable (σ:St)
theorem z3B (n:Nat) (hn:n<18446744073709551616):Ans Tryz.prog 75 [UN n] σ (.osl σ.length (putN n).length) (σ++[.row 1 (byv (putN n))]):=by
 have h10:=z0m hn
 refine Ans.of_run t75 ?_
 simp -implicitDefEqProofs only[c75,r75,go_sem]
 refine Go.Ab.L.intro (α:={ p:Nat×Byt // p.1<18446744073709551616∧p.2++putN p.1=putN n }) (fun p=>p.1.1) (fun p=>mkE 20 [(0,UN p.1.1),(3,.osl σ.length p.1.2.length)]) (fun p=>σ++[.row 1 (byv p.1.2)]) ?_ ⟨(n,[]),hn,rfl⟩ rfl rfl
 rintro⟨⟨m,pre⟩,hm,hp⟩ J hJ
 have hl:pre.length+(putN m).length≤10:=by rw[←List.length_append,hp];exact h10
 have hw:=z1x hm
 have hle:pre.length+1≤2^32:=by omega
 by_cases h:m<128
 · have d1:decide ((128:Int)≤m)=false:=by simp;omega
   have d2:IntKind.u8.wrap (m:Int)=m:=by rw[z3V];congr 1;omega
   simp -implicitDefEqProofs only[mkE,go_sem,d1,row1,z06,List.length_singleton,hle,d2]
   refine Fini.ret3 (n:=0) rfl ?_ ?_
   · show AV.osl σ.length (pre.length+1)=AV.osl σ.length (putN n).length
     rw[←hp,z2D h];simp
   · rw[List.set_append_right _ _ (Nat.le_refl _)]
     simp only[Nat.sub_self,List.set_cons_zero]
     rw[←hp,z08,z2D h,bc_of (show m<256 by omega)]
     rfl
 · have d1:decide ((128:Int)≤m)=true:=by simp;omega
   simp -implicitDefEqProofs only[mkE,go_sem,d1,row1,z06,List.length_singleton,hle,zcg,z3V (n:=m%128),zcP,zch,z1x (show m/128<18446744073709551616 by omega)]
   rw[List.set_append_right _ _ (Nat.le_refl _)]
   simp only[Nat.sub_self,List.set_cons_zero]
   have hgo:=hJ ⟨(m/128,pre++[(m%128+128).toUInt8]),by simp only;omega,by
    rw[←hp];simp only[List.append_assoc,List.singleton_append];rw[z5f h]⟩ (by simp only;omega)
   simp only[z08,List.length_append,List.length_singleton]at hgo
   rw[bc_of (show m%128+128<256 by omega)]
   exact hgo
theorem z3s (s:ByteArray) (hs:s.size≤4294967280):Ans Tryz.prog 76 [Sx s] σ (.osl σ.length (txtB s).length) (σ++[.row 1 (byv (txtB s))]):=by
 have h10:=z0m (n:=s.size) (by omega)
 have hsz:=z2d s
 have hw:=z1x (n:=s.size) (by omega)
 have hle:(putN s.size).length+s.size≤2^32:=by omega
 refine Ans.of_run' t76 (fun hbel _=>?_)
 simp -implicitDefEqProofs only[c76,r76,go_sem,hw]
 refine CO.intro (z3B σ s.size (by omega)) ?_
 simp -implicitDefEqProofs only[go_sem,z78,row1,z06,hsz,hle]
 simp -implicitDefEqProofs only[go_sem,g0,s0,z06,hsz,←z08,List.length_append]
 refine Fini.ret3 (n:=0) rfl ?_ rfl
 show AV.osl σ.length ((putN s.size).length+s.size)=AV.osl σ.length (txtB s).length
 unfold txtB
 rw[List.length_append,hsz]
theorem z19 (s:ByteArray) (hs:s.size≤4294967280):Ans Tryz.prog 76 [Sx s] σ (.sl 1 (byv (txtB s))) σ :=
 (z3s σ s hs).shut (by rw[z06]) (z0M _ _)
end
theorem z0R (s:ByteArray) (h:s.size≤1000000):(txtB s).length≤10+s.size:=by
 have h10:=z0m (n:=s.size) (by omega)
 rw[txtB,List.length_append,z2d]
 omega
theorem z2Z {M:List Mtr} (h:listB M=true):M.length≤5∧∀x∈M,(1≤x.1∧x.1≤4)∧x.2.1.size≤12∧x.2.2.size≤40:=by
 unfold listB at h
 simp only[Bool.and_eq_true,decide_eq_true_eq]at h
 refine⟨h.1,fun x hx=>?_⟩
 obtain⟨i,hi,rfl⟩:=List.getElem_of_mem hx
 have h2:=List.all_eq_true.1 h.2 i (List.mem_range.2 hi)
 unfold okL isM at h2
 simp only[Bool.and_eq_true]at h2
 have e:M.getD i noM3=M[i]:=by rw[List.getD_eq_getElem?_getD,List.getElem?_eq_getElem hi];rfl
 rw[e]at h2
 exact zaQ h2.1
def preL (M:List Mtr) (i:Nat):Byt:=putN M.length++z17 putM (M.take i)
theorem z4j (M:List Mtr) (i:Nat) (h:i<M.length):preL M (i+1)=preL M i++putM M[i]:=by
 unfold preL z17
 rw[List.take_succ_eq_append_getElem h,List.flatMap_append,List.append_assoc]
 simp
theorem z30 (M:List Mtr):preL M M.length=putL M:=by unfold preL putL z2e;rw[List.take_length]
theorem z3C {M:List Mtr} (h:listB M=true):∀i,i≤M.length→(preL M i).length≤10+100*i
 |0,_=>by
  have:=(z2Z h).1
  unfold preL z17
  simp only[List.take_zero,List.flatMap_nil,List.append_nil]
  have:=z0m (n:=M.length) (by omega)
  omega
 |i+1,hi=>by
  have ih:=z3C h i (by omega)
  have hx:=(z2Z h).2 M[i] (List.getElem_mem (by omega))
  have h1:=z0R (M[i]).2.1 (by omega)
  have h2:=z0R (M[i]).2.2 (by omega)
  rw[z4j M i (by omega),List.length_append]
  unfold putM
  simp only[List.length_cons,List.length_append]
  omega
def z14 (M:List Mtr):Byt:=if listB M then putL M else[]
theorem z9w {k:Int} (h:1≤k∧k≤4):IntKind.u8.wrap k=((k.toNat.toUInt8.toNat:Nat):Int):=by
 obtain⟨n,rfl⟩:=Int.eq_ofNat_of_zero_le (show 0≤k by omega)
 have:n<256:=by omega
 rw[z3V,Nat.mod_eq_of_lt this,Int.toNat_natCast,toNat_toUInt8 this]
section
variable (σ:St)
theorem z3i (M:List Mtr):Ans Tryz.prog 69 [.sl 3 (mvs3 M)] σ (.sl 1 (byv (z14 M))) σ:=by
 unfold z14
 cases hL:listB M with
 |false =>
  have:Ans Tryz.prog 69 [.sl 3 (mvs3 M)] σ .nils σ:=by
   refine Ans.of_run t69 ?_
   simp -implicitDefEqProofs only[c69,r69,go_sem]
   refine CO.intro (z0V σ M) ?_
   rw[hL]
   simp -implicitDefEqProofs only[go_sem]
   exact Fini.ret rfl
  exact this.subR (.nils 1)
 |true =>
  obtain⟨h5,hM⟩:=z2Z hL
  have hpl:=z3C hL
  have hw:=z1x (n:=M.length) (by omega)
  have e00:preL M 0=putN M.length:=by simp[preL,z17]
  refine Ans.of_run' t69 (fun hbel _=>?_)
  simp -implicitDefEqProofs only[c69,r69,go_sem]
  refine CO.intro (z0V σ M) ?_
  rw[hL]
  simp -implicitDefEqProofs only[go_sem,z0g,hw]
  refine CO.intro (z5g σ M.length (by omega)) ?_
  simp -implicitDefEqProofs only[go_sem,z0g]
  refine Go.Ab.L.count M.length (fun i=>mkE 37 [(3,.osl σ.length (preL M i).length),(13,.sl 3 (mvs3 M)),(14,I M.length),(15,I i)]) (fun i=>σ++[.row 1 (byv (preL M i))]) ?_ ?_ (by rw[e00];rfl) (by rw[e00])
  · intro i hi J hJ
    have hx:=z5o M i hi
    have hxm:=hM M[i] (List.getElem_mem hi)
    have hp:=hpl (i+1) (by omega)
    rw[z4j M i hi]at hJ hp
    generalize M[i]=x at hx hxm hJ hp
    obtain⟨k,nm,v⟩:=x
    simp only at hxm
    generalize preL M i=pre at hJ hp⊢
    have hkb:=z9w hxm.1
    have hin:=wrap_succ (i:=i) (by omega)
    have h1:=z0R nm (by omega)
    have h2:=z0R v (by omega)
    unfold putM at hJ hp
    simp only[List.length_append,List.length_cons]at hp
    have l1:pre.length+1≤4294967296:=by omega
    have l2:pre.length+1+(txtB nm).length≤4294967296:=by omega
    have l3:pre.length+1+(txtB nm).length+(txtB v).length≤4294967296:=by omega
    simp -implicitDefEqProofs only[mkE,go_sem,z0g,z0r hi,dec_lt hi,hx,mv3,hkb,g0,s0,z06,l1,List.length_singleton]
    refine CO.intro (z1d _ nm (by omega)) ?_
    simp -implicitDefEqProofs only[go_sem,g0,s0,z06,z0b,bc,l1,l2,List.length_append,List.length_singleton]
    refine CO.intro (z1d _ v (by omega)) ?_
    simp -implicitDefEqProofs only[go_sem,g0,s0,z06,z0b,bc,l1,l2,l3,List.length_append,List.length_singleton,hin]
    have e:pre++k.toNat.toUInt8::(txtB nm++txtB v)=pre++[k.toNat.toUInt8]++txtB nm++txtB v:=by simp
    simp only at hJ
    rw[e]at hJ
    simp only[z08,List.length_append,List.length_singleton]at hJ
    exact hJ
  · intro J
    have d0:decide ((M.length:Int)<M.length)=false:=by simp
    simp -implicitDefEqProofs only[mkE,go_sem,d0,g0,s0,z06]
    exact Fini.trim2 (σ':=σ) (by rw[z30];rfl) rfl (Nat.le_refl _) (by first|exact z0M _ _|(rw[z30];exact z0M _ _)) hbel
theorem z4T (M:List Mtr) (hs:∀x∈M,x.2.1.size≤100000) (hL:listB M=true):Ans Tryz.prog 73 [.sl 3 (mvs3 M)] σ (.osl σ.length (putL M).length) (σ++[.row 1 (byv (putL M))]):=by
 obtain⟨h5,hM⟩:=z2Z hL
 have hpl:=z3C hL
 have hw:=z1x (n:=M.length) (by omega)
 have e00:preL M 0=putN M.length:=by simp[preL,z17]
 refine Ans.of_run' t73 (fun hbel _=>?_)
 simp -implicitDefEqProofs only[c73,r73,go_sem]
 refine CO.intro (z0K σ M hs) ?_
 rw[hL]
 simp -implicitDefEqProofs only[go_sem,z0g,hw]
 refine CO.intro (z3B σ M.length (by omega)) ?_
 simp -implicitDefEqProofs only[go_sem,z0g]
 refine Go.Ab.L.count M.length (fun i=>mkE 43 [(0,.sl 3 (mvs3 M)),(3,.osl σ.length (preL M i).length),(4,I i)]) (fun i=>σ++[.row 1 (byv (preL M i))]) ?_ ?_ (by rw[e00];rfl) (by rw[e00])
 · intro i hi J hJ
   have hx:=z5o M i hi
   have hxm:=hM M[i] (List.getElem_mem hi)
   have hp:=hpl (i+1) (by omega)
   rw[z4j M i hi]at hJ hp
   generalize M[i]=x at hx hxm hJ hp
   obtain⟨k,nm,v⟩:=x
   simp only at hxm
   generalize preL M i=pre at hJ hp⊢
   have hkb:=z9w hxm.1
   have hin:=wrap_succ (i:=i) (by omega)
   have h1:=z0R nm (by omega)
   have h2:=z0R v (by omega)
   unfold putM at hJ hp
   simp only[List.length_append,List.length_cons]at hp
   have l1:pre.length+1≤4294967296:=by omega
   have l2:pre.length+1+(txtB nm).length≤4294967296:=by omega
   have l3:pre.length+1+(txtB nm).length+(txtB v).length≤4294967296:=by omega
   simp -implicitDefEqProofs only[mkE,go_sem,z0g,z0r hi,dec_lt hi,hx,mv3,hkb,g0,s0,z06,l1,List.length_singleton]
   refine CD.intro (z19 _ nm (by omega)) ?_
   simp -implicitDefEqProofs only[go_sem,z0g,z0r hi,hx,mv3,g0,s0,z06,z0b,bc,l1,l2,List.length_append,List.length_singleton]
   refine CD.intro (z19 _ v (by omega)) ?_
   simp -implicitDefEqProofs only[go_sem,g0,s0,z06,z0b,bc,l1,l2,l3,List.length_append,List.length_singleton,hin]
   have e:pre++k.toNat.toUInt8::(txtB nm++txtB v)=pre++[k.toNat.toUInt8]++txtB nm++txtB v:=by simp
   simp only at hJ
   rw[e]at hJ
   simp only[z08,List.length_append,List.length_singleton]at hJ
   exact hJ
 · intro J
   have d0:decide ((M.length:Int)<M.length)=false:=by simp
   simp -implicitDefEqProofs only[mkE,go_sem,d0,z0g,g0,s0,z06]
   exact Fini.ret3 (n:=0) rfl (by rw[z30];rfl) (by rw[z30])
theorem z4U (M:List Mtr) (hs:∀x∈M,x.2.1.size≤100000):Ans Tryz.prog 73 [.sl 3 (mvs3 M)] σ (.sl 1 (byv (z14 M))) σ:=by
 unfold z14
 cases hL:listB M with
 |false =>
  have:Ans Tryz.prog 73 [.sl 3 (mvs3 M)] σ .nils σ:=by
   refine Ans.of_run t73 ?_
   simp -implicitDefEqProofs only[c73,r73,go_sem]
   refine CO.intro (z0K σ M hs) ?_
   rw[hL]
   simp -implicitDefEqProofs only[go_sem]
   exact Fini.ret rfl
  exact this.subR (.nils 1)
 |true=>exact(z4T σ M hs hL).shut (by rw[z06]) (z0M _ _)
end
def putV (u:Nat):Byt:=wrdB (bitsF u)
abbrev Bnd:=Bool×Nat×Nat
def putBd (x:Bnd):Byt:=if x.1 then[1] else 0::(putV x.2.1++putV x.2.2)
theorem z4V {a:Nat} (h:bitsF a=0):a=0:=by
 unfold bitsF at h
 split at h
 · cases h
 · exact h
def putR (r:RuM):Byt:=putL r.src++(putL r.tgt++(putBd (r.any,r.lo,r.hi)++z2e txtB r.eq))
theorem z4W {s:ByteArray} (h:nameB s=true):s.size≤12:=by
 unfold nameB at h
 simp only[Bool.and_eq_true,decide_eq_true_eq]at h
 exact h.1.1.2
theorem zcQ {e:List ByteArray} (h:eqB e=true):e.length≤4∧∀a∈e,a.size≤12:=by
 unfold eqB at h
 simp only[Bool.and_eq_true,decide_eq_true_eq]at h
 refine⟨h.1,fun a ha=>?_⟩
 obtain⟨i,hi,rfl⟩:=List.getElem_of_mem ha
 have h2:=List.all_eq_true.1 h.2 i (List.mem_range.2 hi)
 unfold eqOk at h2
 simp only[Bool.and_eq_true]at h2
 have e2:e.getD i ⟨#[]⟩=e[i]:=by rw[List.getD_eq_getElem?_getD,List.getElem?_eq_getElem hi];rfl
 rw[e2]at h2
 exact z4W h2.1
theorem z32 {r:RuM} (h:ruIs r=true):listB r.src=true∧listB r.tgt=true∧mayB r.any r.lo r.hi=true∧(r.eq.length≤4∧∀a∈r.eq,a.size≤12):=by
 unfold ruIs at h
 simp only[Bool.and_eq_true]at h
 exact⟨h.2.2.1,h.2.2.2.1,h.2.2.2.2.1,zcQ h.2.2.2.2.2⟩
end Go.Proofs.YtmkmhhjkdaklbaaGreat
namespace Go.Proofs.YtmkmhhjkdaklbaaGreat
open Go Go.Ab
set_option maxRecDepth 100000
def c17:ACode :=
 (sq_ [pr_ 2 (.allocm [.nils,.nils,.pl (.bool false),.pl (.float .f64 0),.pl (.float .f64 0),.nils]),
 pr_ 3 (mi_ .i64 0),
 pr_ 4 mf_]
 (sq_ [mv_ 9 0,
 c1_ 10 54 9,
 mv_ 5 10]
 (sq_ [mv_ 11 5,
 cl_ 12 55 [(.tmp 11),(.func 56)],
 mv_ 13 5,
 cl_ 14 55 [(.tmp 13),(.func 56)],
 mv_ 15 5,
 cl_ 16 57 [(.tmp 15),(.func 58)],
 pr_ 17 (.build [.nils,.nils,.pl (.bool false),.pl (.float .f64 0),.pl (.float .f64 0),.nils] [(0,1,(.tmp 12)),(1,1,(.tmp 14)),(2,3,(.tmp 16))]),
 pr_ 6 (.allocm [.nils,.nils,.pl (.bool false),.pl (.float .f64 0),.pl (.float .f64 0),.nils]),
 st_ (so_ 6 6 17)]
 (.seq (sq_ [mv_ 18 5,
 cl_ 19 59 [(.tmp 18),(.const (.int .u64 4))],
 pr_ 20 (mi_ .u64 0)]
 (.block 0 (.loop [0,1,3,4,7,8,9,10,11,12,13,14,15,16,17,18,21,22,23,24,25,26,27,28,29,30,31,32,33,34,35,36,37,38,39,40,41,42,43] (sq_ [pr_ 21 (bt_ .lss 20 19)]
 (.seq (.cond (.tmp 21)
 .skip
 (.exit 0))
 (.seq (.block 1 (.draw [⟨pr_ 22 (fa_ 5 6),[],false,0,1⟩,
 ⟨pr_ 23 (lf_ 1 22),[0],false,0,1⟩,
 ⟨mv_ 24 5,[],false,0,0⟩,
 ⟨cl_ 25 60 [(.tmp 24),(.const (.int .i64 12))],[2],true,0,0⟩,
 ⟨pr_ 26 (.bsl false 1 false 1 [.pl (.string .empty)] [(0,1,(.tmp 25))]),[2,3],false,1,1⟩,
 ⟨pr_ 27 (.app 1 (.tmp 23) (.tmp 26)),[0,1,2,3,4],true,0,0⟩,
 ⟨pr_ 28 (fa_ 5 6),(List.range 6),false,2,2⟩,
 ⟨st_ (so_ 1 28 27),(List.range 7),true,0,0⟩]))
 (.ops [pr_ 29 (bk_ .add 20 .u64 1),
 mv_ 20 29])))))))
 (.seq (.ghost (.shutc 6 5 1) (.ops [mv_ 30 5,
 pr_ 31 (lt_ 6 6),
 c1_ 32 51 31,
 cl_ 33 61 [(.tmp 30),(.tmp 32)]]))
 (sq_ [mv_ 35 5,
 c1_ 36 62 35,
 mv_ 34 36,
 pr_ 37 (ex_ 0 34),
 pr_ 38 (ex_ 1 34),
 mv_ 7 37,
 mv_ 8 38]
 (.seq (sq_ [mv_ 39 8,
 pr_ 40 (no_ 39)]
 (.cond (.tmp 40)
 (sq_ [pr_ 41 (.build [.nils,.nils,.pl (.bool false),.pl (.float .f64 0),.pl (.float .f64 0),.nils] []),
 st_ (so_ 6 2 41),
 pr_ 3 (mi_ .i64 0),
 pr_ 4 mf_]
 .ret)
 .skip))
 (sq_ [pr_ 42 (lt_ 6 6),
 mv_ 43 7,
 st_ (so_ 6 2 42),
 mv_ 3 43,
 pr_ 4 mt_]
 .ret))))))))
def o17:List Tmp:=[2,6]
def r17:List RV:=[.cell 2 6 true,.tmp 3,.tmp 4]
theorem t17:Text Tryz.prog 17 o17 c17 r17 44:=.mk_ Tryz.f17 rfl
def c19:ACode :=
 (sq_ [pr_ 1 (.boxr (.tmp 0)),
 pr_ 2 (.mov (.const (.slice none 0 0)))]
 (.seq (sq_ [pr_ 6 (lt_ 6 1),
 c1_ 7 51 6,
 pr_ 8 (no_ 7)]
 (.cond (.tmp 8)
 (sq_ [pr_ 2 (.mov (.const (.slice none 0 0)))]
 (.ghost (.shut 2) .ret))
 .skip))
 (.seq (.draw [⟨pr_ 9 (fa_ 0 1),[],false,0,0⟩,
 ⟨pr_ 10 (lf_ 1 9),[0],false,0,0⟩,
 ⟨c1_ 11 69 10,[0,1],true,0,0⟩,
 ⟨pr_ 12 (fa_ 1 1),[],false,0,1⟩,
 ⟨pr_ 13 (lf_ 1 12),[3],false,0,1⟩,
 ⟨c1_ 14 69 13,[0,1,2,3,4],true,0,0⟩,
 ⟨pr_ 15 (fa_ 2 1),[],false,0,2⟩,
 ⟨pr_ 16 (lt_ 3 15),[6],false,0,2⟩,
 ⟨c1_ 17 70 16,(List.range 8),true,0,0⟩,
 ⟨pr_ 18 (fa_ 5 1),[],false,0,3⟩,
 ⟨pr_ 19 (lf_ 1 18),[9],false,0,3⟩,
 ⟨pr_ 20 (.lenv (.tmp 19)),[9,10],false,0,3⟩,
 ⟨pr_ 21 (.convi .u64 (.tmp 20)),[9,10,11],false,0,3⟩,
 ⟨c1_ 22 71 21,(List.range 13),true,0,0⟩,
 ⟨pr_ 23 (.bsl false 1 false 4 [.nils] [(0,1,(.tmp 11)),(1,1,(.tmp 14)),(2,1,(.tmp 17)),(3,1,(.tmp 22))]),(List.range 14),false,4,4⟩,
 ⟨c1_ 24 68 23,(List.range 15),true,0,0⟩,
 ⟨mv_ 3 24,(List.range 16),false,5,5⟩])
 (.seq (sq_ [pr_ 25 (fa_ 5 1),
 pr_ 26 (lf_ 1 25),
 pr_ 27 (.lenv (.tmp 26)),
 pr_ 28 (mi_ .i64 0)]
 (.block 0 (.loop [0,1,2,4,5,6,7,8,9,10,11,12,13,14,15,16,17,18,19,20,21,22,23,24,25,29,30,31,32,33,34,35,36,37] (sq_ [pr_ 29 (bt_ .lss 28 27)]
 (.seq (.cond (.tmp 29)
 .skip
 (.exit 0))
 (.seq (.block 1 (sq_ [pr_ 30 (.iadrs 1 (.tmp 26) (.tmp 28)),
 pr_ 31 (lf_ 1 30),
 mv_ 5 31]
 (.ops [mv_ 32 3,
 mv_ 33 5,
 c1_ 34 72 33,
 pr_ 35 (.app 1 (.tmp 32) (.tmp 34)),
 mv_ 3 35])))
 (.ops [pr_ 36 (bk_ .add 28 .i64 1),
 mv_ 28 36])))))))
 (sq_ [mv_ 37 3,
 mv_ 2 37]
 (.ghost (.shut 2) .ret))))))
def o19:List Tmp:=[]
def r19:List RV:=[.tmp 2]
theorem t19:Text Tryz.prog 19 o19 c19 r19 38:=.mk_ Tryz.f19 rfl
def c55:ACode :=
 (sq_ [pr_ 4 (.mov (.const (.slice none 0 0)))]
 (sq_ [mv_ 10 1,
 mv_ 11 0,
 c1_ 12 112 11,
 ⟨some 13,none,.call (.tmp 10) [(.tmp 12)]⟩,
 mv_ 9 13,
 pr_ 14 (ex_ 0 9),
 pr_ 15 (ex_ 1 9),
 pr_ 16 (ex_ 2 9),
 mv_ 5 14,
 mv_ 6 15,
 mv_ 7 16]
 (.seq (sq_ [mv_ 17 0,
 mv_ 18 6,
 mv_ 19 7,
 cl_ 20 113 [(.tmp 17),(.tmp 18),(.tmp 19)],
 pr_ 21 (no_ 20)]
 (.cond (.tmp 21)
 (sq_ [pr_ 8 (.mov (.const (.slice none 0 0)))]
 (sq_ [mv_ 22 8,
 mv_ 4 22]
 .ret))
 .skip))
 (sq_ [mv_ 23 5,
 mv_ 4 23]
 .ret))))
def o55:List Tmp:=[]
def r55:List RV:=[.tmp 4]
theorem t55:Text Tryz.prog 55 o55 c55 r55 24:=.mk_ Tryz.f55 rfl
def c57:ACode :=
 (sq_ [pr_ 4 (.allocm [.pl (.bool false),.pl (.float .f64 0),.pl (.float .f64 0)])]
 (sq_ [mv_ 10 1,
 mv_ 11 0,
 c1_ 12 112 11,
 ⟨some 13,none,.call (.tmp 10) [(.tmp 12)]⟩,
 mv_ 9 13,
 pr_ 14 (ex_ 0 9),
 pr_ 15 (ex_ 1 9),
 pr_ 16 (ex_ 2 9),
 ⟨some 5,none,.fresh 3 5 (.tmp 14)⟩,
 mv_ 6 15,
 mv_ 7 16]
 (.seq (sq_ [mv_ 17 0,
 mv_ 18 6,
 mv_ 19 7,
 cl_ 20 113 [(.tmp 17),(.tmp 18),(.tmp 19)],
 pr_ 21 (no_ 20)]
 (.cond (.tmp 21)
 (sq_ [pr_ 8 (.allocm [.pl (.bool false),.pl (.float .f64 0),.pl (.float .f64 0)])]
 (sq_ [pr_ 22 (lt_ 3 8),
 st_ (so_ 3 4 22)]
 .ret))
 .skip))
 (sq_ [pr_ 23 (lt_ 3 5),
 st_ (so_ 3 4 23)]
 .ret))))
def o57:List Tmp:=[4]
def r57:List RV:=[.cell 4 3 true]
theorem t57:Text Tryz.prog 57 o57 c57 r57 24:=.mk_ Tryz.f57 rfl
def c58:ACode :=
 (sq_ [pr_ 2 (.allocm [.pl (.bool false),.pl (.float .f64 0),.pl (.float .f64 0)]),
 pr_ 3 (mi_ .i64 0),
 pr_ 4 mf_]
 (sq_ [mv_ 9 0,
 c1_ 10 54 9,
 mv_ 5 10]
 (sq_ [pr_ 6 (.allocm [.pl (.bool false),.pl (.float .f64 0),.pl (.float .f64 0)])]
 (.seq (sq_ [mv_ 11 5,
 c1_ 12 83 11]
 (.block 0 (sq_ [pr_ 16 (bk_ .eql 12 .u8 0),
 mv_ 15 16]
 (.cond (.tmp 15)
 (.ops [mv_ 17 5,
 c1_ 18 114 17,
 mv_ 19 5,
 c1_ 20 114 19,
 pr_ 21 (fa_ 1 6),
 st_ (so_ 1 21 18),
 pr_ 22 (fa_ 2 6),
 st_ (so_ 1 22 20)])
 (sq_ [pr_ 24 (bk_ .eql 12 .u8 1),
 mv_ 23 24]
 (.cond (.tmp 23)
 (.ops [pr_ 25 (fa_ 0 6),
 st_ (.store 1 (.tmp 25) (.const (.bool true)))])
 (.ops [mv_ 13 5,
 cl_ 14 61 [(.tmp 13),(.const (.bool false))]])))))))
 (sq_ [mv_ 26 5,
 pr_ 27 (lt_ 3 6),
 c1_ 28 107 27,
 cl_ 29 61 [(.tmp 26),(.tmp 28)]]
 (sq_ [mv_ 31 5,
 c1_ 32 62 31,
 mv_ 30 32,
 pr_ 33 (ex_ 0 30),
 pr_ 34 (ex_ 1 30),
 mv_ 7 33,
 mv_ 8 34]
 (.seq (sq_ [mv_ 35 8,
 pr_ 36 (no_ 35)]
 (.cond (.tmp 36)
 (sq_ [pr_ 37 (.build [.pl (.bool false),.pl (.float .f64 0),.pl (.float .f64 0)] []),
 st_ (so_ 3 2 37),
 pr_ 3 (mi_ .i64 0),
 pr_ 4 mf_]
 .ret)
 .skip))
 (sq_ [pr_ 38 (lt_ 3 6),
 mv_ 39 7,
 st_ (so_ 3 2 38),
 mv_ 3 39,
 pr_ 4 mt_]
 .ret))))))))
def o58:List Tmp:=[2,6]
def r58:List RV:=[.cell 2 3 true,.tmp 3,.tmp 4]
theorem t58:Text Tryz.prog 58 o58 c58 r58 40:=.mk_ Tryz.f58 rfl
def c68:ACode :=
 (sq_ [pr_ 2 (.mov (.const (.slice none 0 0)))]
 (sq_ [pr_ 3 (mi_ .i64 0)]
 (.seq (sq_ [mv_ 9 0,
 pr_ 10 (.lenv (.tmp 9)),
 pr_ 11 (mi_ .i64 0)]
 (.block 0 (.loop [1,2,4,5,6,7,8,12,13,14,15,16,17,18,19,20,21,22,23,24,25,26,27,28,29,30,31,32,33,34,35] (sq_ [pr_ 12 (bt_ .lss 11 10)]
 (.seq (.cond (.tmp 12)
 .skip
 (.exit 0))
 (.seq (.block 1 (sq_ [pr_ 13 (.iadrs 1 (.tmp 9) (.tmp 11)),
 pr_ 14 (lf_ 1 13),
 mv_ 5 14]
 (sq_ [mv_ 15 3,
 mv_ 16 5,
 pr_ 17 (.lenv (.tmp 16)),
 pr_ 18 (bt_ .add 15 17),
 mv_ 3 18]
 (sq_ [mv_ 19 3,
 pr_ 20 (bk_ .lss 19 .i64 0)]
 (.cond (.tmp 20)
 (.ops [pr_ 21 (.bad),
 st_ (.bad)])
 .skip)))))
 (.ops [pr_ 22 (bk_ .add 11 .i64 1),
 mv_ 11 22])))))))
 (sq_ [mv_ 23 3,
 cl_ 24 122 [(.const (.slice none 0 0)),(.tmp 23)],
 mv_ 6 24]
 (.seq (sq_ [mv_ 25 0,
 pr_ 26 (.lenv (.tmp 25)),
 pr_ 27 (mi_ .i64 0)]
 (.block 2 (.loop [0,1,2,3,4,5,7,8,9,10,11,12,13,14,15,16,17,18,19,20,21,22,23,24,28,29,30,31,32,33,34,35] (sq_ [pr_ 28 (bt_ .lss 27 26)]
 (.seq (.cond (.tmp 28)
 .skip
 (.exit 2))
 (.seq (.block 3 (sq_ [pr_ 29 (.iadrs 1 (.tmp 25) (.tmp 27)),
 pr_ 30 (lf_ 1 29),
 mv_ 8 30]
 (.ops [mv_ 31 6,
 mv_ 32 8,
 pr_ 33 (.app 1 (.tmp 31) (.tmp 32)),
 mv_ 6 33])))
 (.ops [pr_ 34 (bk_ .add 27 .i64 1),
 mv_ 27 34])))))))
 (sq_ [mv_ 35 6,
 mv_ 2 35]
 .ret))))))
def o68:List Tmp:=[]
def r68:List RV:=[.tmp 2]
theorem t68:Text Tryz.prog 68 o68 c68 r68 36:=.mk_ Tryz.f68 rfl
def c70:ACode :=
 (sq_ [pr_ 1 (.boxr (.tmp 0)),
 pr_ 2 (.mov (.const (.slice none 0 0)))]
 (.seq (sq_ [pr_ 3 (fa_ 0 1),
 pr_ 4 (lf_ 1 3)]
 (.cond (.tmp 4)
 (sq_ [pr_ 5 (.bsl false 1 false 1 [.pl (.int .u8 0)] [(0,1,(.const (.int .u8 1)))]),
 mv_ 2 5]
 (.ghost (.shut 2) .ret))
 .skip))
 (.seq (.draw [⟨pr_ 6 (.bsl false 1 false 1 [.pl (.int .u8 0)] [(0,1,(.const (.int .u8 0)))]),[],false,0,4⟩,
 ⟨pr_ 7 (fa_ 1 1),[],false,0,0⟩,
 ⟨pr_ 8 (lf_ 1 7),[1],false,0,0⟩,
 ⟨c1_ 9 94 8,[1,2],true,0,0⟩,
 ⟨c1_ 10 93 9,[1,2,3],true,0,0⟩,
 ⟨pr_ 11 (fa_ 2 1),[],false,0,2⟩,
 ⟨pr_ 12 (lf_ 1 11),[5],false,0,2⟩,
 ⟨c1_ 13 94 12,[1,2,3,4,5,6],true,0,0⟩,
 ⟨c1_ 14 93 13,[1,2,3,4,5,6,7],true,0,0⟩,
 ⟨pr_ 15 (.bsl false 1 false 3 [.nils] [(0,1,(.tmp 6)),(1,1,(.tmp 10)),(2,1,(.tmp 14))]),(List.range 9),false,4,4⟩,
 ⟨c1_ 16 68 15,(List.range 10),true,0,0⟩,
 ⟨mv_ 2 16,(List.range 11),false,5,5⟩])
 (.ghost (.shut 2) .ret))))
def o70:List Tmp:=[]
def r70:List RV:=[.tmp 2]
theorem t70:Text Tryz.prog 70 o70 c70 r70 17:=.mk_ Tryz.f70 rfl
def c93:ACode :=
 (sq_ [pr_ 2 (.mov (.const (.slice none 0 0)))]
 (sq_ [pr_ 5 (.mks 1 false [.pl (.int .u8 0)] (.const (.int .i64 8)) (.const (.int .i64 8))),
 mv_ 3 5]
 (.seq (sq_ [mv_ 6 3,
 pr_ 7 (.lenv (.tmp 6)),
 pr_ 8 (mi_ .i64 0)]
 (.block 0 (.loop [1,2,4,5,6,9,10,11,12,13,14,15,16,17,18,19,20,21] (sq_ [pr_ 9 (bt_ .lss 8 7)]
 (.seq (.cond (.tmp 9)
 .skip
 (.exit 0))
 (.seq (.block 1 (sq_ [mv_ 10 8,
 mv_ 4 10]
 (.ops [mv_ 11 3,
 mv_ 12 4,
 mv_ 13 0,
 mv_ 14 4,
 pr_ 15 (.bin false .mul (.const (.int .i64 8)) (.tmp 14)),
 pr_ 16 (.bin false .sub (.const (.int .i64 56)) (.tmp 15)),
 pr_ 17 (bt_ .shr 13 16),
 pr_ 18 (.convi .u8 (.tmp 17)),
 pr_ 19 (.iadrs 1 (.tmp 11) (.tmp 12)),
 st_ (so_ 1 19 18)])))
 (.ops [pr_ 20 (bk_ .add 8 .i64 1),
 mv_ 8 20])))))))
 (sq_ [mv_ 21 3,
 mv_ 2 21]
 (.ghost (.shut 2) .ret)))))
def o93:List Tmp:=[]
def r93:List RV:=[.tmp 2]
theorem t93:Text Tryz.prog 93 o93 c93 r93 22:=.mk_ Tryz.f93 rfl
def c114:ACode :=
 (sq_ [pr_ 2 (.mov (.const (.float Go.FloatKind.f64 0)))]
 (sq_ [mv_ 6 0,
 c1_ 7 140 6,
 c1_ 8 139 7,
 mv_ 5 8,
 pr_ 9 (ex_ 0 5),
 pr_ 10 (ex_ 1 5),
 mv_ 3 9,
 mv_ 4 10]
 (sq_ [mv_ 11 0,
 mv_ 12 4,
 cl_ 13 61 [(.tmp 11),(.tmp 12)]]
 (sq_ [mv_ 14 3,
 mv_ 2 14]
 .ret))))
def o114:List Tmp:=[]
def r114:List RV:=[.tmp 2]
theorem t114:Text Tryz.prog 114 o114 c114 r114 15:=.mk_ Tryz.f114 rfl
def c122:ACode :=
 (sq_ [pr_ 4 (.mov (.const (.slice none 0 0)))]
 (.seq (sq_ [mv_ 5 1,
 pr_ 6 (bk_ .lss 5 .i64 0)]
 (.cond (.tmp 6)
 (.ops [pr_ 7 (.bad),
 st_ (.bad)])
 .skip))
 (.seq (sq_ [mv_ 8 1,
 mv_ 9 0,
 pr_ 10 (.capn (.tmp 9)),
 mv_ 11 0,
 pr_ 12 (.lenv (.tmp 11)),
 pr_ 13 (bt_ .sub 10 12),
 pr_ 14 (bt_ .sub 8 13),
 mv_ 1 14]
 (sq_ [mv_ 15 1,
 pr_ 16 (bk_ .gtr 15 .i64 0)]
 (.cond (.tmp 16)
 (.ops [mv_ 17 0,
 mv_ 18 0,
 pr_ 19 (.capn (.tmp 18)),
 pr_ 20 (.slco 1 (.tmp 17) none (some (.tmp 19))),
 mv_ 21 1,
 pr_ 22 (.appz 1 false [.pl (.int .u8 0)] (.tmp 20) (.tmp 21)),
 mv_ 23 0,
 pr_ 24 (.lenv (.tmp 23)),
 pr_ 25 (.slco 1 (.tmp 22) none (some (.tmp 24))),
 mv_ 0 25])
 .skip)))
 (sq_ [mv_ 26 0,
 mv_ 4 26]
 .ret))))
def o122:List Tmp:=[20,25]
def r122:List RV:=[.tmp 4]
theorem t122:Text Tryz.prog 122 o122 c122 r122 27:=.mk_ Tryz.f122 rfl
def c139:ACode :=
 (sq_ [pr_ 2 (.mov (.const (.float Go.FloatKind.f64 0))),
 pr_ 3 mf_]
 (sq_ [mv_ 5 0,
 c1_ 6 151 5,
 mv_ 4 6]
 (.seq (sq_ [mv_ 7 4,
 c1_ 8 94 7,
 mv_ 9 0,
 pr_ 10 (bt_ .neq 8 9)]
 (.cond (.tmp 10)
 (sq_ [pr_ 2 (.mov (.const (.float Go.FloatKind.f64 0))),
 pr_ 3 mf_]
 .ret)
 .skip))
 (sq_ [mv_ 11 4,
 mv_ 2 11,
 pr_ 3 mt_]
 .ret))))
def o139:List Tmp:=[]
def r139:List RV:=[.tmp 2,.tmp 3]
theorem t139:Text Tryz.prog 139 o139 c139 r139 12:=.mk_ Tryz.f139 rfl
def c140:ACode :=
 (sq_ [pr_ 2 (mi_ .u64 0)]
 (sq_ [mv_ 6 0,
 c1_ 7 112 6,
 c1_ 8 158 7,
 mv_ 5 8,
 pr_ 9 (ex_ 0 5),
 pr_ 10 (ex_ 1 5),
 mv_ 3 9,
 mv_ 4 10]
 (.seq (sq_ [mv_ 11 0,
 mv_ 12 4,
 cl_ 13 113 [(.tmp 11),(.const (.int .i64 8)),(.tmp 12)],
 pr_ 14 (no_ 13)]
 (.cond (.tmp 14)
 (sq_ [pr_ 2 (mi_ .u64 0)]
 .ret)
 .skip))
 (sq_ [mv_ 15 3,
 mv_ 2 15]
 .ret))))
def o140:List Tmp:=[]
def r140:List RV:=[.tmp 2]
theorem t140:Text Tryz.prog 140 o140 c140 r140 16:=.mk_ Tryz.f140 rfl
def c158:ACode :=
 (sq_ [pr_ 2 (mi_ .u64 0),
 pr_ 3 mf_]
 (.seq (sq_ [mv_ 7 0,
 pr_ 8 (.lenv (.tmp 7)),
 pr_ 9 (bk_ .lss 8 .i64 8)]
 (.cond (.tmp 9)
 (sq_ [pr_ 2 (mi_ .u64 0),
 pr_ 3 mf_]
 .ret)
 .skip))
 (sq_ [pr_ 4 (mi_ .u64 0)]
 (.seq (sq_ [mv_ 10 0,
 pr_ 11 (.slcv 1 (.tmp 10) none (some (.const (.int .i64 8)))),
 pr_ 12 (.lenv (.tmp 11)),
 pr_ 13 (mi_ .i64 0)]
 (.block 0 (.loop [0,1,2,3,5,6,7,8,9,10,14,15,16,17,18,19,20,21,22,23] (sq_ [pr_ 14 (bt_ .lss 13 12)]
 (.seq (.cond (.tmp 14)
 .skip
 (.exit 0))
 (.seq (.block 1 (sq_ [pr_ 15 (.iadrs 1 (.tmp 11) (.tmp 13)),
 pr_ 16 (lf_ 1 15),
 mv_ 6 16]
 (.ops [mv_ 17 4,
 pr_ 18 (bk_ .shl 17 .u64 8),
 mv_ 19 6,
 pr_ 20 (.convi .u64 (.tmp 19)),
 pr_ 21 (bt_ .or 18 20),
 mv_ 4 21])))
 (.ops [pr_ 22 (bk_ .add 13 .i64 1),
 mv_ 13 22])))))))
 (sq_ [mv_ 23 4,
 mv_ 2 23,
 pr_ 3 mt_]
 .ret)))))
def o158:List Tmp:=[]
def r158:List RV:=[.tmp 2,.tmp 3]
theorem t158:Text Tryz.prog 158 o158 c158 r158 24:=.mk_ Tryz.f158 rfl
end Go.Proofs.YtmkmhhjkdaklbaaGreat
namespace Go.Ab
open Go
section
variable {P:Program} {f:FuncId} {args:List AV} {σ:St}
theorem Ans.shutAt {sz n l:Nat} {xs:List AV} {ex:St} (h:Ans P f args σ (.osl l n) (σ++ex)) (hl:σ.length≤l) (hget:(σ++ex)[l]?=some (.row sz xs)) (hn:n=xs.length) (hb:Bel σ.length (.sl sz xs)):Ans P f args σ (.sl sz xs) σ:=by
 intro M ν w vs g hvs
 have hs:sealV (σ++ex) (.osl l n)=some (.sl sz xs,(σ++ex).set l .dead):=by
  simp only[sealV,hget,hn,if_true]
 have ht:((σ++ex).set l .dead).take σ.length=σ:=by
  rw[List.set_append_right _ _ hl,List.take_left]
 have key:∀v w',After M σ ν w (.osl l n) (σ++ex) v w'→After M σ ν w (.sl sz xs) σ v w':=by
  rintro v w' ⟨M',ν',g',l',r1⟩
  obtain⟨M2,g2,l2,r2⟩:=z2O g' hs r1
  have hbo:∀o∈((σ++ex).set l .dead).take σ.length,BelO σ.length o:=by rw[ht];exact g.bel
  have g3:=g2.take hbo
  have l3:=(l'.trans l2).take (m:=σ.length) (Nat.le_refl _)
  have r3:=r2.take hb
  rw[ht]at g3 l3 r3
  exact⟨M2,ν',g3,l3,r3⟩
 rcases h M ν w vs g hvs with⟨h1,h2⟩|⟨v,w',h1,h2⟩
 · exact .inl ⟨h1,h2.mono fun e w' ⟨v,he,h3⟩=>⟨v,he,key v w' h3⟩⟩
 · exact .inr ⟨v,w',h1,key v w' h2⟩
end
end Go.Ab
namespace Go.Proofs.YtmkmhhjkdaklbaaGreat
open Go Go.Ab Go.Cod
set_option maxRecDepth 100000
abbrev Zb:AV:=.pl (.int .u8 0)
abbrev bsv (bs:List Byt):List AV:=bs.map fun b=>.sl 1 (byv b)
theorem z3j (bs:List Byt):(bsv bs).length=bs.length:=List.length_map ..
theorem z9x (bs:List Byt) (i:Nat) (h:i<bs.length):(bsv bs)[i]?=some (.sl 1 (byv bs[i])):=by simp[h]
theorem z63 (bs:List Byt) (i:Nat) (h:i<bs.length):(bs.take (i+1)).flatten=(bs.take i).flatten++bs[i]:=by
 rw[List.take_succ_eq_append_getElem h,List.flatten_append];simp
theorem z9y (bs:List Byt) (i:Nat):((bs.take i).flatten).length≤bs.flatten.length:=by
 have:bs.flatten=(bs.take i).flatten++(bs.drop i).flatten:=by rw[←List.flatten_append,List.take_append_drop]
 rw[this,List.length_append];omega
section
variable (σ:St)
theorem zaR (n:Nat) (h:0<n) (hn:n≤1000000):Ans Tryz.prog 122 [.nils,I n] σ (.osl (σ.length+1) 0) (σ++[.dead,.row 1 []]):=by
 have d0:decide ((n:Int)<0)=false:=by simp
 have w1:IntKind.i64.wrap (n:Int)=n:=wrapI (by omega)
 have d1:decide ((0:Int)<n)=true:=by simp;omega
 have hz:((n:Int)=0)=False:=eq_false (by omega)
 have hp:((0:Int)<n)=True:=eq_true (by omega)
 have hle:((n:Int)≤4294967296)=True:=eq_true (by omega)
 have hc:(chunks 1 false n (z07 [Zb] n)).length=n:=z0T _ _ _ _
 have z0:Int.toNat 0=0:=rfl
 refine Ans.of_run t122 ?_
 simp -implicitDefEqProofs only[c122,r122,go_sem,d0]
 have z0:Int.toNat 0=0:=rfl
 have z1:Int.toNat ((n:Nat):Int)=n:=Int.toNat_natCast n
 have w0:IntKind.i64.wrap 0=0:=rfl
 simp -implicitDefEqProofs only[go_sem,d0,Int.sub_zero,w1,d1,w0,hz,hp,hle,z0,z1,g0,s0,hc,List.take_zero,List.drop_zero,Int.natCast_nonneg,Int.le_refl,Nat.sub_zero,List.length_append,List.length_cons,List.length_nil,List.append_assoc,List.cons_append,List.nil_append]
 exact Fini.ret rfl
theorem z4X (bs:List Byt) (hl:bs.length≤100) (h0:0<bs.flatten.length) (h1:bs.flatten.length≤1000000) :
  Ans Tryz.prog 68 [.sl 1 (bsv bs)] σ (.osl (σ.length+1) bs.flatten.length) (σ++[.dead,.row 1 (byv bs.flatten)]):=by
 refine Ans.of_run t68 ?_
 simp -implicitDefEqProofs only[c68,r68,go_sem,z3j]
 refine Go.Ab.L.count bs.length (fun i=>mkE 36 [(0,.sl 1 (bsv bs)),(3,I ((bs.take i).flatten.length:Nat)),(9,.sl 1 (bsv bs)),(10,I bs.length),(11,I i)]) (fun _=>σ) ?_ ?_ rfl rfl
 · intro i hi J hJ
   have hf:=z9y bs (i+1)
   rw[z63 bs i hi]at hJ hf
   have hx:=z9x bs i hi
   rw[List.length_append]at hJ hf
   generalize bs[i]=c at hJ hf hx
   generalize (bs.take i).flatten.length=t at hJ hf⊢
   have ha:IntKind.i64.wrap ((t:Int)+(c.length:Int))=((t+c.length:Nat):Int):=by rw[wrapN (by omega) (by omega)];omega
   have d0:decide (((t+c.length:Nat):Int)<0)=false:=by simp;omega
   have hin:=wrap_succ (i:=i) (by omega)
   simp -implicitDefEqProofs only[mkE,go_sem,z3j,z0r hi,dec_lt hi,hx,z06,ha,d0,hin]
   exact hJ
 · intro J
   have d0:decide ((bs.length:Int)<bs.length)=false:=by simp
   simp -implicitDefEqProofs only[mkE,go_sem,z3j,d0,List.take_length]
   refine CO.intro (zaR σ bs.flatten.length h0 h1) ?_
   simp -implicitDefEqProofs only[go_sem,z3j]
   refine Go.Ab.L.count bs.length (fun i=>mkE 36 [(6,.osl (σ.length+1) (bs.take i).flatten.length),(25,.sl 1 (bsv bs)),(26,I bs.length),(27,I i)]) (fun i=>σ++[.dead,.row 1 (byv (bs.take i).flatten)]) ?_ ?_ rfl rfl
   · intro i hi J hJ
     have hf:=z9y bs (i+1)
     rw[z63 bs i hi]at hJ hf
     have hx:=z9x bs i hi
     rw[List.length_append]at hJ hf
     generalize bs[i]=c at hJ hf hx
     generalize (bs.take i).flatten=t at hJ hf⊢
     have hle:t.length+c.length≤4294967296:=by omega
     have hin:=wrap_succ (i:=i) (by omega)
     simp -implicitDefEqProofs only[mkE,go_sem,z3j,z0r hi,dec_lt hi,hx,z06,z0b,bc,hin,g1,s1,hle]
     simp only[z08]at hJ
     exact hJ
   · intro J
     simp -implicitDefEqProofs only[mkE,go_sem,z3j,d0,List.take_length]
     exact Fini.ret rfl
theorem z64 (bs:List Byt) (hl:bs.length≤100) (h0:0<bs.flatten.length) (h1:bs.flatten.length≤1000000) :
  Ans Tryz.prog 68 [.sl 1 (bsv bs)] σ (.sl 1 (byv bs.flatten)) σ :=
 (z4X σ bs hl h0 h1).shutAt (by omega) (by rw[List.getElem?_append_right (by omega)];simp) (by rw[z06]) (z0M _ _)
end
end Go.Proofs.YtmkmhhjkdaklbaaGreat
namespace Go.Proofs.YtmkmhhjkdaklbaaGreat
open Go Go.Ab Go.Cod
set_option maxRecDepth 100000
theorem zaS (l z:List AV) (i:Nat) (h:i<l.length) (hz:l.length=z.length):(l.take i++z.drop i).set i l[i]=l.take (i+1)++z.drop (i+1):=by
 have h1:(l.take i).length=i:=by rw[List.length_take];omega
 rw[List.set_append_right _ _ (by omega),h1,Nat.sub_self,List.drop_eq_getElem_cons (by omega),List.set_cons_zero,List.take_succ_eq_append_getElem h,List.append_assoc]
 rfl
def fillW (n i:Nat):List AV:=(byv (wrdB n)).take i++(List.replicate 8 Zb).drop i
theorem z18 (n:Nat):(wrdB n).length=8:=rfl
theorem z34 (n i:Nat) (h:i≤8):(fillW n i).length=8:=by
 unfold fillW
 rw[List.length_append,List.length_take,List.length_drop,z06,z18,List.length_replicate]
 omega
theorem z65 (n i:Nat) (h:i<8):(fillW n i).set i (bc (n/2^(56-8*i)).toUInt8)=fillW n (i+1):=by
 have e:(byv (wrdB n))[i]'(by rw[z06,z18];exact h)=bc (n/2^(56-8*i)).toUInt8:=by
  match i,h with
  |0,_=>rfl
  |1,_=>rfl
  |2,_=>rfl
  |3,_=>rfl
  |4,_=>rfl
  |5,_=>rfl
  |6,_=>rfl
  |7,_=>show bc n.toUInt8=bc (n/2^0).toUInt8;rw[Nat.pow_zero,Nat.div_one]
 have:=zaS (byv (wrdB n)) (List.replicate 8 Zb) i (by rw[z06,z18];exact h) (by rw[z06,z18,List.length_replicate])
 rw[e]at this
 exact this
theorem z66 (n i:Nat) (h:i<8):(fillW n i)[i]?=some Zb:=by
 unfold fillW
 have h1:((byv (wrdB n)).take i).length=i:=by rw[List.length_take,z06,z18];omega
 rw[List.getElem?_append_right (by omega),h1,Nat.sub_self,List.getElem?_drop,List.getElem?_replicate,if_pos (by omega)]
theorem mks8:(chunks 1 false (8:Int).toNat (z07 [Zb] (8:Int).toNat)).take (8:Int).toNat=List.replicate 8 Zb:=rfl
theorem shrN (n k:Nat) (h:k≤64):((n:Int).fdiv (2^min ((k:Nat):Int).toNat 64))=((n/2^k:Nat):Int):=by
 have:min ((k:Nat):Int).toNat 64=k:=by rw[Int.toNat_natCast];omega
 rw[this,Int.fdiv_eq_ediv_of_nonneg _ (Int.pow_nonneg (by decide))]
 push_cast;rfl
theorem zbo (n:Nat):IntKind.u8.wrap (n:Int)=((n.toUInt8.toNat:Nat):Int):=by
 rw[z3V,toUInt8_mod]
section
variable (σ:St)
theorem z2I (n:Nat):Ans Tryz.prog 93 [UN n] σ (.sl 1 (byv (wrdB n))) σ:=by
 refine Ans.of_run' t93 (fun hbel _=>?_)
 have z8:Int.toNat 8=8:=rfl
 simp -implicitDefEqProofs only[c93,r93,go_sem,mks8,z8,g0,s0,List.length_cons,List.length_nil]
 refine Go.Ab.L.count 8 (fun i=>mkE 22 [(0,UN n),(3,.osl σ.length 8),(7,I 8),(8,I i)]) (fun i=>σ++[.row 1 (fillW n i)]) ?_ ?_ rfl rfl
 · intro i hi J hJ
   have hl:=z34 n i (by omega)
   have d0:decide ((i:Int)<8)=true:=by simp;omega
   have w1:IntKind.i64.wrap (8*(i:Int))=((8*i:Nat):Int):=by rw[wrapN (by omega) (by omega)];push_cast;rfl
   have w2:IntKind.i64.wrap (56-((8*i:Nat):Int))=((56-8*i:Nat):Int):=by rw[wrapN (by omega) (by omega)];omega
   have h3:=shrN n (56-8*i) (by omega)
   rw[Int.toNat_natCast]at h3
   have hlt:((i:Int)<((8:Nat):Int))=True:=eq_true (by omega)
   have hget:(fillW n i)[i]?=some Zb:=z66 n i hi
   have hin:=wrap_succ (i:=i) (by omega)
   have hset:(fillW n i).set i (.pl (.int .u8 ((n/2^(56-8*i)).toUInt8.toNat:Nat)))=fillW n (i+1):=z65 n i hi
   simp -implicitDefEqProofs only[mkE,go_sem,d0,w1,w2,h3,zbo,g0,s0,hl,hin,hset,hlt,hget]
   exact hJ
 · intro J
   have hl:=z34 n 8 (by omega)
   have d0:decide (((8:Nat):Int)<8)=false:=by decide
   have e8:fillW n 8=byv (wrdB n):=by unfold fillW;rw[List.take_of_length_le (by rw[z06,z18];omega)];simp
   simp -implicitDefEqProofs only[mkE,go_sem,d0,g0,s0,hl,e8]
   exact Fini.trim2 (σ':=σ) rfl rfl (Nat.le_refl _) (z0M _ _) hbel
section
variable (p:Nat) (b:Byt) (q:Nat×Bool)
end
end
end Go.Proofs.YtmkmhhjkdaklbaaGreat
namespace Go.Proofs.YtmkmhhjkdaklbaaGreat
open Go Go.Ab
set_option maxRecDepth 100000
def vals8:List ByteArray:=values++[⟨#[]⟩]
abbrev Mz:=Int×ByteArray×ByteArray
abbrev dv (d:Int×Int×Int):AV:=.agg [I d.1,I d.2.1,I d.2.2]
section
variable (σ:St)
end
def allV:List ByteArray:=vals8++pats
instance:DecidableEq ByteArray:=fun a b=>decidable_of_iff (a.data=b.data) (by cases a;cases b;simp)
structure MOK (x:Mz):Prop where
 lo:1≤x.1
 hi:x.1≤4
 nm:x.2.1∈names
 low:x.1<3→x.2.2∈vals8
 high:¬x.1<3→x.2.2∈pats
theorem MOK.val {x:Mz} (h:MOK x):x.2.2∈allV:=by
 unfold allV
 by_cases h3:x.1<3
 · exact List.mem_append_left _ (h.low h3)
 · exact List.mem_append_right _ (h.high h3)
end Go.Proofs.YtmkmhhjkdaklbaaGreat
namespace Go.Proofs.YtmkmhhjkdaklbaaGreat
open Go Go.Ab Go.Cod
set_option maxRecDepth 100000
def bandV (b:Bool×Nat×Nat):AV:=.agg [Bo b.1,Fl b.2.1,Fl b.2.2]
section
variable (σ:St)
end
theorem g2 (σ:St) (x y z:Ob) (ex:St):(σ++x::y::z::ex)[σ.length+2]?=some z:=by rw[List.getElem?_append_right (by simp)];simp
theorem s2 (σ:St) (x y z u:Ob) (ex:St):(σ++x::y::z::ex).set (σ.length+2) u=σ++x::y::u::ex:=by rw[List.set_append_right _ _ (by simp)];simp
section
variable (σ:St)
end
section
variable (σ:St)
theorem z7q (n:Nat) (hn:n<18446744073709551616):Ans Tryz.prog 71 [UN n] σ (.sl 1 (byv (putN n))) σ:=(z5g σ n hn).shut (by rw[z06]) (z0M _ _)
theorem z4k (x:Bnd):Ans Tryz.prog 70 [bandV x] σ (.sl 1 (byv (putBd x))) σ:=by
 obtain⟨any,lo,hi⟩:=x
 refine Ans.of_run t70 ?_
 unfold bandV putBd
 cases any with
 |true =>
  simp -implicitDefEqProofs only[c70,r70,go_sem]
  exact Fini.ret rfl
 |false =>
  have hc:=fun s=>z64 s [[0],putV lo,putV hi] (by simp) (by simp) (by simp[putV,z18])
  have e:([[0],putV lo,putV hi]:List Byt).flatten=0::(putV lo++putV hi):=by simp
  rw[e]at hc
  have i1:=fun s=>z2r s lo
  have i2:=fun s=>z2r s hi
  have i3:=fun s=>z2I s (bitsF lo)
  have i4:=fun s=>z2I s (bitsF hi)
  simp -implicitDefEqProofs only[c70,r70,go_sem]
  first|refine CD.intro (i1 _) ?_|refine CS.intro i1 ?_
  simp -implicitDefEqProofs only[go_sem]
  first|refine CD.intro (i3 _) ?_|refine CS.intro i3 ?_
  simp -implicitDefEqProofs only[go_sem]
  first|refine CD.intro (i2 _) ?_|refine CS.intro i2 ?_
  simp -implicitDefEqProofs only[go_sem]
  first|refine CD.intro (i4 _) ?_|refine CS.intro i4 ?_
  simp -implicitDefEqProofs only[go_sem]
  refine CD.intro (hc _) ?_
  simp -implicitDefEqProofs only[go_sem]
  exact Fini.ret rfl
end
abbrev mlV (M:List Mtr):AV:=.sl 3 (mvs3 M)
section
variable (σ:St) (p:Nat) (b:Byt) (q:Nat×Bool)
end
def headR (r:RuM):Byt:=putL r.src++(putL r.tgt++(putBd (r.any,r.lo,r.hi)++putN r.eq.length))
def preR (r:RuM) (i:Nat):Byt:=headR r++z17 txtB (r.eq.take i)
theorem z4l (r:RuM) (i:Nat) (h:i<r.eq.length):preR r (i+1)=preR r i++txtB r.eq[i]:=by
 unfold preR z17
 rw[List.take_succ_eq_append_getElem h,List.flatMap_append,List.append_assoc]
 simp
theorem z5p (r:RuM):preR r r.eq.length=putR r:=by unfold preR putR headR z2e;rw[List.take_length];simp[List.append_assoc]
theorem z35 (r:RuM):preR r 0=headR r:=by unfold preR z17;simp
theorem z37 (x:Bnd):(putBd x).length≤17:=by
 unfold putBd
 split
 · simp
 · simp[putV,z18]
theorem z5q {M:List Mtr} (h:listB M=true):(putL M).length≤510:=by
 have:=z3C h M.length (Nat.le_refl _)
 rw[z30]at this
 have:=(z2Z h).1
 omega
theorem z5r (M:List Mtr):0<(putL M).length:=by
 have:=z3U M.length
 unfold putL z2e
 cases h:putN M.length with
 |nil=>exact absurd h this
 |cons a b=>simp
theorem z4m {r:RuM} (h:ruIs r=true):(headR r).length≤1050:=by
 obtain⟨h1,h2,h3,h4,h5⟩:=z32 h
 have:=z5q h1;have:=z5q h2;have:=z37 (r.any,r.lo,r.hi);have:=z0m (n:=r.eq.length) (by omega)
 unfold headR
 simp only[List.length_append];omega
theorem z3D {r:RuM} (h:ruIs r=true):∀i,i≤r.eq.length→(preR r i).length≤1050+30*i
 |0,_=>by rw[z35];have:=z4m h;omega
 |i+1,hi=>by
  have ih:=z3D h i (by omega)
  have hx:=(z32 h).2.2.2.2 r.eq[i] (List.getElem_mem (by omega))
  have h1:=z0R r.eq[i] (by omega)
  rw[z4l r i (by omega),List.length_append]
  omega
def z0S (r:RuM):Byt:=if ruIs r then putR r else[]
section
variable (σ:St)
theorem z6L (r:RuM):Ans Tryz.prog 19 [ruV r] σ (.sl 1 (byv (z0S r))) σ:=by
 have hi:=fun s=>z1h s r
 unfold z0S
 cases hR:ruIs r with
 |false =>
  have:Ans Tryz.prog 19 [ruV r] σ .nils σ:=by
   refine Ans.of_run t19 ?_
   unfold ruV at hi⊢
   simp -implicitDefEqProofs only[c19,r19,go_sem]
   refine CO.intro (hi _) ?_
   rw[hR]
   simp -implicitDefEqProofs only[go_sem]
   exact Fini.ret rfl
  exact this.subR (.nils 1)
 |true =>
  obtain⟨h1,h2,h3,h4,h5⟩:=z32 hR
  have hpl:=z3D hR
  have m1:=fun s=>z3i s r.src
  have m2:=fun s=>z3i s r.tgt
  have e1:z14 r.src=putL r.src:=by unfold z14;rw[h1];rfl
  have e2:z14 r.tgt=putL r.tgt:=by unfold z14;rw[h2];rfl
  rw[e1]at m1
  rw[e2]at m2
  have b1:=fun s=>z4k s (r.any,r.lo,r.hi)
  unfold bandV at b1
  have n1:=fun s=>z7q s r.eq.length (by omega)
  have hw:=z1x (n:=r.eq.length) (by omega)
  have hc:=fun s=>z4X s [putL r.src,putL r.tgt,putBd (r.any,r.lo,r.hi),putN r.eq.length] (by simp) (by
   have:=z5r r.src
   simp only[List.flatten_cons,List.length_append];omega) (by
   have:=z4m hR
   unfold headR at this
   simp only[List.length_append]at this
   simp only[List.flatten_cons,List.flatten_nil,List.append_nil,List.length_append];omega)
  have e3:([putL r.src,putL r.tgt,putBd (r.any,r.lo,r.hi),putN r.eq.length]:List Byt).flatten=preR r 0:=by
   rw[z35];simp[headR]
  rw[e3]at hc
  refine Ans.of_run' t19 (fun hbel _=>?_)
  unfold ruV at hi⊢
  simp -implicitDefEqProofs only[c19,r19,go_sem]
  refine CO.intro (hi _) ?_
  rw[hR]
  simp -implicitDefEqProofs only[go_sem]
  refine CD.intro (m1 _) ?_
  simp -implicitDefEqProofs only[go_sem]
  refine CD.intro (m2 _) ?_
  simp -implicitDefEqProofs only[go_sem]
  refine CD.intro (b1 _) ?_
  simp -implicitDefEqProofs only[go_sem,z0o,hw]
  refine CD.intro (n1 _) ?_
  simp -implicitDefEqProofs only[go_sem]
  refine CD.intro (hc _) ?_
  simp -implicitDefEqProofs only[go_sem,z0o]
  refine Go.Ab.L.count r.eq.length (fun i=>mkE 38 [(3,.osl (σ.length+1) (preR r i).length),(26,.sl 1 (txs r.eq)),(27,I r.eq.length),(28,I i)]) (fun i=>σ++[.dead,.row 1 (byv (preR r i))]) ?_ ?_ rfl rfl
  · intro i hi J hJ
    have hx:=z4h r.eq i hi
    have hs:=h5 r.eq[i] (List.getElem_mem hi)
    have hp:=hpl (i+1) (by omega)
    rw[z4l r i hi]at hJ hp
    generalize r.eq[i]=s at hx hs hJ hp
    generalize preR r i=pre at hJ hp⊢
    have hin:=wrap_succ (i:=i) (by omega)
    rw[List.length_append]at hp hJ
    have l1:pre.length+(txtB s).length≤4294967296:=by omega
    simp -implicitDefEqProofs only[mkE,go_sem,z0o,z0r hi,dec_lt hi,hx]
    refine CO.intro (z1d _ s (by omega)) ?_
    simp -implicitDefEqProofs only[go_sem,g1,s1,z06,z0b,bc,l1,hin]
    simp only[z08]at hJ
    exact hJ
  · intro J
    have d0:decide ((r.eq.length:Int)<r.eq.length)=false:=by simp
    simp -implicitDefEqProofs only[mkE,go_sem,d0,g1,s1,z06,z5p]
    exact Fini.trim2 (σ':=σ) (ex:=[_,_]) rfl rfl (Nat.le_refl _) (z0M _ _) hbel
end
theorem g3 (σ:St) (x y z u:Ob) (ex:St):(σ++x::y::z::u::ex)[σ.length+3]?=some u:=by rw[List.getElem?_append_right (by simp)];simp
theorem s3 (σ:St) (x y z u v:Ob) (ex:St):(σ++x::y::z::u::ex).set (σ.length+3) v=σ++x::y::z::v::ex:=by rw[List.set_append_right _ _ (by simp)];simp
def noRu:RuM:=⟨[],[],false,0,0,[]⟩
section
variable (σ:St)
end
end Go.Proofs.YtmkmhhjkdaklbaaGreat
namespace Go.Ab
open Go Go.ChangeShapes Go.WideShapes
theorem Reads.weak {P:Program} {t:TypeId} {f:Nat} {Q Q':List AV→Prop} (h:Reads P t f Q) (hq:∀xs,Q xs→∃ys,Q' ys∧Subs xs ys):Reads P t f Q':=by
 intro H enc W cs x hx
 obtain⟨xs,h1,h2⟩:=h H enc W cs x hx
 obtain⟨ys,h3,h4⟩:=hq xs h2
 exact⟨ys,h4.reps h1,h3⟩
def z7r:List AV→Prop:=fun xs=>∃n:Nat,xs=[.pl (.float .f64 n)]
theorem Reads.float {P:Program} {t:TypeId} (ht:P.underlying t=some (.float .f64)) (f:Nat):Reads P t f z7r:=by
 intro H enc W cs x h
 have:∃n,cs=[.float .f64 n]:=by
  cases f with
  |zero=>simp[DataW.trod]at h
  |succ n =>
   unfold DataW.trod at h
   rw[ht]at h
   split at h<;>simp_all
 obtain⟨n,rfl⟩:=this
 exact⟨_,z27 (.pl _),n,rfl⟩
def QSl (sz:Nat) (ag:Bool) (Q:List AV→Prop):List AV→Prop:=fun xs=>∃ys:List (List AV),(∀y∈ys,Q y)∧ys.length≤maxLen∧xs=[.sl sz (ys.map (wrapC ag))]
theorem QSlice.weak {sz:Nat} {ag:Bool} {Q:List AV→Prop} (xs:List AV) (h:QSlice sz ag Q xs):∃ys,QSl sz ag Q ys∧Subs xs ys:=by
 rcases h with rfl|⟨ys,h1,h2,rfl⟩
 · exact⟨_,⟨[],by simp,by simp,rfl⟩,.cons (.nils sz) .nil⟩
 · exact⟨_,⟨ys,h1,h2,rfl⟩,Subs.refl _⟩
end Go.Ab
namespace Go.Proofs.YtmkmhhjkdaklbaaGreat
open Go Go.Ab Go.ChangeShapes Go.WideShapes Go.ChangeAt Go.RowKit
set_option maxRecDepth 100000
theorem z7s:∀{ys:List (List AV)},(∀y∈ys,QText y)→∃ns:List ByteArray,ys.map (wrapC false)=txs ns
 |[],_=>⟨[],rfl⟩
 |y::ys,h=>by
  obtain⟨n,_,rfl⟩:=h y List.mem_cons_self
  obtain⟨ns,hns⟩:=z7s fun y hy=>h y (List.mem_cons_of_mem _ hy)
  exact⟨n::ns,by rw[List.map_cons,hns];rfl⟩
def zbp:List AV→Prop:=fun xs=>∃ns:List ByteArray,xs=[.sl 1 (txs ns)]
def QMtrs:List AV→Prop:=fun xs=>∃M:List Mtr,xs=[.sl 3 (mvs3 M)]
theorem z6M (f:Nat):Reads Tryz.prog 26 f zbp:=by
 cases f with
 |zero=>exact Reads.zero
 |succ f =>
  refine((Reads.slice (sz:=1) false Tryz.underlying26 (by kernel_rfl) (by decide) (Reads.text Tryz.underlying9 f) (fun y hy _=>by obtain⟨n,_,rfl⟩:=hy;rfl)).weak QSlice.weak).mono fun xs hq=>?_
  obtain⟨ys,h1,h2,rfl⟩:=hq
  obtain⟨ds,e⟩:=z7s h1
  exact⟨ds,by rw[e]⟩
theorem z3k (f:Nat):Reads Tryz.prog 22 f QMtrs:=by
 cases f with
 |zero=>exact Reads.zero
 |succ f =>
  refine((Reads.slice (sz:=3) true Tryz.underlying22 (by kernel_rfl) (by decide) (z9s f) (fun _ _ _=>rfl)).weak QSlice.weak).mono fun xs hq=>?_
  obtain⟨ys,h1,h2,rfl⟩:=hq
  obtain⟨ds,e⟩:=z9u h1
  exact⟨ds,by rw[e]⟩
def QBand:List AV→Prop:=fun xs=>∃(b:Bool) (lo hi:Nat),xs=[Bo b,Fl lo,Fl hi]
theorem z4Y (f:Nat):Reads Tryz.prog 25 f QBand:=by
 cases f with
 |zero=>exact Reads.zero
 |succ f =>
  have h:=Reads.struct (P:=Tryz.prog) (t:=25) (f:=f) (Qs:=[QBool,z7r,z7r]) Tryz.underlying25 (by kernel_rfl) rfl (by
   intro p hp
   simp only[List.zip_cons_cons,List.zip_nil_right,List.mem_cons,List.not_mem_nil,or_false]at hp
   rcases hp with rfl|rfl|rfl
   · exact Reads.bool Tryz.underlying4 f
   · exact Reads.float Tryz.underlying23 f
   · exact Reads.float Tryz.underlying23 f)
  refine h.mono fun xs hq=>?_
  obtain⟨_,_,rfl,⟨k,rfl⟩,_,_,rfl,⟨n,rfl⟩,_,_,rfl,⟨v,rfl⟩,rfl⟩:=hq
  exact⟨k,n,v,rfl⟩
def ruC (r:RuM):List AV:=[.sl 3 (mvs3 r.src),.sl 3 (mvs3 r.tgt),Bo r.any,Fl r.lo,Fl r.hi,.sl 1 (txs r.eq)]
def QRu:List AV→Prop:=fun xs=>∃r:RuM,xs=ruC r
theorem z88 (f:Nat):Reads Tryz.prog 28 f QRu:=by
 cases f with
 |zero=>exact Reads.zero
 |succ f =>
  have h:=Reads.struct (P:=Tryz.prog) (t:=28) (f:=f) (Qs:=[QMtrs,QMtrs,QBand,zbp]) Tryz.underlying28 (by kernel_rfl) rfl (by
   intro p hp
   simp only[List.zip_cons_cons,List.zip_nil_right,List.mem_cons,List.not_mem_nil,or_false]at hp
   rcases hp with rfl|rfl|rfl|rfl
   · exact z3k f
   · exact z3k f
   · exact z4Y f
   · exact z6M f)
  refine h.mono fun xs hq=>?_
  obtain⟨_,_,rfl,⟨M,rfl⟩,_,_,rfl,⟨N,rfl⟩,_,_,rfl,⟨b,lo,hi,rfl⟩,_,_,rfl,⟨e,rfl⟩,rfl⟩:=hq
  exact⟨⟨M,N,b,lo,hi,e⟩,rfl⟩
section
variable {H:Type} {enc:TypeId×Value→H} {W:World} {base:Nat} {v:Value} {d:DataW H} {ps:List MemPlace}
end
end Go.Proofs.YtmkmhhjkdaklbaaGreat
namespace Go.Proofs.YtmkmhhjkdaklbaaGreat
open Go Go.Ab Go.Cod
set_option maxRecDepth 100000
theorem z2i:∀(l:List (Nat×Nat)) (n:Nat),z0y l n≤301
 |[],n=>by simp only[z0y];omega
 |(a,b)::l,n=>by
  simp only[z0y]
  split
  · split
    · omega
    · exact z2i l _
  · omega
def z29:List ByteArray→Nat→Nat
 |[],n=>min n 301
 |s::l,n=>if n≤300 then if 300<s.size then 301 else z29 l (n+1+s.size) else 301
theorem z4Z:∀(l:List ByteArray) (n:Nat),z29 l n≤300→n+l.length≤300∧∀x∈l,x.size≤300
 |[],n,h=>by
  simp only[z29]at h
  refine⟨by simp;omega,by simp⟩
 |s::l,n,h=>by
  simp only[z29]at h
  split at h
  · split at h
    · omega
    · have:=z4Z l _ h
      refine⟨by simp;omega,fun x hx=>?_⟩
      rcases List.mem_cons.1 hx with rfl|hx
      · omega
      · exact this.2 x hx
  · omega
def z3t (r:RuM):Nat:=if z0y (r.src.map matP) 0≤300 then z0y (r.src.map matP) 0+z0y (r.tgt.map matP) 0 else z0y (r.src.map matP) 0
def z50 (r:RuM):Nat:=z29 r.eq (z3t r)
theorem z9z (r:RuM):z3t r≤700:=by
 have:=z2i (r.src.map matP) 0
 have:=z2i (r.tgt.map matP) 0
 unfold z3t
 split<;>omega
section
variable (σ:St)
theorem z5s (r:RuM):Ans Tryz.prog 15 [ruV r,I 300] σ (I (z50 r:Nat)) σ:=by
 have hw2:=z9z r
 obtain⟨src,tgt,any,lo,hi,eq⟩:=r
 unfold ruV
 simp only
 have h1:=fun σ=>z1P σ src
 have h2:=fun σ=>z1P σ tgt
 generalize hR:z50 ⟨src,tgt,any,lo,hi,eq⟩=R
 have hR':z29 eq (z3t ⟨src,tgt,any,lo,hi,eq⟩)=R:=hR
 have hx1:=z2i (src.map matP) 0
 have hx2:=z2i (tgt.map matP) 0
 have w0:IntKind.i64.wrap (300+1)=301:=by decide
 have w1:IntKind.i64.wrap 301=301:=by decide
 refine Ans.of_run t15 ?_
 simp -implicitDefEqProofs only[c15,r15,go_sem]
 refine CO.intro (h1 _) ?_
 unfold z3t at hR' hw2
 simp only at hR' hw2
 generalize z0y (src.map matP) 0=n1 at h1 hx1 hR' hw2⊢
 generalize z0y (tgt.map matP) 0=n2 at h2 hx2 hR' hw2⊢
 have hd:decide ((n1:Int)≤300)=decide (n1≤300):=z1q n1 300
 have hwd:IntKind.i64.wrap ((n1:Int)+(n2:Nat))=((n1+n2:Nat):Int):=by rw[wrapN (by omega) (by omega)];omega
 cases hb:decide (n1≤300) with
 |true =>
  rw[hb]at hd
  rw[if_pos (of_decide_eq_true hb)]at hR' hw2
  simp -implicitDefEqProofs only[go_sem,hd]
  refine CO.intro (h2 _) ?_
  simp -implicitDefEqProofs only[go_sem,hwd]
  generalize n1+n2=n0 at hR' hw2⊢
  refine Go.Ab.L.intro (α:={ x:Nat×Nat // x.1≤eq.length∧z29 (eq.drop x.1) x.2=R∧x.2≤1000∧x.1≤x.2 }) (fun x=>eq.length-x.1.1)
   (fun x=>mkE 55 [(1,I 300),(2,.rp [.sl 3 (mvs3 src),.sl 3 (mvs3 tgt),Bo any,Fl lo,Fl hi,.sl 1 (txs eq)]),(5,I x.1.2),(6,I x.1.1)])
   (fun _=>σ) (fun x J hJ=>?_) ⟨(0,n0),Nat.zero_le _,hR',by simp only;omega,Nat.zero_le _⟩ rfl rfl
  obtain⟨⟨i,n⟩,q1,q2,q3,q4⟩:=x
  simp only at q1 q2 q3 q4 hJ⊢
  have d2:decide ((n:Int)≤300)=decide (n≤300):=z1q n 300
  by_cases hi:i<eq.length
  · have hget:=z4h eq i hi
    rw[List.drop_eq_getElem_cons hi,z29]at q2
    have hJ':=fun m h1 h2 h3=>hJ ⟨(i+1,m),hi,h1,h2,h3⟩ (by simp only;omega)
    simp only at hJ'
    clear hJ
    generalize eq[i]=y at q2 hget hJ'
    by_cases hn:n≤300
    · rw[if_pos hn]at q2
      have e2:decide (n≤300)=true:=by simpa using hn
      rw[e2]at d2
      have d3:decide ((300:Int)<y.size)=decide (300<y.size):=decN 300 _
      by_cases ha:300<y.size
      · rw[if_pos ha]at q2
        rw[decide_eq_true ha]at d3
        simp -implicitDefEqProofs only[mkE,go_sem,z0o,z0r hi,dec_lt hi,d2,d3,hget,w0,w1]
        subst q2
        exact Fini.ret rfl
      · rw[if_neg ha]at q2
        rw[decide_eq_false ha]at d3
        have a1:IntKind.i64.wrap ((n:Int)+1)=((n+1:Nat):Int):=z0j (by omega)
        have a2:IntKind.i64.wrap (((n+1:Nat):Int)+(y.size:Nat))=((n+1+y.size:Nat):Int):=by rw[wrapN (by omega) (by omega)];omega
        have a4:IntKind.i64.wrap ((i:Int)+1)=((i+1:Nat):Int):=z0j (by omega)
        have hJ2:=hJ' _ q2 (by omega) (by omega)
        simp -implicitDefEqProofs only[mkE,go_sem,z0o,z0r hi,dec_lt hi,d2,d3,hget,a1,a2,a4]
        exact hJ2
    · rw[if_neg hn]at q2
      rw[decide_eq_false hn]at d2
      simp -implicitDefEqProofs only[mkE,go_sem,z0o,z0r hi,dec_lt hi,d2,w0,w1]
      refine Fini.ret' rfl (z1n ?_)
      split<;>omega
  · rw[List.drop_eq_nil_iff.2 (by omega),z29]at q2
    simp -implicitDefEqProofs only[mkE,go_sem,z0o,z91 hi,z92 hi,w0,w1]
    refine Fini.ret' rfl (z1n ?_)
    split<;>omega
 |false =>
  rw[hb]at hd
  rw[if_neg (of_decide_eq_false hb)]at hR' hw2
  simp -implicitDefEqProofs only[go_sem,hd]
  generalize n1=n0 at hR' hw2⊢
  refine Go.Ab.L.intro (α:={ x:Nat×Nat // x.1≤eq.length∧z29 (eq.drop x.1) x.2=R∧x.2≤1000∧x.1≤x.2 }) (fun x=>eq.length-x.1.1)
   (fun x=>mkE 55 [(1,I 300),(2,.rp [.sl 3 (mvs3 src),.sl 3 (mvs3 tgt),Bo any,Fl lo,Fl hi,.sl 1 (txs eq)]),(5,I x.1.2),(6,I x.1.1)])
   (fun _=>σ) (fun x J hJ=>?_) ⟨(0,n0),Nat.zero_le _,hR',by simp only;omega,Nat.zero_le _⟩ rfl rfl
  obtain⟨⟨i,n⟩,q1,q2,q3,q4⟩:=x
  simp only at q1 q2 q3 q4 hJ⊢
  have d2:decide ((n:Int)≤300)=decide (n≤300):=z1q n 300
  by_cases hi:i<eq.length
  · have hget:=z4h eq i hi
    rw[List.drop_eq_getElem_cons hi,z29]at q2
    have hJ':=fun m h1 h2 h3=>hJ ⟨(i+1,m),hi,h1,h2,h3⟩ (by simp only;omega)
    simp only at hJ'
    clear hJ
    generalize eq[i]=y at q2 hget hJ'
    by_cases hn:n≤300
    · rw[if_pos hn]at q2
      have e2:decide (n≤300)=true:=by simpa using hn
      rw[e2]at d2
      have d3:decide ((300:Int)<y.size)=decide (300<y.size):=decN 300 _
      by_cases ha:300<y.size
      · rw[if_pos ha]at q2
        rw[decide_eq_true ha]at d3
        simp -implicitDefEqProofs only[mkE,go_sem,z0o,z0r hi,dec_lt hi,d2,d3,hget,w0,w1]
        subst q2
        exact Fini.ret rfl
      · rw[if_neg ha]at q2
        rw[decide_eq_false ha]at d3
        have a1:IntKind.i64.wrap ((n:Int)+1)=((n+1:Nat):Int):=z0j (by omega)
        have a2:IntKind.i64.wrap (((n+1:Nat):Int)+(y.size:Nat))=((n+1+y.size:Nat):Int):=by rw[wrapN (by omega) (by omega)];omega
        have a4:IntKind.i64.wrap ((i:Int)+1)=((i+1:Nat):Int):=z0j (by omega)
        have hJ2:=hJ' _ q2 (by omega) (by omega)
        simp -implicitDefEqProofs only[mkE,go_sem,z0o,z0r hi,dec_lt hi,d2,d3,hget,a1,a2,a4]
        exact hJ2
    · rw[if_neg hn]at q2
      rw[decide_eq_false hn]at d2
      simp -implicitDefEqProofs only[mkE,go_sem,z0o,z0r hi,dec_lt hi,d2,w0,w1]
      refine Fini.ret' rfl (z1n ?_)
      split<;>omega
  · rw[List.drop_eq_nil_iff.2 (by omega),z29]at q2
    simp -implicitDefEqProofs only[mkE,go_sem,z0o,z91 hi,z92 hi,w0,w1]
    refine Fini.ret' rfl (z1n ?_)
    split<;>omega
end
end Go.Proofs.YtmkmhhjkdaklbaaGreat
namespace Go.Proofs.YtmkmhhjkdaklbaaGreat
open Go Go.Ab
set_option maxRecDepth 100000
def c48:ACode :=
 (sq_ [pr_ 2 (mi_ .u64 0)]
 (.seq (sq_ [mv_ 3 0,
 mv_ 4 0,
 pr_ 5 (bt_ .neq 3 4)]
 (.cond (.tmp 5)
 (sq_ [pr_ 2 (mi_ .u64 9221120237041090561)]
 .ret)
 .skip))
 (sq_ [mv_ 6 0,
 c1_ 7 47 6,
 mv_ 2 7]
 .ret)))
def o48:List Tmp:=[]
def r48:List RV:=[.tmp 2]
theorem t48:Text Tryz.prog 48 o48 c48 r48 8:=.mk_ Tryz.f48 rfl
def c67:ACode :=
 (sq_ [pr_ 1 (.boxr (.tmp 0)),
 pr_ 2 mf_]
 (.seq (sq_ [pr_ 4 (fa_ 0 1),
 pr_ 5 (lf_ 1 4),
 pr_ 6 (.lenv (.tmp 5)),
 pr_ 7 (bk_ .eql 6 .i64 0),
 mv_ 8 7,
 gp_ 9 8 false (fa_ 1 1),
 gp_ 10 8 false (lf_ 1 9),
 gp_ 11 8 false (.lenv (.tmp 10)),
 gp_ 12 8 false (bk_ .eql 11 .i64 0),
 pr_ 13 (po_ 8 12),
 mv_ 14 13,
 gp_ 15 14 false (fa_ 0 1),
 gp_ 16 14 false (lf_ 1 15),
 gc_ 17 14 false 117 [(.tmp 16)],
 gp_ 18 14 false (no_ 17),
 pr_ 19 (po_ 14 18),
 mv_ 20 19,
 gp_ 21 20 false (fa_ 1 1),
 gp_ 22 20 false (lf_ 1 21),
 gc_ 23 20 false 117 [(.tmp 22)],
 gp_ 24 20 false (no_ 23),
 pr_ 25 (po_ 20 24),
 mv_ 26 25,
 gp_ 27 26 false (fa_ 2 1),
 gp_ 28 26 false (lt_ 3 27),
 gc_ 29 26 false 120 [(.tmp 28)],
 gp_ 30 26 false (no_ 29),
 pr_ 31 (po_ 26 30),
 mv_ 32 31,
 gp_ 33 32 false (fa_ 5 1),
 gp_ 34 32 false (lf_ 1 33),
 gp_ 35 32 false (.lenv (.tmp 34)),
 gp_ 36 32 false (bk_ .gtr 35 .i64 4),
 pr_ 37 (po_ 32 36)]
 (.cond (.tmp 37)
 (sq_ [pr_ 2 mf_]
 .ret)
 .skip))
 (.seq (sq_ [pr_ 3 (mi_ .i64 0)]
 (.block 0 (.loop [0,2,4,5,6,7,8,9,10,11,12,13,14,15,16,17,18,19,20,21,22,23,24,25,26,27,28,29,30,31,32,33,34,35,36,37,38,39,40,41,42,43,44,45,46,47,48,49,50,51,52,53,54,55,56,57,58,59,60,61,62,63,64,65,66,67,68,69] (.seq (sq_ [mv_ 38 3,
 pr_ 39 (fa_ 5 1),
 pr_ 40 (lf_ 1 39),
 pr_ 41 (.lenv (.tmp 40)),
 pr_ 42 (bt_ .lss 38 41)]
 (.cond (.tmp 42)
 .skip
 (.exit 0)))
 (.seq (.block 1 (.seq (.draw [⟨pr_ 45 (fa_ 5 1),[],false,0,0⟩,
 ⟨pr_ 46 (lf_ 1 45),[0],false,0,0⟩,
 ⟨mv_ 47 3,[],false,0,0⟩,
 ⟨pr_ 48 (.iadrs 1 (.tmp 46) (.tmp 47)),[0,1,2],false,0,0⟩,
 ⟨pr_ 49 (lf_ 1 48),[0,1,2,3],false,0,0⟩,
 ⟨c1_ 50 121 49,[0,1,2,3,4],true,0,0⟩,
 ⟨pr_ 51 (no_ 50),(List.range 6),false,1,1⟩,
 ⟨mv_ 52 51,(List.range 7),false,1,1⟩,
 ⟨gp_ 53 52 false (mo_ 3),(List.range 8),false,1,1⟩,
 ⟨gp_ 54 52 false (bk_ .gtr 53 .i64 0),(List.range 9),false,1,1⟩,
 ⟨gp_ 55 52 false (mo_ 54),(List.range 10),false,1,1⟩,
 ⟨gp_ 56 55 true (fa_ 5 1),(List.range 11),false,1,1⟩,
 ⟨gp_ 57 55 true (lf_ 1 56),(List.range 12),false,1,1⟩,
 ⟨gp_ 58 55 true (mo_ 3),(List.range 11),false,1,1⟩,
 ⟨gp_ 59 55 true (.iadrs 1 (.tmp 57) (.tmp 58)),(List.range 14),false,1,1⟩,
 ⟨gp_ 60 55 true (lf_ 1 59),(List.range 15),false,1,1⟩,
 ⟨gp_ 61 55 true (fa_ 5 1),(List.range 11),false,1,1⟩,
 ⟨gp_ 62 55 true (lf_ 1 61),[0,1,2,3,4,5,6,7,8,9,10,16],false,1,1⟩,
 ⟨gp_ 63 55 true (mo_ 3),(List.range 11),false,1,1⟩,
 ⟨gp_ 64 55 true (bk_ .sub 63 .i64 1),[0,1,2,3,4,5,6,7,8,9,10,18],false,1,1⟩,
 ⟨gp_ 65 55 true (.iadrs 1 (.tmp 62) (.tmp 64)),[0,1,2,3,4,5,6,7,8,9,10,16,17,18,19],false,1,1⟩,
 ⟨gp_ 66 55 true (lf_ 1 65),[0,1,2,3,4,5,6,7,8,9,10,16,17,18,19,20],false,1,1⟩,
 ⟨gp_ 67 55 true (bt_ .leq 60 66),(List.range 22),false,1,1⟩,
 ⟨gp_ 68 52 false (pa_ 55 67),(List.range 23),false,1,1⟩,
 ⟨pr_ 69 (po_ 52 68),(List.range 24),false,1,1⟩])
 (.cond (.tmp 69)
 (sq_ [pr_ 2 mf_]
 .ret)
 .skip)))
 (.ops [mv_ 43 3,
 pr_ 44 (bk_ .add 43 .i64 1),
 mv_ 3 44]))))))
 (sq_ [pr_ 2 mt_]
 .ret))))
def o67:List Tmp:=[]
def r67:List RV:=[.tmp 2]
theorem t67:Text Tryz.prog 67 o67 c67 r67 70:=.mk_ Tryz.f67 rfl
def c120:ACode :=
 (sq_ [pr_ 1 (.boxr (.tmp 0)),
 pr_ 2 mf_]
 (.seq (sq_ [pr_ 3 (fa_ 0 1),
 pr_ 4 (lf_ 1 3)]
 (.cond (.tmp 4)
 (sq_ [pr_ 5 (fa_ 1 1),
 pr_ 6 (lf_ 1 5),
 c1_ 7 48 6,
 pr_ 8 (bk_ .eql 7 .u64 0),
 mv_ 9 8,
 gp_ 10 9 true (fa_ 2 1),
 gp_ 11 9 true (lf_ 1 10),
 gc_ 12 9 true 48 [(.tmp 11)],
 gp_ 13 9 true (bk_ .eql 12 .u64 0),
 pr_ 14 (pa_ 9 13),
 mv_ 2 14]
 .ret)
 .skip))
 (sq_ [pr_ 15 (fa_ 1 1),
 pr_ 16 (lf_ 1 15),
 pr_ 17 (fa_ 2 1),
 pr_ 18 (lf_ 1 17),
 pr_ 19 (bt_ .leq 16 18),
 mv_ 2 19]
 .ret)))
def o120:List Tmp:=[]
def r120:List RV:=[.tmp 2]
theorem t120:Text Tryz.prog 120 o120 c120 r120 20:=.mk_ Tryz.f120 rfl
end Go.Proofs.YtmkmhhjkdaklbaaGreat
namespace Go.Proofs.YtmkmhhjkdaklbaaGreat
open Go Go.Ab Go.Cod
set_option maxRecDepth 100000
section
variable (σ:St)
theorem z0t (a:Nat):Ans Tryz.prog 48 [Fl a] σ (UN (bitsF a)) σ:=by
 refine Ans.of_run t48 ?_
 unfold bitsF
 simp -implicitDefEqProofs only[c48,r48,go_sem,z7p]
 cases nanF a with
 |true =>
  simp -implicitDefEqProofs only[go_sem]
  exact Fini.ret rfl
 |false =>
  simp -implicitDefEqProofs only[go_sem]
  refine CO.intro (z4i σ a) ?_
  simp -implicitDefEqProofs only[go_sem]
  exact Fini.ret rfl
theorem z1i (any:Bool) (lo hi:Nat):Ans Tryz.prog 120 [.agg [Bo any,Fl lo,Fl hi]] σ (Bo (mayB any lo hi)) σ:=by
 refine Ans.of_run t120 ?_
 unfold mayB
 cases any with
 |true =>
  simp -implicitDefEqProofs only[c120,r120,go_sem]
  refine CO.intro (z0t σ lo) ?_
  cases h:(((bitsF lo:Nat):Int)==0) with
  |false =>
   simp -implicitDefEqProofs only[go_sem,h]
   exact Fini.ret rfl
  |true =>
   simp -implicitDefEqProofs only[go_sem,h]
   refine CO.intro (z0t σ hi) ?_
   simp -implicitDefEqProofs only[go_sem,h]
   exact Fini.ret rfl
 |false =>
  simp -implicitDefEqProofs only[c120,r120,go_sem,z9v]
  exact Fini.ret rfl
structure RSm (r:RuM):Prop where
 src:∀x∈r.src,x.2.1.size≤100000
 tgt:∀x∈r.tgt,x.2.1.size≤100000
 eq:∀s∈r.eq,s.size≤100000
theorem z15 (r:RuM) (hr:RSm r):Ans Tryz.prog 67 [ruV r] σ (Bo (ruIs r)) σ:=by
 obtain⟨src,tgt,any,lo,hi,eq⟩:=r
 obtain⟨hs,ht,he⟩:=hr
 simp only at hs ht he
 have d4:decide ((4:Int)<eq.length)=decide (4<eq.length):=decNN 4 _
 refine Ans.of_run t67 ?_
 unfold ruIs ruV
 simp only
 cases h1:(((src.length:Nat):Int)==0) with
 |true =>
  simp -implicitDefEqProofs only[c67,r67,go_sem,z0g,h1]
  exact Fini.ret rfl
 |false =>
 cases h2:(((tgt.length:Nat):Int)==0) with
 |true =>
  simp -implicitDefEqProofs only[c67,r67,go_sem,z0g,h1,h2]
  exact Fini.ret rfl
 |false =>
 simp -implicitDefEqProofs only[c67,r67,go_sem,z0g,h1,h2]
 refine CO.intro (z0K σ src hs) ?_
 cases h3:listB src with
 |false =>
  simp -implicitDefEqProofs only[go_sem]
  exact Fini.ret rfl
 |true =>
 simp -implicitDefEqProofs only[go_sem]
 refine CO.intro (z0K σ tgt ht) ?_
 cases h4:listB tgt with
 |false =>
  simp -implicitDefEqProofs only[go_sem]
  exact Fini.ret rfl
 |true =>
 simp -implicitDefEqProofs only[go_sem]
 refine CO.intro (z1i σ any lo hi) ?_
 cases h5:mayB any lo hi with
 |false =>
  simp -implicitDefEqProofs only[go_sem]
  exact Fini.ret rfl
 |true =>
 unfold eqB
 by_cases h6:eq.length≤4
 · have x4:decide (4<eq.length)=false:=decide_eq_false (by omega)
   rw[decide_eq_true h6]
   simp -implicitDefEqProofs only[go_sem,z0o,d4,x4]
   refine Go.Ab.L.scan eq.length (eqOk eq) (fun i=>mkE 70 [(1,.rp [.sl 3 (mvs3 src),.sl 3 (mvs3 tgt),Bo any,Fl lo,Fl hi,.sl 1 (txs eq)]),(3,I i)]) (fun _=>σ) ?_ ?_ rfl rfl
   · intro i hi hp J hJ
     have hx:=txs_D eq i hi
     have hsz:(eq.getD i ⟨#[]⟩).size≤100000:=by
      rw[List.getD_eq_getElem?_getD,List.getElem?_eq_getElem hi];exact he _ (List.getElem_mem hi)
     have hF:eqOk eq i=false→(List.range eq.length).all (eqOk eq)=false:=fun h=>List.all_eq_false.2 ⟨i,List.mem_range.2 hi,by rw[h];decide⟩
     have hin:=wrap_succ (i:=i) (by omega)
     have d0:decide ((0:Int)<i)=decide (0<i):=by rw[Bool.eq_iff_iff];simp
     have hO:eqOk eq i=(nameB (eq.getD i ⟨#[]⟩)&& !(decide (0<i)&&leS (eq.getD i ⟨#[]⟩) (eq.getD (i-1) ⟨#[]⟩))):=rfl
     rw[hO]at hJ hF
     have hnm:=fun σ=>z4f σ (eq.getD i ⟨#[]⟩) hsz
     simp -implicitDefEqProofs only[mkE,go_sem,z0o,z0r hi,dec_lt hi,hx,z0p]
     first|refine CD.intro (hnm _) ?_|refine CS.intro hnm ?_
     generalize eq.getD i ⟨#[]⟩=s at hJ hF hx
     cases hb:nameB s with
     |false =>
      rw[hb]at hF
      rw[hF rfl]
      simp -implicitDefEqProofs only[go_sem]
      exact Fini.ret rfl
     |true =>
      rw[hb]at hJ hF
      by_cases hz:i=0
      · subst hz
        have hgo:=hJ rfl
        simp -implicitDefEqProofs only[go_sem,d0,hin]
        exact hgo
      · have hpos:decide (0<i)=true:=decide_eq_true (by omega)
        have hx1:=txs_D eq (i-1) (by omega)
        have w1:IntKind.i64.wrap ((i:Int)-1)=((i-1:Nat):Int):=by rw[wrapN (by omega) (by omega)];omega
        have hlt1:(((i-1:Nat):Int)<eq.length)=True:=by simp;omega
        rw[hpos]at hJ hF
        generalize eq.getD (i-1) ⟨#[]⟩=s1 at hJ hF hx1
        have hle:(Op.bytesLess s.toList s1.toList||s.toList==s1.toList)=leS s s1:=rfl
        simp -implicitDefEqProofs only[go_sem,d0,hpos,w1,z0o,hlt1,hx1,hx,z0r hi,hle]
        cases h7:leS s s1 with
        |true =>
         rw[h7]at hF
         rw[hF rfl]
         simp -implicitDefEqProofs only[go_sem]
         exact Fini.ret rfl
        |false =>
         rw[h7]at hJ
         have hgo:=hJ rfl
         simp -implicitDefEqProofs only[go_sem,hin]
         exact hgo
   · intro hp J
     have hd:decide ((eq.length:Int)<eq.length)=false:=by simp
     simp -implicitDefEqProofs only[mkE,go_sem,z0o,hd]
     refine Fini.ret' rfl (z0G ?_)
     exact(List.all_eq_true.2 fun i hi=>hp i (List.mem_range.1 hi)).symm
 · have x4:decide (4<eq.length)=true:=decide_eq_true (by omega)
   rw[decide_eq_false h6]
   simp -implicitDefEqProofs only[go_sem,z0o,d4,x4]
   exact Fini.ret rfl
end
end Go.Proofs.YtmkmhhjkdaklbaaGreat
namespace Go.Proofs.YtmkmhhjkdaklbaaGreat
open Go Go.Ab
set_option maxRecDepth 100000
def c20:ACode :=
 (sq_ [pr_ 1 (.boxr (.tmp 0)),
 pr_ 2 (.mov (.const (.slice none 0 0)))]
 (.seq (sq_ [pr_ 5 (lt_ 6 1),
 c1_ 6 67 5,
 pr_ 7 (no_ 6)]
 (.cond (.tmp 7)
 (sq_ [pr_ 2 (.mov (.const (.slice none 0 0)))]
 (.ghost (.shut 2) .ret))
 .skip))
 (.seq (.draw [⟨pr_ 8 (fa_ 0 1),[],false,0,0⟩,
 ⟨pr_ 9 (lf_ 1 8),[0],false,0,0⟩,
 ⟨c1_ 10 73 9,[0,1],true,0,0⟩,
 ⟨pr_ 11 (fa_ 1 1),[],false,0,1⟩,
 ⟨pr_ 12 (lf_ 1 11),[3],false,0,1⟩,
 ⟨c1_ 13 73 12,[0,1,2,3,4],true,0,0⟩,
 ⟨pr_ 14 (.app 1 (.tmp 10) (.tmp 13)),(List.range 6),true,0,0⟩,
 ⟨pr_ 15 (fa_ 2 1),[],false,0,3⟩,
 ⟨pr_ 16 (lt_ 3 15),[7],false,0,3⟩,
 ⟨c1_ 17 74 16,(List.range 9),true,0,0⟩,
 ⟨pr_ 18 (.app 1 (.tmp 14) (.tmp 17)),(List.range 10),true,0,0⟩,
 ⟨mv_ 3 18,(List.range 11),false,5,5⟩])
 (sq_ [mv_ 19 3,
 pr_ 20 (fa_ 5 1),
 pr_ 21 (lf_ 1 20),
 pr_ 22 (.lenv (.tmp 21)),
 pr_ 23 (.convi .u64 (.tmp 22)),
 c1_ 24 75 23,
 pr_ 25 (.app 1 (.tmp 19) (.tmp 24)),
 mv_ 3 25]
 (.seq (sq_ [pr_ 4 (mi_ .i64 0)]
 (.block 0 (.loop [0,2,5,6,7,8,9,10,11,12,13,14,15,16,17,18,19,20,21,22,23,24,25,26,27,28,29,30,31,32,33,34,35,36,37,38,39,40,41] (.seq (sq_ [mv_ 26 4,
 pr_ 27 (fa_ 5 1),
 pr_ 28 (lf_ 1 27),
 pr_ 29 (.lenv (.tmp 28)),
 pr_ 30 (bt_ .lss 26 29)]
 (.cond (.tmp 30)
 .skip
 (.exit 0)))
 (.seq (.block 1 (.ops [mv_ 33 3,
 pr_ 34 (fa_ 5 1),
 pr_ 35 (lf_ 1 34),
 mv_ 36 4,
 pr_ 37 (.iadrs 1 (.tmp 35) (.tmp 36)),
 pr_ 38 (lf_ 1 37),
 c1_ 39 76 38,
 pr_ 40 (.app 1 (.tmp 33) (.tmp 39)),
 mv_ 3 40]))
 (.ops [mv_ 31 4,
 pr_ 32 (bk_ .add 31 .i64 1),
 mv_ 4 32]))))))
 (sq_ [mv_ 41 3,
 mv_ 2 41]
 (.ghost (.shut 2) .ret)))))))
def o20:List Tmp:=[]
def r20:List RV:=[.tmp 2]
theorem t20:Text Tryz.prog 20 o20 c20 r20 42:=.mk_ Tryz.f20 rfl
def c74:ACode :=
 (sq_ [pr_ 1 (.boxr (.tmp 0)),
 pr_ 2 (.mov (.const (.slice none 0 0)))]
 (.seq (sq_ [pr_ 3 (fa_ 0 1),
 pr_ 4 (lf_ 1 3)]
 (.cond (.tmp 4)
 (sq_ [pr_ 5 (.bsl false 1 false 1 [.pl (.int .u8 0)] [(0,1,(.const (.int .u8 1)))]),
 mv_ 2 5]
 (.ghost (.shut 2) .ret))
 .skip))
 (.seq (.draw [⟨pr_ 6 (.bsl true 1 false 1 [.pl (.int .u8 0)] [(0,1,(.const (.int .u8 0)))]),[],true,0,0⟩,
 ⟨pr_ 7 (fa_ 1 1),[],false,0,1⟩,
 ⟨pr_ 8 (lf_ 1 7),[1],false,0,1⟩,
 ⟨c1_ 9 48 8,[1,2],false,0,1⟩,
 ⟨c1_ 10 97 9,[1,2,3],false,0,1⟩,
 ⟨pr_ 11 (.app 1 (.tmp 6) (.tmp 10)),[0,1,2,3,4],true,0,0⟩,
 ⟨pr_ 12 (fa_ 2 1),[],false,0,2⟩,
 ⟨pr_ 13 (lf_ 1 12),[6],false,0,2⟩,
 ⟨c1_ 14 48 13,(List.range 8),true,0,0⟩,
 ⟨c1_ 15 97 14,(List.range 9),true,0,0⟩,
 ⟨pr_ 16 (.app 1 (.tmp 11) (.tmp 15)),(List.range 10),true,0,0⟩,
 ⟨mv_ 2 16,(List.range 11),false,5,5⟩])
 (.ghost (.shut 2) .ret))))
def o74:List Tmp:=[6]
def r74:List RV:=[.tmp 2]
theorem t74:Text Tryz.prog 74 o74 c74 r74 17:=.mk_ Tryz.f74 rfl
def c97:ACode :=
 (sq_ [pr_ 2 (.mov (.const (.slice none 0 0)))]
 (sq_ [pr_ 5 (.mks 1 false [.pl (.int .u8 0)] (.const (.int .i64 8)) (.const (.int .i64 8))),
 mv_ 3 5]
 (.seq (sq_ [pr_ 4 (mi_ .i64 0)]
 (.block 0 (.loop [1,2,5,6,7,8,9,10,11,12,13,14,15,16,17,18,19,20] (.seq (sq_ [mv_ 6 4,
 pr_ 7 (bk_ .lss 6 .i64 8)]
 (.cond (.tmp 7)
 .skip
 (.exit 0)))
 (.seq (.block 1 (.ops [mv_ 10 3,
 mv_ 11 4,
 mv_ 12 0,
 mv_ 13 4,
 pr_ 14 (.bin false .mul (.const (.int .i64 8)) (.tmp 13)),
 pr_ 15 (.bin false .sub (.const (.int .i64 56)) (.tmp 14)),
 pr_ 16 (.convi .u64 (.tmp 15)),
 pr_ 17 (bt_ .shr 12 16),
 pr_ 18 (.convi .u8 (.tmp 17)),
 pr_ 19 (.iadrs 1 (.tmp 10) (.tmp 11)),
 st_ (so_ 1 19 18)]))
 (.ops [mv_ 8 4,
 pr_ 9 (bk_ .add 8 .i64 1),
 mv_ 4 9]))))))
 (sq_ [mv_ 20 3,
 mv_ 2 20]
 (.ghost (.shut 2) .ret)))))
def o97:List Tmp:=[]
def r97:List RV:=[.tmp 2]
theorem t97:Text Tryz.prog 97 o97 c97 r97 21:=.mk_ Tryz.f97 rfl
end Go.Proofs.YtmkmhhjkdaklbaaGreat
