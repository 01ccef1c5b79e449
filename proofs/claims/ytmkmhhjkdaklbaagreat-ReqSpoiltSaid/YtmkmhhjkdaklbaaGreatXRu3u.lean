/- Any lists of matchers: the program's List. No condition. -/
import Derived.Test.YtmkmhhjkdaklbaaGreatXLs2u
import Derived.Test.YtmkmhhjkdaklbaaGreatProg
import Derived.Test.YtmkmhhjkdaklbaaGreatAbStepu
import Derived.Test.YtmkmhhjkdaklbaaGreatXPPar4u
import Derived.Test.YtmkmhhjkdaklbaaGreatCod2u
import Derived.Test.YtmkmhhjkdaklbaaGreatRows
import Derived.Test.YtmkmhhjkdaklbaaGreatXPDoc1u
import Derived.Test.YtmkmhhjkdaklbaaGreatAbArgu
set_option linter.unusedSimpArgs false
set_option linter.unusedVariables false
set_option linter.unusedSectionVars false
namespace Go.Proofs.YtmkmhhjkdaklbaaGreat
open Go Go.Ab
set_option maxRecDepth 100000
theorem z09 (n:Nat) (M:List Mtr):Bel n (.sl 3 (mvs3 M)):=by
 refine .sl 3 _ fun i hi=>?_
 have:∀y∈mvs3 M,Bel n y:=by
  intro y hy;simp only[mvs3,List.mem_map]at hy;obtain⟨x,_,rfl⟩:=hy;refine .agg _ fun i hi=>?_
  have:∀y∈([I x.1,Sx x.2.1,Sx x.2.2]:List AV),Bel n y:=by
   intro y hy;simp only[List.mem_cons,List.not_mem_nil,or_false]at hy;rcases hy with rfl|rfl|rfl<;>exact .pl _
  exact this _ (List.getElem_mem hi)
 exact this _ (List.getElem_mem hi)
theorem zgg (n:Nat) (M:List Mtr):Bel n (.sl 3 (mvs3 M))=True:=eq_true (z09 n M)
theorem memM (n:Nat) (k:Int) (a b:ByteArray):∀y∈([I k,Sx a,Sx b]:List AV),Bel n y:=by
 intro y hy;simp only[List.mem_cons,List.not_mem_nil,or_false]at hy;rcases hy with rfl|rfl|rfl<;>exact .pl _
theorem zgh (n:Nat) (k:Int) (a b:ByteArray):Bel n (.agg [I k,Sx a,Sx b])=True:=eq_true (.agg _ fun i hi=>memM n k a b _ (List.getElem_mem hi))
theorem BL_rp (n:Nat) (k:Int) (a b:ByteArray):Bel n (.rp [I k,Sx a,Sx b])=True:=eq_true (.rp _ fun i hi=>memM n k a b _ (List.getElem_mem hi))
theorem z1y (σ:St) (M:List Mtr):Ans Tryz.prog 106 [.sl 3 (mvs3 M)] σ (Bo (listB M)) σ:=by
 refine Ans.of_run' t106 (fun hbel _=>?_)
 have d5:decide ((5:Int)<M.length)=decide (5<M.length):=decN 5 _;have hb0:(∀o∈σ,BelO σ.length o)=True:=eq_true hbel;unfold listB;simp -implicitDefEqProofs only[c106,r106,go_sem,z0n,d5];by_cases hl:M.length≤5
 · rw[decide_eq_true hl,Bool.true_and];have h5:decide (5<M.length)=false:=decide_eq_false (by omega)
   simp -implicitDefEqProofs only[go_sem,h5,z0n];refine Go.Ab.L.scan M.length (okL M) (fun i=>mkE 33 [(0,.sl 3 (mvs3 M)),(8,.sl 3 (mvs3 M)),(9,I M.length),(10,I i)]) (fun _=>σ) ?_ ?_ rfl rfl
   · intro i hi hp J hJ;have htk:∀x:Ob,(σ++[x]).take σ.length=σ:=fun x=>List.take_left' rfl
     have hF:okL M i=false→(List.range M.length).all (okL M)=false:=fun h=>List.all_eq_false.2 ⟨i,List.mem_range.2 hi,by simp[h]⟩
     have hx:=z6X M i hi;have hin:=z0V (n:=i) (by omega)
     have hI:=fun σ=>zi2 σ (M.getD i noM3).1 (M.getD i noM3).2.1 (M.getD i noM3).2.2
     have hO:okL M i=(isB (M.getD i noM3).1 (M.getD i noM3).2.1 (M.getD i noM3).2.2&&(i==0||z3L (M.getD (i-1) noM3) (M.getD i noM3))):=rfl;have d0:decide ((0:Int)<i)=decide (0<i):=decN 0 i;rw[hO]at hJ hF;simp -implicitDefEqProofs only[mkE,go_sem,z0n,z0f hi,dec_lt hi,hx,mv3,z00,g0,s0,List.drop_nil]
     first|refine CD.intro (hI _) ?_|refine CS.intro hI ?_
     generalize isB (M.getD i noM3).1 (M.getD i noM3).2.1 (M.getD i noM3).2.2=b1 at hJ hF
     cases b1 with
     |false =>
      simp -implicitDefEqProofs only[go_sem,z00,g0,s0];rw[hF rfl];exact Fini.trim2 (σ':=σ) rfl rfl (Nat.le_refl _) (.pl _) hbel
     |true =>
      by_cases hz:i=0
      · subst hz;have hgo:=hJ rfl;simp -implicitDefEqProofs only[go_sem,hin,z00,g0,s0,Int.natCast_zero,B_pl,B_any,z2E,B_tup,B_osl,B_ptr,B_sl0,zgg,zgh,BL_rp,htk,Nat.add_zero,hb0,List.length_append];exact⟨by omega,hgo⟩
      · have hpos:decide (0<i)=true:=by simp;omega
        have hx1:=z6X M (i-1) (by omega)
        have hB:=fun σ=>z9F σ (M.getD (i-1) noM3) (M.getD i noM3)
        have hc:=z9G (M.getD (i-1) noM3) (M.getD i noM3);have w1:IntKind.i64.wrap ((i:Int)-1)=((i-1:Nat):Int):=by rw[wrapN (by omega) (by omega)];omega
        have hlt1:(((i-1:Nat):Int)<M.length)=True:=by simp;omega
        have hz':(i==0)=false:=by simpa using hz
        rw[hz']at hJ hF;simp -implicitDefEqProofs only[go_sem,d0,hpos,w1,z0n,z0f hi,dec_lt hi,hlt1,hx,hx1,z00,mv3,g0,s0]
        first|refine CD.intro (hB _) ?_|refine CS.intro hB ?_
        generalize z3L (M.getD (i-1) noM3) (M.getD i noM3)=b2 at hJ hF hc;generalize cmp3 (M.getD (i-1) noM3) (M.getD i noM3)=cc at hc
        cases b2 with
        |true =>
         have hgo:=hJ rfl;simp -implicitDefEqProofs only[go_sem,hc,hin,g0,s0,B_pl,B_any,z2E,B_tup,B_osl,B_ptr,B_sl0,zgg,zgh,BL_rp,htk,Nat.add_zero,hb0,List.length_append,Bool.not_true];exact⟨by omega,hgo⟩
        |false =>
         simp -implicitDefEqProofs only[go_sem,hc,Bool.not_false,g0,s0];rw[hF rfl];exact Fini.trim2 (σ':=σ) rfl rfl (Nat.le_refl _) (.pl _) hbel
   · intro hp J;have hd:decide ((M.length:Int)<M.length)=false:=by simp
     simp -implicitDefEqProofs only[mkE,go_sem,z0n,hd];refine Fini.ret' rfl (z0U ?_);exact(List.all_eq_true.2 fun i hi=>hp i (List.mem_range.1 hi)).symm
 · rw[decide_eq_false hl,Bool.false_and];have h5:decide (5<M.length)=true:=decide_eq_true (by omega)
   simp -implicitDefEqProofs only[go_sem,h5];exact Fini.ret rfl
def c22:ACode :=
 (sq_ [pr_ 1 (.boxr (.tmp 0)),
 pr_ 2 (.allocm [.nils,.nils,.pl (.bool false),.pl (.float .f64 0),.pl (.float .f64 0),.nils])]
 (.seq (.draw [⟨pr_ 7 (fa_ 0 1),[],false,0,0⟩,
 ⟨pr_ 8 (lf_ 1 7),[0],false,0,0⟩,
 ⟨cl_ 9 79 [(.tmp 8),(.const (.bool true))],[0,1],false,0,0⟩,
 ⟨pr_ 10 (fa_ 1 1),[],false,0,0⟩,
 ⟨pr_ 11 (lf_ 1 10),[3],false,0,0⟩,
 ⟨cl_ 12 79 [(.tmp 11),(.const (.bool true))],[0,1,2,3,4],false,0,0⟩,
 ⟨pr_ 13 (fa_ 2 1),[],false,0,0⟩,
 ⟨pr_ 14 (lt_ 3 13),[6],false,0,0⟩,
 ⟨c1_ 15 80 14,(List.range 8),true,0,0⟩,
 ⟨pr_ 16 (.build [.nils,.nils,.pl (.bool false),.pl (.float .f64 0),.pl (.float .f64 0),.nils] [(0,1,(.tmp 9)),(1,1,(.tmp 12)),(2,3,(.tmp 15))]),(List.range 9),false,1,1⟩,
 ⟨⟨some 3,none,.flo 6⟩,[],false,0,1⟩,
 ⟨⟨some 3,none,.adopt true 3 6 (.tmp 16)⟩,(List.range 11),true,0,0⟩])
 (.seq (sq_ [pr_ 4 (mi_ .i64 0)]
 (.block 0 (.loop [0,5,6,7,8,9,10,11,12,13,14,15,16,17,18,19,20,21,22,23,24,25,26,27,28,29,30,31,32,33,34,35,36,37,38,39,40,41,42,43,44,45,46,47,48,49,50,51,52,53,54,55] (.seq (sq_ [mv_ 17 4,
 pr_ 18 (bk_ .lss 17 .i64 5),
 mv_ 19 18,
 gp_ 20 19 true (fa_ 5 3),
 gp_ 21 19 true (lf_ 1 20),
 gp_ 22 19 true (.lenv (.tmp 21)),
 gp_ 23 19 true (bk_ .lss 22 .i64 4),
 pr_ 24 (pa_ 19 23)]
 (.cond (.tmp 24)
 .skip
 (.exit 0)))
 (.seq (.block 1 (sq_ [pr_ 27 (.build [.pl (.string .empty),.pl (.string .empty),.pl (.string .empty),.pl (.string .empty),.pl (.string .empty)] [(0,1,(.const (.string (ByteArray.mk #[90,111,110,101,57])))),(1,1,(.const (.string (ByteArray.mk #[95,120])))),(2,1,(.const (.string (ByteArray.mk #[104,111,115,116])))),(3,1,(.const (.string (ByteArray.mk #[106,111,98])))),(4,1,(.const (.string (ByteArray.mk #[115,101,118]))))]),
 mv_ 28 4,
 pr_ 29 (.idxa 1 5 false (.tmp 27) (.tmp 28)),
 mv_ 5 29]
 (sq_ [pr_ 6 (mi_ .i64 0)]
 (.block 2 (.loop [0,7,8,9,10,11,12,13,14,15,16,17,18,19,20,21,22,23,24,25,26,27,28,29,30,31,32,33,34,35,36,37,38,39,40,41,42,43,44,45,46,47,48,49,50,51,52,53,54,55] (.seq (sq_ [mv_ 30 6,
 pr_ 31 (fa_ 5 1),
 pr_ 32 (lf_ 1 31),
 pr_ 33 (.lenv (.tmp 32)),
 pr_ 34 (bt_ .lss 30 33),
 mv_ 35 34,
 gp_ 36 35 true (mo_ 6),
 gp_ 37 35 true (bk_ .lss 36 .i64 9),
 pr_ 38 (pa_ 35 37)]
 (.cond (.tmp 38)
 .skip
 (.exit 2)))
 (.seq (.block 3 (sq_ [pr_ 41 (fa_ 5 1),
 pr_ 42 (lf_ 1 41),
 mv_ 43 6,
 pr_ 44 (.iadrs 1 (.tmp 42) (.tmp 43)),
 pr_ 45 (lf_ 1 44),
 c1_ 46 81 45,
 mv_ 47 5,
 pr_ 48 (bt_ .eql 46 47)]
 (.cond (.tmp 48)
 (sq_ [pr_ 49 (fa_ 5 3),
 pr_ 50 (lf_ 1 49),
 mv_ 51 5,
 pr_ 52 (.bsl false 1 false 1 [.pl (.string .empty)] [(0,1,(.tmp 51))]),
 pr_ 53 (.app 1 (.tmp 50) (.tmp 52)),
 pr_ 54 (fa_ 5 3),
 st_ (so_ 1 54 53)]
 (.exit 2))
 .skip)))
 (.ops [mv_ 39 6,
 pr_ 40 (bk_ .add 39 .i64 1),
 mv_ 6 40]))))))))
 (.ops [mv_ 25 4,
 pr_ 26 (bk_ .add 25 .i64 1),
 mv_ 4 26]))))))
 (.seq (.ghost (.shutc 3 5 1) (.ops [pr_ 55 (lt_ 6 3),
 st_ (so_ 6 2 55)]))
 .ret))))
def o22:List Tmp:=[2,3]
def r22:List RV:=[.cell 2 6 true]
theorem t22:Text Tryz.prog 22 o22 c22 r22 56:=.mk_ Tryz.f22 rfl
def c51:ACode :=
 (sq_ [pr_ 1 (.boxr (.tmp 0)),
 pr_ 2 mf_]
 (.seq (sq_ [pr_ 5 (fa_ 0 1),
 pr_ 6 (lf_ 1 5),
 pr_ 7 (.lenv (.tmp 6)),
 pr_ 8 (bk_ .eql 7 .i64 0),
 mv_ 9 8,
 gp_ 10 9 false (fa_ 1 1),
 gp_ 11 9 false (lf_ 1 10),
 gp_ 12 9 false (.lenv (.tmp 11)),
 gp_ 13 9 false (bk_ .eql 12 .i64 0),
 pr_ 14 (po_ 9 13),
 mv_ 15 14,
 gp_ 16 15 false (fa_ 0 1),
 gp_ 17 15 false (lf_ 1 16),
 gc_ 18 15 false 106 [(.tmp 17)],
 gp_ 19 15 false (no_ 18),
 pr_ 20 (po_ 15 19),
 mv_ 21 20,
 gp_ 22 21 false (fa_ 1 1),
 gp_ 23 21 false (lf_ 1 22),
 gc_ 24 21 false 106 [(.tmp 23)],
 gp_ 25 21 false (no_ 24),
 pr_ 26 (po_ 21 25),
 mv_ 27 26,
 gp_ 28 27 false (fa_ 2 1),
 gp_ 29 27 false (lt_ 3 28),
 gc_ 30 27 false 107 [(.tmp 29)],
 gp_ 31 27 false (no_ 30),
 pr_ 32 (po_ 27 31),
 mv_ 33 32,
 gp_ 34 33 false (fa_ 5 1),
 gp_ 35 33 false (lf_ 1 34),
 gp_ 36 33 false (.lenv (.tmp 35)),
 gp_ 37 33 false (bk_ .gtr 36 .i64 4),
 pr_ 38 (po_ 33 37)]
 (.cond (.tmp 38)
 (sq_ [pr_ 2 mf_]
 .ret)
 .skip))
 (.seq (sq_ [pr_ 39 (fa_ 5 1),
 pr_ 40 (lf_ 1 39),
 pr_ 41 (.lenv (.tmp 40)),
 pr_ 42 (mi_ .i64 0)]
 (.block 0 (.loop [0,2,3,4,5,6,7,8,9,10,11,12,13,14,15,16,17,18,19,20,21,22,23,24,25,26,27,28,29,30,31,32,33,34,35,36,37,38,39,43,44,45,46,47,48,49,50,51,52,53,54,55,56,57,58,59,60,61,62,63,64] (sq_ [pr_ 43 (bt_ .lss 42 41)]
 (.seq (.cond (.tmp 43)
 .skip
 (.exit 0))
 (.seq (.block 1 (sq_ [mv_ 44 42,
 pr_ 45 (.iadrs 1 (.tmp 40) (.tmp 42)),
 pr_ 46 (lf_ 1 45),
 mv_ 3 44,
 mv_ 4 46]
 (sq_ [mv_ 47 4,
 c1_ 48 108 47,
 pr_ 49 (no_ 48),
 mv_ 50 49,
 gp_ 51 50 false (mo_ 3),
 gp_ 52 50 false (bk_ .gtr 51 .i64 0),
 gp_ 53 50 false (mo_ 52),
 gp_ 54 53 true (mo_ 4),
 gp_ 55 53 true (fa_ 5 1),
 gp_ 56 53 true (lf_ 1 55),
 gp_ 57 53 true (mo_ 3),
 gp_ 58 53 true (bk_ .sub 57 .i64 1),
 gp_ 59 53 true (.iadrs 1 (.tmp 56) (.tmp 58)),
 gp_ 60 53 true (lf_ 1 59),
 gp_ 61 53 true (bt_ .leq 54 60),
 gp_ 62 50 false (pa_ 53 61),
 pr_ 63 (po_ 50 62)]
 (.cond (.tmp 63)
 (sq_ [pr_ 2 mf_]
 .ret)
 .skip))))
 (.ops [pr_ 64 (bk_ .add 42 .i64 1),
 mv_ 42 64])))))))
 (sq_ [pr_ 2 mt_]
 .ret))))
def o51:List Tmp:=[]
def r51:List RV:=[.tmp 2]
theorem t51:Text Tryz.prog 51 o51 c51 r51 65:=.mk_ Tryz.f51 rfl
def c80:ACode :=
 (sq_ [pr_ 1 (.boxr (.tmp 0)),
 pr_ 2 (.allocm [.pl (.bool false),.pl (.float .f64 0),.pl (.float .f64 0)])]
 (sq_ [pr_ 4 (fa_ 1 1),
 pr_ 5 (lf_ 1 4),
 pr_ 6 (fa_ 2 1),
 pr_ 7 (lf_ 1 6),
 pr_ 8 (.build [.pl (.bool false),.pl (.float .f64 0),.pl (.float .f64 0)] [(1,1,(.tmp 5)),(2,1,(.tmp 7))]),
 pr_ 3 (.allocm [.pl (.bool false),.pl (.float .f64 0),.pl (.float .f64 0)]),
 st_ (so_ 3 3 8)]
 (.seq (sq_ [pr_ 9 (fa_ 0 1),
 pr_ 10 (lf_ 1 9),
 pr_ 11 (bk_ .rem 10 .i64 3),
 pr_ 12 (bk_ .eql 11 .i64 0),
 mv_ 13 12,
 gp_ 14 13 false (fa_ 1 3),
 gp_ 15 13 false (lf_ 1 14),
 gp_ 16 13 false (fa_ 1 3),
 gp_ 17 13 false (lf_ 1 16),
 gp_ 18 13 false (bt_ .neq 15 17),
 pr_ 19 (po_ 13 18),
 mv_ 20 19,
 gp_ 21 20 false (fa_ 2 3),
 gp_ 22 20 false (lf_ 1 21),
 gp_ 23 20 false (fa_ 2 3),
 gp_ 24 20 false (lf_ 1 23),
 gp_ 25 20 false (bt_ .neq 22 24),
 pr_ 26 (po_ 20 25)]
 (.cond (.tmp 26)
 (sq_ [pr_ 27 (.build [.pl (.bool false),.pl (.float .f64 0),.pl (.float .f64 0)] [(0,1,(.const (.bool true)))]),
 st_ (so_ 3 2 27)]
 .ret)
 .skip))
 (.seq (sq_ [pr_ 28 (fa_ 2 3),
 pr_ 29 (lf_ 1 28),
 pr_ 30 (fa_ 1 3),
 pr_ 31 (lf_ 1 30),
 pr_ 32 (bt_ .lss 29 31)]
 (.cond (.tmp 32)
 (.ops [pr_ 33 (fa_ 2 3),
 pr_ 34 (lf_ 1 33),
 pr_ 35 (fa_ 1 3),
 pr_ 36 (lf_ 1 35),
 pr_ 37 (fa_ 1 3),
 st_ (so_ 1 37 34),
 pr_ 38 (fa_ 2 3),
 st_ (so_ 1 38 36)])
 .skip))
 (sq_ [pr_ 39 (lt_ 3 3),
 st_ (so_ 3 2 39)]
 .ret)))))
def o80:List Tmp:=[2,3]
def r80:List RV:=[.cell 2 3 true]
theorem t80:Text Tryz.prog 80 o80 c80 r80 40:=.mk_ Tryz.f80 rfl
def c94:ACode :=
 (sq_ [pr_ 2 (mi_ .u64 0)]
 (.seq (sq_ [mv_ 3 0,
 c1_ 4 132 3]
 (.cond (.tmp 4)
 (sq_ [pr_ 2 (mi_ .u64 9221120237041090561)]
 .ret)
 .skip))
 (sq_ [mv_ 5 0,
 c1_ 6 47 5,
 mv_ 2 6]
 .ret)))
def o94:List Tmp:=[]
def r94:List RV:=[.tmp 2]
theorem t94:Text Tryz.prog 94 o94 c94 r94 7:=.mk_ Tryz.f94 rfl
def c107:ACode :=
 (sq_ [pr_ 1 (.boxr (.tmp 0)),
 pr_ 2 mf_]
 (.seq (sq_ [pr_ 3 (fa_ 0 1),
 pr_ 4 (lf_ 1 3)]
 (.cond (.tmp 4)
 (sq_ [pr_ 5 (fa_ 1 1),
 pr_ 6 (lf_ 1 5),
 c1_ 7 94 6,
 pr_ 8 (bk_ .eql 7 .u64 0),
 mv_ 9 8,
 gp_ 10 9 true (fa_ 2 1),
 gp_ 11 9 true (lf_ 1 10),
 gc_ 12 9 true 94 [(.tmp 11)],
 gp_ 13 9 true (bk_ .eql 12 .u64 0),
 pr_ 14 (pa_ 9 13),
 mv_ 2 14]
 .ret)
 .skip))
 (sq_ [pr_ 15 (fa_ 1 1),
 pr_ 16 (lf_ 1 15),
 pr_ 17 (fa_ 2 1),
 pr_ 18 (lf_ 1 17),
 pr_ 19 (bt_ .leq 16 18),
 mv_ 2 19]
 .ret)))
def o107:List Tmp:=[]
def r107:List RV:=[.tmp 2]
theorem t107:Text Tryz.prog 107 o107 c107 r107 20:=.mk_ Tryz.f107 rfl
def c54:ACode :=
 (sq_ [pr_ 2 (.mov (.const (.pointer none)))]
 (sq_ [mv_ 3 0,
 pr_ 4 (.build [.nils,.pl (.int .i64 0),.pl (.bool false)] [(0,1,(.tmp 3))]),
 pr_ 5 (.boxm (.tmp 4)),
 mv_ 2 5]
 .ret))
def o54:List Tmp:=[5]
def r54:List RV:=[.tmp 2]
theorem t54:Text Tryz.prog 54 o54 c54 r54 6:=.mk_ Tryz.f54 rfl
def c56:ACode :=
 (sq_ [pr_ 2 (.mov (.const (.slice none 0 0))),
 pr_ 3 (mi_ .i64 0),
 pr_ 4 mf_]
 (sq_ [mv_ 9 0,
 c1_ 10 54 9,
 mv_ 5 10]
 (.seq (.after (.ops [pr_ 6 (.mov (.const (.slice none 0 0)))]) (.own 6 3))
 (.seq (sq_ [mv_ 11 5,
 cl_ 12 59 [(.tmp 11),(.const (.int .u64 5))],
 pr_ 13 (mi_ .u64 0)]
 (.block 0 (.loop [0,1,2,3,4,7,8,9,10,11,14,15,16,17,18,19,20,21,22,23,24,25,26,27,28,29,30,31,32,33,34,35,36,37,38,39] (sq_ [pr_ 14 (bt_ .lss 13 12)]
 (.seq (.cond (.tmp 14)
 .skip
 (.exit 0))
 (.seq (.block 1 (.ops [mv_ 15 6,
 mv_ 16 5,
 c1_ 17 83 16,
 pr_ 18 (.convi .i64 (.tmp 17)),
 mv_ 19 5,
 cl_ 20 60 [(.tmp 19),(.const (.int .i64 12))],
 mv_ 21 5,
 cl_ 22 60 [(.tmp 21),(.const (.int .i64 40))],
 pr_ 23 (.build [.pl (.int .i64 0),.pl (.string .empty),.pl (.string .empty)] [(0,1,(.tmp 18)),(1,1,(.tmp 20)),(2,1,(.tmp 22))]),
 pr_ 24 (.bsl false 3 true 1 [.pl (.int .i64 0),.pl (.string .empty),.pl (.string .empty)] [(0,3,(.tmp 23))]),
 pr_ 25 (.app 3 (.tmp 15) (.tmp 24)),
 mv_ 6 25]))
 (.ops [pr_ 26 (bk_ .add 13 .u64 1),
 mv_ 13 26])))))))
 (.seq (.ghost (.shut 6) (.ops [mv_ 27 5,
 mv_ 28 6,
 c1_ 29 106 28,
 cl_ 30 61 [(.tmp 27),(.tmp 29)]]))
 (sq_ [mv_ 32 5,
 c1_ 33 62 32,
 mv_ 31 33,
 pr_ 34 (ex_ 0 31),
 pr_ 35 (ex_ 1 31),
 mv_ 7 34,
 mv_ 8 35]
 (.seq (sq_ [mv_ 36 8,
 pr_ 37 (no_ 36)]
 (.cond (.tmp 37)
 (sq_ [pr_ 2 (.mov (.const (.slice none 0 0))),
 pr_ 3 (mi_ .i64 0),
 pr_ 4 mf_]
 (.ghost (.shut 2) .ret))
 .skip))
 (sq_ [mv_ 38 6,
 mv_ 39 7,
 mv_ 2 38,
 mv_ 3 39,
 pr_ 4 mt_]
 (.ghost (.shut 2) .ret)))))))))
def o56:List Tmp:=[]
def r56:List RV:=[.tmp 2,.tmp 3,.tmp 4]
theorem t56:Text Tryz.prog 56 o56 c56 r56 40:=.mk_ Tryz.f56 rfl
def c59:ACode :=
 (sq_ [pr_ 4 (mi_ .u64 0)]
 (sq_ [mv_ 9 0,
 c1_ 10 112 9,
 c1_ 11 115 10,
 mv_ 8 11,
 pr_ 12 (ex_ 0 8),
 pr_ 13 (ex_ 1 8),
 pr_ 14 (ex_ 2 8),
 mv_ 5 12,
 mv_ 6 13,
 mv_ 7 14]
 (.seq (sq_ [mv_ 15 0,
 mv_ 16 6,
 mv_ 17 7,
 mv_ 18 17,
 gp_ 19 18 true (mo_ 5),
 gp_ 20 18 true (mo_ 1),
 gp_ 21 18 true (bt_ .leq 19 20),
 pr_ 22 (pa_ 18 21),
 cl_ 23 113 [(.tmp 15),(.tmp 16),(.tmp 22)],
 pr_ 24 (no_ 23)]
 (.cond (.tmp 24)
 (sq_ [pr_ 4 (mi_ .u64 0)]
 .ret)
 .skip))
 (sq_ [mv_ 25 5,
 mv_ 4 25]
 .ret))))
def o59:List Tmp:=[]
def r59:List RV:=[.tmp 4]
theorem t59:Text Tryz.prog 59 o59 c59 r59 26:=.mk_ Tryz.f59 rfl
def c60:ACode :=
 (sq_ [pr_ 4 (.mov (.const (.string (ByteArray.mk #[]))))]
 (sq_ [mv_ 9 0,
 c1_ 10 112 9,
 mv_ 11 1,
 cl_ 12 116 [(.tmp 10),(.tmp 11)],
 mv_ 8 12,
 pr_ 13 (ex_ 0 8),
 pr_ 14 (ex_ 1 8),
 pr_ 15 (ex_ 2 8),
 mv_ 5 13,
 mv_ 6 14,
 mv_ 7 15]
 (.seq (sq_ [mv_ 16 0,
 mv_ 17 6,
 mv_ 18 7,
 cl_ 19 113 [(.tmp 16),(.tmp 17),(.tmp 18)],
 pr_ 20 (no_ 19)]
 (.cond (.tmp 20)
 (sq_ [pr_ 4 (.mov (.const (.string (ByteArray.mk #[]))))]
 .ret)
 .skip))
 (sq_ [mv_ 21 5,
 mv_ 4 21]
 .ret))))
def o60:List Tmp:=[]
def r60:List RV:=[.tmp 4]
theorem t60:Text Tryz.prog 60 o60 c60 r60 22:=.mk_ Tryz.f60 rfl
def c61:ACode :=
 (.ops [mv_ 4 0,
 mv_ 5 1,
 cl_ 6 113 [(.tmp 4),(.const (.int .i64 0)),(.tmp 5)]])
def o61:List Tmp:=[]
def r61:List RV:=[]
theorem t61:Text Tryz.prog 61 o61 c61 r61 7:=.mk_ Tryz.f61 rfl
def c62:ACode :=
 (sq_ [pr_ 2 (mi_ .i64 0),
 pr_ 3 mf_]
 (.seq (sq_ [mv_ 4 0,
 pr_ 5 (nc_ 4),
 pr_ 6 (fa_ 2 5),
 pr_ 7 (lf_ 1 6)]
 (.cond (.tmp 7)
 (sq_ [pr_ 2 (mi_ .i64 0),
 pr_ 3 mf_]
 .ret)
 .skip))
 (sq_ [mv_ 8 0,
 pr_ 9 (nc_ 8),
 pr_ 10 (fa_ 1 9),
 pr_ 11 (lf_ 1 10),
 mv_ 2 11,
 pr_ 3 mt_]
 .ret)))
def o62:List Tmp:=[]
def r62:List RV:=[.tmp 2,.tmp 3]
theorem t62:Text Tryz.prog 62 o62 c62 r62 12:=.mk_ Tryz.f62 rfl
def c63:ACode :=
 (sq_ [pr_ 2 (.mov (.const (.slice none 0 0))),
 pr_ 3 (mi_ .i64 0),
 pr_ 4 mf_]
 (sq_ [mv_ 18 0,
 c1_ 19 65 18,
 mv_ 17 19,
 pr_ 20 (ex_ 0 17),
 pr_ 21 (ex_ 1 17),
 pr_ 22 (ex_ 2 17),
 mv_ 5 20,
 mv_ 6 21,
 mv_ 7 22]
 (.seq (sq_ [mv_ 23 7,
 pr_ 24 (no_ 23),
 mv_ 25 24,
 gp_ 26 25 false (mo_ 5),
 gp_ 27 25 false (bk_ .gtr 26 .u64 5),
 pr_ 28 (po_ 25 27)]
 (.cond (.tmp 28)
 (sq_ [pr_ 2 (.mov (.const (.slice none 0 0))),
 pr_ 3 (mi_ .i64 0),
 pr_ 4 mf_]
 .ret)
 .skip))
 (.seq (.after (.ops [pr_ 8 (.mov (.const (.slice none 0 0)))]) (.own 8 3))
 (.seq (sq_ [pr_ 9 (mi_ .i64 0)]
 (.block 0 (.loop [1,2,3,4,7,10,11,12,13,14,15,16,17,18,19,20,21,22,23,24,25,26,27,28,29,30,31,32,33,34,35,36,37,38,39,40,41,42,43,44,45,46,47,48,49,50,51,52,53,54,55,56,57,58,59,60,61,62,63,64,65,66,67,68,69,70,71,72,73,74,75,76,77,78,79,80,81,82,83] (.seq (sq_ [mv_ 29 9,
 mv_ 30 5,
 pr_ 31 (.convi .i64 (.tmp 30)),
 pr_ 32 (bt_ .lss 29 31)]
 (.cond (.tmp 32)
 .skip
 (.exit 0)))
 (.seq (.block 1 (.seq (sq_ [mv_ 35 6,
 mv_ 36 0,
 pr_ 37 (.lenv (.tmp 36)),
 pr_ 38 (bt_ .geq 35 37)]
 (.cond (.tmp 38)
 (sq_ [pr_ 2 (.mov (.const (.slice none 0 0))),
 pr_ 3 (mi_ .i64 0),
 pr_ 4 mf_]
 .ret)
 .skip))
 (sq_ [mv_ 39 0,
 mv_ 40 6,
 pr_ 41 (.iadrs 1 (.tmp 39) (.tmp 40)),
 pr_ 42 (lf_ 1 41),
 pr_ 43 (.convi .i64 (.tmp 42)),
 mv_ 10 43]
 (sq_ [mv_ 44 6,
 pr_ 45 (bk_ .add 44 .i64 1),
 mv_ 6 45]
 (sq_ [mv_ 47 0,
 mv_ 48 6,
 pr_ 49 (.slcv 1 (.tmp 47) (some (.tmp 48)) none),
 cl_ 50 66 [(.tmp 49),(.const (.int .i64 12))],
 mv_ 46 50,
 pr_ 51 (ex_ 0 46),
 pr_ 52 (ex_ 1 46),
 pr_ 53 (ex_ 2 46),
 mv_ 11 51,
 mv_ 12 52,
 mv_ 13 53]
 (.seq (sq_ [mv_ 54 13,
 pr_ 55 (no_ 54)]
 (.cond (.tmp 55)
 (sq_ [pr_ 2 (.mov (.const (.slice none 0 0))),
 pr_ 3 (mi_ .i64 0),
 pr_ 4 mf_]
 .ret)
 .skip))
 (sq_ [mv_ 56 6,
 mv_ 57 12,
 pr_ 58 (bt_ .add 56 57),
 mv_ 6 58]
 (sq_ [mv_ 60 0,
 mv_ 61 6,
 pr_ 62 (.slcv 1 (.tmp 60) (some (.tmp 61)) none),
 cl_ 63 66 [(.tmp 62),(.const (.int .i64 40))],
 mv_ 59 63,
 pr_ 64 (ex_ 0 59),
 pr_ 65 (ex_ 1 59),
 pr_ 66 (ex_ 2 59),
 mv_ 14 64,
 mv_ 15 65,
 mv_ 16 66]
 (.seq (sq_ [mv_ 67 16,
 pr_ 68 (no_ 67)]
 (.cond (.tmp 68)
 (sq_ [pr_ 2 (.mov (.const (.slice none 0 0))),
 pr_ 3 (mi_ .i64 0),
 pr_ 4 mf_]
 .ret)
 .skip))
 (sq_ [mv_ 69 6,
 mv_ 70 15,
 pr_ 71 (bt_ .add 69 70),
 mv_ 6 71]
 (.ops [mv_ 72 8,
 mv_ 73 10,
 mv_ 74 11,
 mv_ 75 14,
 pr_ 76 (.build [.pl (.int .i64 0),.pl (.string .empty),.pl (.string .empty)] [(0,1,(.tmp 73)),(1,1,(.tmp 74)),(2,1,(.tmp 75))]),
 pr_ 77 (.bsl false 3 true 1 [.pl (.int .i64 0),.pl (.string .empty),.pl (.string .empty)] [(0,3,(.tmp 76))]),
 pr_ 78 (.app 3 (.tmp 72) (.tmp 77)),
 mv_ 8 78])))))))))))
 (.ops [mv_ 33 9,
 pr_ 34 (bk_ .add 33 .i64 1),
 mv_ 9 34]))))))
 (.seq (.seq (.ghost (.shut 8) (.ops [mv_ 79 8,
 c1_ 80 117 79,
 pr_ 81 (no_ 80)]))
 (.cond (.tmp 81)
 (sq_ [pr_ 2 (.mov (.const (.slice none 0 0))),
 pr_ 3 (mi_ .i64 0),
 pr_ 4 mf_]
 .ret)
 .skip))
 (sq_ [mv_ 82 8,
 mv_ 83 6,
 mv_ 2 82,
 mv_ 3 83,
 pr_ 4 mt_]
 .ret)))))))
def o63:List Tmp:=[]
def r63:List RV:=[.tmp 2,.tmp 3,.tmp 4]
theorem t63:Text Tryz.prog 63 o63 c63 r63 84:=.mk_ Tryz.f63 rfl
def c65:ACode :=
 (sq_ [pr_ 2 (mi_ .u64 0),
 pr_ 3 (mi_ .i64 0),
 pr_ 4 mf_]
 (sq_ [pr_ 5 (mi_ .u64 0)]
 (.seq (sq_ [pr_ 6 (mi_ .i64 0)]
 (.block 0 (.loop [1,2,3,4,7,8,9,10,11,12,13,14,15,16,17,18,19,20,21,22,23,24,25,26,27,28,29,30,31,32,33,34,35,36,37,38,39,40,41,42,43,44,45,46,47,48,49,50] (.seq (sq_ [mv_ 8 6,
 mv_ 9 0,
 pr_ 10 (.lenv (.tmp 9)),
 pr_ 11 (bt_ .lss 8 10),
 mv_ 12 11,
 gp_ 13 12 true (mo_ 6),
 gp_ 14 12 true (bk_ .lss 13 .i64 10),
 pr_ 15 (pa_ 12 14)]
 (.cond (.tmp 15)
 .skip
 (.exit 0)))
 (.seq (.block 1 (sq_ [mv_ 18 0,
 mv_ 19 6,
 pr_ 20 (.iadrs 1 (.tmp 18) (.tmp 19)),
 pr_ 21 (lf_ 1 20),
 pr_ 22 (bk_ .rem 21 .u8 128),
 pr_ 23 (.convi .u64 (.tmp 22)),
 mv_ 7 23]
 (.seq (sq_ [mv_ 24 6,
 pr_ 25 (bk_ .eql 24 .i64 9),
 mv_ 26 25,
 gp_ 27 26 true (mo_ 7),
 gp_ 28 26 true (bk_ .gtr 27 .u64 1),
 pr_ 29 (pa_ 26 28)]
 (.cond (.tmp 29)
 (sq_ [pr_ 2 (mi_ .u64 0),
 pr_ 3 (mi_ .i64 0),
 pr_ 4 mf_]
 .ret)
 .skip))
 (sq_ [mv_ 30 5,
 mv_ 31 7,
 mv_ 32 6,
 pr_ 33 (.bin false .mul (.const (.int .i64 7)) (.tmp 32)),
 pr_ 34 (.convi .u64 (.tmp 33)),
 pr_ 35 (bt_ .shl 31 34),
 pr_ 36 (bt_ .or 30 35),
 mv_ 5 36]
 (.seq (sq_ [mv_ 37 0,
 mv_ 38 6,
 pr_ 39 (.iadrs 1 (.tmp 37) (.tmp 38)),
 pr_ 40 (lf_ 1 39),
 pr_ 41 (bk_ .geq 40 .u8 128)]
 (.cond (.tmp 41)
 (.exit 1)
 .skip))
 (.seq (sq_ [mv_ 42 7,
 pr_ 43 (bk_ .eql 42 .u64 0),
 mv_ 44 43,
 gp_ 45 44 true (mo_ 6),
 gp_ 46 44 true (bk_ .gtr 45 .i64 0),
 pr_ 47 (pa_ 44 46)]
 (.cond (.tmp 47)
 (sq_ [pr_ 2 (mi_ .u64 0),
 pr_ 3 (mi_ .i64 0),
 pr_ 4 mf_]
 .ret)
 .skip))
 (sq_ [mv_ 48 5,
 mv_ 49 6,
 pr_ 50 (bk_ .add 49 .i64 1),
 mv_ 2 48,
 mv_ 3 50,
 pr_ 4 mt_]
 .ret)))))))
 (.ops [mv_ 16 6,
 pr_ 17 (bk_ .add 16 .i64 1),
 mv_ 6 17]))))))
 (sq_ [pr_ 2 (mi_ .u64 0),
 pr_ 3 (mi_ .i64 0),
 pr_ 4 mf_]
 .ret))))
def o65:List Tmp:=[]
def r65:List RV:=[.tmp 2,.tmp 3,.tmp 4]
theorem t65:Text Tryz.prog 65 o65 c65 r65 51:=.mk_ Tryz.f65 rfl
def c66:ACode :=
 (sq_ [pr_ 4 (.mov (.const (.string (ByteArray.mk #[])))),
 pr_ 5 (mi_ .i64 0),
 pr_ 6 mf_]
 (sq_ [mv_ 11 0,
 c1_ 12 65 11,
 mv_ 10 12,
 pr_ 13 (ex_ 0 10),
 pr_ 14 (ex_ 1 10),
 pr_ 15 (ex_ 2 10),
 mv_ 7 13,
 mv_ 8 14,
 mv_ 9 15]
 (.seq (sq_ [mv_ 16 9,
 pr_ 17 (no_ 16),
 mv_ 18 17,
 gp_ 19 18 false (mo_ 7),
 gp_ 20 18 false (mo_ 0),
 gp_ 21 18 false (.lenv (.tmp 20)),
 gp_ 22 18 false (mo_ 8),
 gp_ 23 18 false (bt_ .sub 21 22),
 gp_ 24 18 false (.convi .u64 (.tmp 23)),
 gp_ 25 18 false (bt_ .gtr 19 24),
 pr_ 26 (po_ 18 25),
 mv_ 27 26,
 gp_ 28 27 false (mo_ 1),
 gp_ 29 27 false (bk_ .lss 28 .i64 0),
 pr_ 30 (po_ 27 29),
 mv_ 31 30,
 gp_ 32 31 false (mo_ 7),
 gp_ 33 31 false (mo_ 1),
 gp_ 34 31 false (.convi .u64 (.tmp 33)),
 gp_ 35 31 false (bt_ .gtr 32 34),
 pr_ 36 (po_ 31 35)]
 (.cond (.tmp 36)
 (sq_ [pr_ 4 (.mov (.const (.string (ByteArray.mk #[])))),
 pr_ 5 (mi_ .i64 0),
 pr_ 6 mf_]
 .ret)
 .skip))
 (sq_ [mv_ 37 0,
 mv_ 38 8,
 mv_ 39 8,
 mv_ 40 7,
 pr_ 41 (.convi .i64 (.tmp 40)),
 pr_ 42 (bt_ .add 39 41),
 pr_ 43 (.slcv 1 (.tmp 37) (some (.tmp 38)) (some (.tmp 42))),
 pr_ 44 (.b2s (.tmp 43)),
 mv_ 45 8,
 mv_ 46 7,
 pr_ 47 (.convi .i64 (.tmp 46)),
 pr_ 48 (bt_ .add 45 47),
 mv_ 4 44,
 mv_ 5 48,
 pr_ 6 mt_]
 .ret))))
def o66:List Tmp:=[]
def r66:List RV:=[.tmp 4,.tmp 5,.tmp 6]
theorem t66:Text Tryz.prog 66 o66 c66 r66 49:=.mk_ Tryz.f66 rfl
def c69:ACode :=
 (sq_ [pr_ 2 (.mov (.const (.slice none 0 0)))]
 (.seq (sq_ [mv_ 6 0,
 c1_ 7 106 6,
 pr_ 8 (no_ 7)]
 (.cond (.tmp 8)
 (sq_ [pr_ 2 (.mov (.const (.slice none 0 0)))]
 (.ghost (.shut 2) .ret))
 .skip))
 (sq_ [mv_ 9 0,
 pr_ 10 (.lenv (.tmp 9)),
 pr_ 11 (.convi .u64 (.tmp 10)),
 c1_ 12 71 11,
 mv_ 3 12]
 (.seq (sq_ [mv_ 13 0,
 pr_ 14 (.lenv (.tmp 13)),
 pr_ 15 (mi_ .i64 0)]
 (.block 0 (.loop [0,1,2,4,5,6,7,8,9,10,11,12,16,17,18,19,20,21,22,23,24,25,26,27,28,29,30,31,32,33,34,35,36] (sq_ [pr_ 16 (bt_ .lss 15 14)]
 (.seq (.cond (.tmp 16)
 .skip
 (.exit 0))
 (.seq (.block 1 (sq_ [pr_ 17 (.iadrs 3 (.tmp 13) (.tmp 15)),
 pr_ 18 (lt_ 3 17),
 ⟨some 5,none,.fresh 3 5 (.tmp 18)⟩]
 (sq_ [mv_ 19 3,
 pr_ 20 (fa_ 0 5),
 pr_ 21 (lf_ 1 20),
 pr_ 22 (.convi .u8 (.tmp 21)),
 pr_ 23 (.bsl false 1 false 1 [.pl (.int .u8 0)] [(0,1,(.tmp 22))]),
 pr_ 24 (.app 1 (.tmp 19) (.tmp 23)),
 mv_ 3 24]
 (sq_ [mv_ 25 3,
 pr_ 26 (fa_ 1 5),
 pr_ 27 (lf_ 1 26),
 c1_ 28 72 27,
 pr_ 29 (.app 1 (.tmp 25) (.tmp 28)),
 mv_ 3 29]
 (.ops [mv_ 30 3,
 pr_ 31 (fa_ 2 5),
 pr_ 32 (lf_ 1 31),
 c1_ 33 72 32,
 pr_ 34 (.app 1 (.tmp 30) (.tmp 33)),
 mv_ 3 34])))))
 (.ops [pr_ 35 (bk_ .add 15 .i64 1),
 mv_ 15 35])))))))
 (sq_ [mv_ 36 3,
 mv_ 2 36]
 (.ghost (.shut 2) .ret))))))
def o69:List Tmp:=[]
def r69:List RV:=[.tmp 2]
theorem t69:Text Tryz.prog 69 o69 c69 r69 37:=.mk_ Tryz.f69 rfl
def c71:ACode :=
 (sq_ [pr_ 2 (.mov (.const (.slice none 0 0)))]
 (.seq (.after (.ops [pr_ 3 (.mov (.const (.slice none 0 0)))]) (.own 3 1))
 (.seq (.block 0 (.loop [1,2,4,5,6,7,8,9,10,11,12,13,14,15,16,17,18] (.seq (sq_ [mv_ 4 0,
 pr_ 5 (bk_ .geq 4 .u64 128)]
 (.cond (.tmp 5)
 .skip
 (.exit 0)))
 (.block 1 (sq_ [mv_ 6 3,
 mv_ 7 0,
 pr_ 8 (.convi .u8 (.tmp 7)),
 pr_ 9 (bk_ .or 8 .u8 128),
 pr_ 10 (.bsl false 1 false 1 [.pl (.int .u8 0)] [(0,1,(.tmp 9))]),
 pr_ 11 (.app 1 (.tmp 6) (.tmp 10)),
 mv_ 3 11]
 (.ops [mv_ 12 0,
 pr_ 13 (bk_ .shr 12 .u64 7),
 mv_ 0 13]))))))
 (sq_ [mv_ 14 3,
 mv_ 15 0,
 pr_ 16 (.convi .u8 (.tmp 15)),
 pr_ 17 (.bsl false 1 false 1 [.pl (.int .u8 0)] [(0,1,(.tmp 16))]),
 pr_ 18 (.app 1 (.tmp 14) (.tmp 17)),
 mv_ 2 18]
 .ret))))
def o71:List Tmp:=[]
def r71:List RV:=[.tmp 2]
theorem t71:Text Tryz.prog 71 o71 c71 r71 19:=.mk_ Tryz.f71 rfl
def c72:ACode :=
 (sq_ [pr_ 2 (.mov (.const (.slice none 0 0)))]
 (sq_ [mv_ 3 0,
 pr_ 4 (.lens (.tmp 3)),
 pr_ 5 (.convi .u64 (.tmp 4)),
 c1_ 6 71 5,
 mv_ 7 0,
 pr_ 8 (.app 1 (.tmp 6) (.tmp 7)),
 mv_ 2 8]
 .ret))
def o72:List Tmp:=[]
def r72:List RV:=[.tmp 2]
theorem t72:Text Tryz.prog 72 o72 c72 r72 9:=.mk_ Tryz.f72 rfl
def c77:ACode :=
 (sq_ [pr_ 4 mf_]
 (.seq (sq_ [mv_ 6 0,
 pr_ 7 (.lenv (.tmp 6)),
 mv_ 8 1,
 pr_ 9 (.lenv (.tmp 8)),
 pr_ 10 (bt_ .neq 7 9)]
 (.cond (.tmp 10)
 (sq_ [pr_ 4 mf_]
 .ret)
 .skip))
 (.seq (sq_ [pr_ 5 (mi_ .i64 0)]
 (.block 0 (.loop [2,3,4,6,7,8,9,10,11,12,13,14,15,16,17,18,19,20,21,22,23,24,25] (.seq (sq_ [mv_ 11 5,
 mv_ 12 0,
 pr_ 13 (.lenv (.tmp 12)),
 pr_ 14 (bt_ .lss 11 13)]
 (.cond (.tmp 14)
 .skip
 (.exit 0)))
 (.seq (.block 1 (.seq (.draw [⟨mv_ 17 0,[],false,0,0⟩,
 ⟨mv_ 18 5,[],false,0,0⟩,
 ⟨pr_ 19 (.iadrs 3 (.tmp 17) (.tmp 18)),[0,1],false,0,0⟩,
 ⟨pr_ 20 (lt_ 3 19),[0,1,2],false,0,0⟩,
 ⟨mv_ 21 1,[],false,0,0⟩,
 ⟨mv_ 22 5,[],false,0,0⟩,
 ⟨pr_ 23 (.iadrs 3 (.tmp 21) (.tmp 22)),[4,5],false,0,0⟩,
 ⟨pr_ 24 (lt_ 3 23),[4,5,6],false,0,0⟩,
 ⟨pr_ 25 (.eqa true [.int,.str,.str] (.tmp 20) (.tmp 24)),(List.range 8),false,0,0⟩])
 (.cond (.tmp 25)
 (sq_ [pr_ 4 mf_]
 .ret)
 .skip)))
 (.ops [mv_ 15 5,
 pr_ 16 (bk_ .add 15 .i64 1),
 mv_ 5 16]))))))
 (sq_ [pr_ 4 mt_]
 .ret))))
def o77:List Tmp:=[]
def r77:List RV:=[.tmp 4]
theorem t77:Text Tryz.prog 77 o77 c77 r77 26:=.mk_ Tryz.f77 rfl
def c83:ACode :=
 (sq_ [pr_ 2 (mi_ .u8 0)]
 (sq_ [mv_ 4 0,
 c1_ 5 112 4,
 mv_ 3 5]
 (.seq (sq_ [mv_ 6 0,
 mv_ 7 3,
 pr_ 8 (.lenv (.tmp 7)),
 pr_ 9 (bk_ .gtr 8 .i64 0),
 cl_ 10 113 [(.tmp 6),(.const (.int .i64 1)),(.tmp 9)],
 pr_ 11 (no_ 10)]
 (.cond (.tmp 11)
 (sq_ [pr_ 2 (mi_ .u8 0)]
 .ret)
 .skip))
 (sq_ [mv_ 12 3,
 pr_ 13 (.iadrs 1 (.tmp 12) (.const (.int .i64 0))),
 pr_ 14 (lf_ 1 13),
 mv_ 2 14]
 .ret))))
def o83:List Tmp:=[]
def r83:List RV:=[.tmp 2]
theorem t83:Text Tryz.prog 83 o83 c83 r83 15:=.mk_ Tryz.f83 rfl
def c112:ACode :=
 (sq_ [pr_ 2 (.mov (.const (.slice none 0 0)))]
 (.seq (.draw [⟨mv_ 3 0,[],false,0,0⟩,
 ⟨pr_ 4 (nc_ 3),[0],false,0,0⟩,
 ⟨pr_ 5 (fa_ 0 4),[0,1],false,0,0⟩,
 ⟨pr_ 6 (lf_ 1 5),[0,1,2],false,0,0⟩,
 ⟨mv_ 7 0,[],false,0,0⟩,
 ⟨pr_ 8 (nc_ 7),[4],false,0,0⟩,
 ⟨pr_ 9 (fa_ 1 8),[4,5],false,0,0⟩,
 ⟨pr_ 10 (lf_ 1 9),[4,5,6],false,0,0⟩,
 ⟨pr_ 11 (.slcv 1 (.tmp 6) (some (.tmp 10)) none),(List.range 8),false,0,0⟩,
 ⟨mv_ 2 11,(List.range 9),false,0,0⟩])
 (.ghost (.shut 2) .ret)))
def o112:List Tmp:=[]
def r112:List RV:=[.tmp 2]
theorem t112:Text Tryz.prog 112 o112 c112 r112 12:=.mk_ Tryz.f112 rfl
def c113:ACode :=
 (sq_ [pr_ 6 mf_]
 (sq_ [mv_ 7 0,
 mv_ 8 0,
 pr_ 9 (nc_ 8),
 pr_ 10 (fa_ 2 9),
 pr_ 11 (lf_ 1 10),
 mv_ 12 11,
 gp_ 13 12 false (mo_ 2),
 gp_ 14 12 false (no_ 13),
 pr_ 15 (po_ 12 14),
 pr_ 16 (nc_ 7),
 pr_ 17 (fa_ 2 16),
 st_ (so_ 1 17 15)]
 (.seq (sq_ [mv_ 18 0,
 pr_ 19 (nc_ 18),
 pr_ 20 (fa_ 2 19),
 pr_ 21 (lf_ 1 20),
 pr_ 22 (no_ 21)]
 (.cond (.tmp 22)
 (.ops [mv_ 23 0,
 pr_ 24 (nc_ 23),
 pr_ 25 (fa_ 1 24),
 pr_ 26 (lf_ 1 25),
 mv_ 27 1,
 pr_ 28 (bt_ .add 26 27),
 pr_ 29 (nc_ 23),
 pr_ 30 (fa_ 1 29),
 st_ (so_ 1 30 28)])
 .skip))
 (sq_ [mv_ 31 0,
 pr_ 32 (nc_ 31),
 pr_ 33 (fa_ 2 32),
 pr_ 34 (lf_ 1 33),
 pr_ 35 (no_ 34),
 mv_ 6 35]
 .ret))))
def o113:List Tmp:=[]
def r113:List RV:=[.tmp 6]
theorem t113:Text Tryz.prog 113 o113 c113 r113 36:=.mk_ Tryz.f113 rfl
def c115:ACode :=
 (sq_ [pr_ 2 (mi_ .u64 0),
 pr_ 3 (mi_ .i64 0),
 pr_ 4 mf_]
 (sq_ [pr_ 5 (mi_ .u64 0)]
 (.seq (sq_ [mv_ 8 0,
 pr_ 9 (.lenv (.tmp 8)),
 pr_ 10 (mi_ .i64 0)]
 (.block 0 (.loop [0,1,2,3,4,6,7,11,12,13,14,15,16,17,18,19,20,21,22,23,24,25,26,27,28,29,30,31,32,33,34,35,36,37,38,39,40,41,42] (sq_ [pr_ 11 (bt_ .lss 10 9)]
 (.seq (.cond (.tmp 11)
 .skip
 (.exit 0))
 (.seq (.block 1 (sq_ [mv_ 12 10,
 pr_ 13 (.iadrs 1 (.tmp 8) (.tmp 10)),
 pr_ 14 (lf_ 1 13),
 mv_ 6 12,
 mv_ 7 14]
 (.seq (sq_ [mv_ 15 6,
 pr_ 16 (bk_ .eql 15 .i64 9),
 mv_ 17 16,
 gp_ 18 17 true (mo_ 7),
 gp_ 19 17 true (bk_ .gtr 18 .u8 1),
 pr_ 20 (pa_ 17 19),
 mv_ 21 20,
 gp_ 22 21 false (mo_ 6),
 gp_ 23 21 false (bk_ .gtr 22 .i64 0),
 gp_ 24 21 false (mo_ 23),
 gp_ 25 24 true (mo_ 7),
 gp_ 26 24 true (bk_ .eql 25 .u8 0),
 gp_ 27 21 false (pa_ 24 26),
 pr_ 28 (po_ 21 27)]
 (.cond (.tmp 28)
 (.exit 0)
 .skip))
 (sq_ [mv_ 29 5,
 mv_ 30 7,
 pr_ 31 (bk_ .and 30 .u8 127),
 pr_ 32 (.convi .u64 (.tmp 31)),
 mv_ 33 6,
 pr_ 34 (.bin false .mul (.const (.int .i64 7)) (.tmp 33)),
 pr_ 35 (bt_ .shl 32 34),
 pr_ 36 (bt_ .or 29 35),
 mv_ 5 36]
 (sq_ [mv_ 37 7,
 pr_ 38 (bk_ .lss 37 .u8 128)]
 (.cond (.tmp 38)
 (sq_ [mv_ 39 5,
 mv_ 40 6,
 pr_ 41 (bk_ .add 40 .i64 1),
 mv_ 2 39,
 mv_ 3 41,
 pr_ 4 mt_]
 .ret)
 .skip))))))
 (.ops [pr_ 42 (bk_ .add 10 .i64 1),
 mv_ 10 42])))))))
 (sq_ [pr_ 2 (mi_ .u64 0),
 pr_ 3 (mi_ .i64 0),
 pr_ 4 mf_]
 .ret))))
def o115:List Tmp:=[]
def r115:List RV:=[.tmp 2,.tmp 3,.tmp 4]
theorem t115:Text Tryz.prog 115 o115 c115 r115 43:=.mk_ Tryz.f115 rfl
def c116:ACode :=
 (sq_ [pr_ 4 (.mov (.const (.string (ByteArray.mk #[])))),
 pr_ 5 (mi_ .i64 0),
 pr_ 6 mf_]
 (sq_ [mv_ 12 0,
 c1_ 13 115 12,
 mv_ 11 13,
 pr_ 14 (ex_ 0 11),
 pr_ 15 (ex_ 1 11),
 pr_ 16 (ex_ 2 11),
 mv_ 7 14,
 mv_ 8 15,
 mv_ 9 16]
 (.seq (sq_ [mv_ 17 9,
 pr_ 18 (no_ 17),
 mv_ 19 18,
 gp_ 20 19 false (mo_ 1),
 gp_ 21 19 false (bk_ .lss 20 .i64 0),
 pr_ 22 (po_ 19 21),
 mv_ 23 22,
 gp_ 24 23 false (mo_ 7),
 gp_ 25 23 false (mo_ 1),
 gp_ 26 23 false (.convi .u64 (.tmp 25)),
 gp_ 27 23 false (bt_ .gtr 24 26),
 pr_ 28 (po_ 23 27),
 mv_ 29 28,
 gp_ 30 29 false (mo_ 7),
 gp_ 31 29 false (mo_ 0),
 gp_ 32 29 false (.lenv (.tmp 31)),
 gp_ 33 29 false (mo_ 8),
 gp_ 34 29 false (bt_ .sub 32 33),
 gp_ 35 29 false (.convi .u64 (.tmp 34)),
 gp_ 36 29 false (bt_ .gtr 30 35),
 pr_ 37 (po_ 29 36)]
 (.cond (.tmp 37)
 (sq_ [pr_ 4 (.mov (.const (.string (ByteArray.mk #[])))),
 pr_ 5 (mi_ .i64 0),
 pr_ 6 mf_]
 .ret)
 .skip))
 (sq_ [mv_ 38 8,
 mv_ 39 7,
 pr_ 40 (.convi .i64 (.tmp 39)),
 pr_ 41 (bt_ .add 38 40),
 mv_ 10 41]
 (sq_ [mv_ 42 0,
 mv_ 43 8,
 mv_ 44 10,
 pr_ 45 (.slcv 1 (.tmp 42) (some (.tmp 43)) (some (.tmp 44))),
 pr_ 46 (.b2s (.tmp 45)),
 mv_ 47 10,
 mv_ 4 46,
 mv_ 5 47,
 pr_ 6 mt_]
 .ret)))))
def o116:List Tmp:=[]
def r116:List RV:=[.tmp 4,.tmp 5,.tmp 6]
theorem t116:Text Tryz.prog 116 o116 c116 r116 48:=.mk_ Tryz.f116 rfl
end Go.Proofs.YtmkmhhjkdaklbaaGreat
namespace Go.Proofs.YtmkmhhjkdaklbaaGreat
open Go Go.Ab Go.Cod
set_option maxRecDepth 100000
abbrev UN (n:Nat):AV:=.pl (.int .u64 n)
def bc (c:UInt8):AV:=.pl (.int .u8 c.toNat)
def byv (b:Byt):List AV:=b.map bc
theorem z03 (b:Byt):(byv b).length=b.length:=List.length_map ..
theorem zgT:byv []=[]:=rfl
theorem z7t (c:UInt8) (b:Byt):byv (c::b)=bc c::byv b:=rfl
theorem z1H (a b:Byt):byv (a++b)=byv a++byv b:=List.map_append ..
theorem z0O (b:Byt) (k:Nat):(byv b).take k=byv (b.take k):=by simp[byv]
theorem z0P (b:Byt) (k:Nat):(byv b).drop k=byv (b.drop k):=by simp[byv]
theorem z8B (b:Byt):(byv b).isEmpty=b.isEmpty:=by simp[byv]
theorem z1z (b:Byt) (f:AV→Bool) (h:∀c:UInt8,f (bc c)=true):(byv b).all f=true:=by
 simp only[byv,List.all_map,List.all_eq_true];intro c _;exact h c
theorem z4U (b:Byt) (i:Nat) (h:i<b.length):(byv b)[i]?=some (bc b[i]):=by simp[byv,h]
theorem zi5 (n:Nat) (c:UInt8):Bel n (bc c):=.pl _
theorem z2d (n:Nat) (b:Byt):Bel n (.sl 1 (byv b)):=.sl 1 _ fun i hi=>by
 have:(byv b)[i]=bc (b[i]'(by rw[←z03];exact hi)):=by simp[byv]
 rw[this];exact zi5 n _
theorem zeW (s:ByteArray):(s.data.toList.map fun b=>(AV.pl (.int .u8 b.toNat)))=byv s.data.toList:=rfl
theorem z3N:∀b:Byt,byteL (byv b)=some (b.map fun c=>(c.toNat:Int))
 |[]=>rfl
 |c::b=>by simp only[z7t,bc,byteL,z3N b,Option.map_some,List.map_cons]
theorem z3V (b:Byt):textOf (b.map fun c=>(c.toNat:Int))=⟨b.toArray⟩:=by
 unfold textOf;congr 2
 rw[List.map_map]
 conv=>rhs;rw[←List.map_id b]
 apply List.map_congr_left;intro c _;simp
theorem z1T {n:Nat} (h:n<18446744073709551616):IntKind.u64.wrap (n:Int)=(n:Int):=by
 simp only[IntKind.wrap,IntKind.bits,IntKind.signed];simp;omega
theorem zaC {n:Nat}:IntKind.u8.wrap (n:Int)=((n%256:Nat):Int):=by
 simp only[IntKind.wrap,IntKind.bits,IntKind.signed];simp
theorem or128:∀m:Fin 256,IntKind.u8.wrap ((BitVec.ofInt 8 (m.val:Int) ||| BitVec.ofInt 8 128).toNat:Int)=((m.val%128+128:Nat):Int):=by decide +kernel
theorem bc_of {n:Nat} (h:n<256):AV.pl (.int .u8 n)=bc n.toUInt8:=by
 rw[bc,toNat_toUInt8 h]
theorem row1 (σ:St) (x:Ob):(σ++[x])[σ.length]?=some x:=by simp
theorem shr7 (n:Nat):((n:Int).fdiv (2^min (7:Int).toNat 64))=((n/128:Nat):Int):=by
 have:(min (7:Int).toNat 64)=7:=rfl;rw[this];rw[Int.fdiv_eq_ediv_of_nonneg _ (by decide)]
 rfl
theorem zaD:∀(k n:Nat),n<128^(k+1)→(putN n).length≤k+1
 |0,n,h=>by rw[z3M (by simpa using h)];simp
 |k+1,n,h=>by
  by_cases h1:n<128
  · rw[z3M h1];simp
  · rw[z65 h1,List.length_cons];have:=zaD k (n/128) (Nat.div_lt_of_lt_mul (by rw[Nat.pow_succ,Nat.mul_comm]at h;exact h))
    omega
theorem z0I {n:Nat} (h:n<18446744073709551616):(putN n).length≤10:=zaD 9 n (Nat.lt_of_lt_of_le h (by decide))
theorem zcX (n:Nat):IntKind.u8.wrap ((BitVec.ofInt 8 (((n%256:Nat):Int)) ||| BitVec.ofInt 8 128).toNat:Int)=((n%128+128:Nat):Int):=by
 have:=or128 ⟨n%256,Nat.mod_lt _ (by decide)⟩
 simp only[show(n%256)%128=n%128 by omega]at this
 exact this
theorem u8_or (n:Nat):IntKind.u8.wrap ((BitVec.ofInt IntKind.u8.bits (((n%256:Nat):Int)) ||| BitVec.ofInt IntKind.u8.bits 128).toNat:Int)=((n%128+128:Nat):Int):=zcX n
theorem intle (a b:Nat):decide ((a:Int)≤(b:Int))=decide (a≤b):=by rw[Bool.eq_iff_iff];simp
theorem Fini.ret3 {n m:Nat} {rvs:List RV} {r r':AV} {σ σ':St} {env:Env} (h:resA env σ rvs=some r') (e:r'=r) (e':σ=σ'):Fini m rvs r σ' .ret env σ:=by
 subst e;subst e';exact Fini.ret h
section
variable (σ:St)
theorem z7u (n:Nat) (hn:n<18446744073709551616):Ans Tryz.prog 71 [UN n] σ (.osl σ.length (putN n).length) (σ++[.row 1 (byv (putN n))]):=by
 have h10:=z0I hn;refine Ans.of_run t71 ?_;simp -implicitDefEqProofs only[c71,r71,go_sem];refine Go.Ab.L.intro (α:={ p:Nat×Byt // p.1<18446744073709551616∧p.2++putN p.1=putN n }) (fun p=>p.1.1) (fun p=>mkE 19 [(0,UN p.1.1),(3,.osl σ.length p.1.2.length)]) (fun p=>σ++[.row 1 (byv p.1.2)]) ?_ ⟨(n,[]),hn,rfl⟩ rfl rfl
 rintro⟨⟨m,pre⟩,hm,hp⟩ J hJ;have hl:pre.length+(putN m).length≤10:=by rw[←List.length_append,hp];exact h10
 have hx:∀c:Int,(byv pre++[AV.pl (.int .u8 c)]).length=pre.length+1:=fun c=>by simp[z03]
 have d0:=intle 128 m;simp only[Int.cast_ofNat_Int]at d0;have hw:=z1T hm;have hle:pre.length+1≤2^32:=by omega
 by_cases h:m<128
 · have d1:decide ((128:Int)≤m)=false:=by simp;omega
   have d2:IntKind.u8.wrap (m:Int)=m:=by rw[zaC];congr 1;omega
   simp -implicitDefEqProofs only[mkE,go_sem,d1,row1,z03,List.length_singleton,hle,d2];refine Fini.ret3 (n:=0) rfl ?_ ?_
   · show AV.osl σ.length (pre.length+1)=AV.osl σ.length (putN n).length;rw[←hp,z3M h];simp
   · rw[List.set_append_right _ _ (Nat.le_refl _)];simp only[Nat.sub_self,List.set_cons_zero];rw[←hp,z1H,z3M h,bc_of (show m<256 by omega)]
     rfl
 · have d1:decide ((128:Int)≤m)=true:=by simp;omega
   simp -implicitDefEqProofs only[mkE,go_sem,d1,row1,z03,List.length_singleton,hle,zaC (n:=m),u8_or,zcX,shr7,z1T (show m/128<18446744073709551616 by omega)]
   rw[List.set_append_right _ _ (Nat.le_refl _)];simp only[Nat.sub_self,List.set_cons_zero]
   have hgo:=hJ ⟨(m/128,pre++[(m%128+128).toUInt8]),by simp only;omega,by
    rw[←hp];simp only[List.append_assoc,List.singleton_append];rw[z65 h]⟩ (by simp only;omega)
   simp only[z1H,List.length_append,List.length_singleton]at hgo
   have key:∀v:Int,v=((m%128+128:Nat):Int)→J (mkE 19 [(0,UN (m/128)),(3,.osl σ.length (pre.length+1))]) (σ++[Ob.row 1 (byv pre++[AV.pl (.int .u8 v)])]):=by
    rintro _ rfl;rw[bc_of (show m%128+128<256 by omega)]
    exact hgo
   exact key _ (zcX m)
theorem z66 (s:ByteArray) (hs:s.size≤4294967280):Ans Tryz.prog 72 [Sx s] σ (.osl σ.length (txtB s).length) (σ++[.row 1 (byv (txtB s))]):=by
 have h10:=z0I (n:=s.size) (by omega)
 have hsz:=z3j s;have hw:=z1T (n:=s.size) (by omega)
 have hle:(putN s.size).length+s.size≤2^32:=by omega
 refine Ans.of_run' t72 (fun hbel _=>?_)
 simp -implicitDefEqProofs only[c72,r72,go_sem,hw];refine CO.intro (z7u σ s.size (by omega)) ?_
 simp -implicitDefEqProofs only[go_sem,zeW,row1,z03,hsz,hle];simp -implicitDefEqProofs only[go_sem,g0,s0,z03,hsz,←z1H,List.length_append];refine Fini.ret3 (n:=0) rfl ?_ rfl;show AV.osl σ.length ((putN s.size).length+s.size)=AV.osl σ.length (txtB s).length;unfold txtB;rw[List.length_append,hsz]
theorem z2e (s:ByteArray) (hs:s.size≤4294967280):Ans Tryz.prog 72 [Sx s] σ (.sl 1 (byv (txtB s))) σ :=
 (z66 σ s hs).shut (by rw[z03]) (z2d _ _)
end
def getV (b:Byt):AV:=match getN 0 b with
 |some p=>.tup [UN p.1,I (b.length-p.2.length:Nat),Bo true]
 |none=>.tup [UN 0,I 0,Bo false]
theorem z13 {b:Byt} (h:getN 0 b=none):getV b=.tup [UN 0,I 0,Bo false]:=by unfold getV;rw[h]
theorem z1a {b:Byt} {n:Nat} {t:Byt} (h:getN 0 b=some (n,t)):getV b=.tup [UN n,I (b.length-t.length:Nat),Bo true]:=by unfold getV;rw[h]
theorem zi6:∀m:Fin 256,IntKind.u8.wrap ((BitVec.ofInt 8 (m.val:Int) &&& BitVec.ofInt 8 127).toNat:Int)=((m.val%128:Nat):Int):=by decide +kernel
theorem u8_and (c:UInt8):IntKind.u8.wrap ((BitVec.ofInt IntKind.u8.bits (c.toNat:Int) &&& BitVec.ofInt IntKind.u8.bits 127).toNat:Int)=((c.toNat%128:Nat):Int):=zi6 ⟨c.toNat,c.toNat_lt⟩
theorem zcY (a d s:Nat) (ha:a<2^s) (hs:s<64) (hd:d*2^s<18446744073709551616) :
  IntKind.u64.wrap ((BitVec.ofInt IntKind.u64.bits (a:Int) ||| BitVec.ofInt IntKind.u64.bits (IntKind.u64.wrap ((d:Int)*2^min (((s:Nat):Int).toNat) IntKind.u64.bits))).toNat:Int)=((a+2^s*d:Nat):Int):=by
 have hm:min (((s:Nat):Int).toNat) IntKind.u64.bits=s:=by
  show min s 64=s;omega
 have ha2:a<18446744073709551616:=Nat.lt_of_lt_of_le ha (by
  calc 2^s≤2^63:=Nat.pow_le_pow_right (by decide) (by omega)
   _≤18446744073709551616:=by decide)
 rw[hm];have e1:((d:Int)*2^s)=((d*2^s:Nat):Int):=by push_cast;rfl
 rw[e1,z1T hd]
 have e2:(BitVec.ofInt IntKind.u64.bits (a:Int) ||| BitVec.ofInt IntKind.u64.bits ((d*2^s:Nat):Int)).toNat=a+2^s*d:=by
  rw[BitVec.toNat_or]
  have f:∀n:Nat,n<18446744073709551616→(BitVec.ofInt IntKind.u64.bits (n:Int)).toNat=n:=fun n hn=>by
   rw[BitVec.ofInt_natCast,BitVec.toNat_ofNat];exact Nat.mod_eq_of_lt hn
  rw[f a ha2,f _ hd,←Nat.shiftLeft_eq,Nat.or_comm,←Nat.shiftLeft_add_eq_or_of_lt ha,Nat.shiftLeft_eq,Nat.mul_comm,Nat.add_comm]
 rw[e2]
 have hlt:a+2^s*d<18446744073709551616:=by
  by_cases h0:d=0
  · subst h0;simpa using ha2
  · have h64:(18446744073709551616:Nat)=2^s*2^(64-s):=by rw[←Nat.pow_add,show s+(64-s)=64 by omega]
    have hd2:d<2^(64-s):=by
     rw[h64,Nat.mul_comm]at hd;exact Nat.lt_of_mul_lt_mul_left hd
    have:2^s*(d+1)≤2^s*2^(64-s):=Nat.mul_le_mul_left _ hd2;rw[Nat.mul_add,Nat.mul_one]at this;omega
 exact z1T hlt
def orT (a:Nat) (c:UInt8) (s:Nat):Int:=IntKind.u64.wrap ((BitVec.ofInt 64 (a:Int) ||| BitVec.ofInt 64 (IntKind.u64.wrap (IntKind.u64.wrap (IntKind.u8.wrap ((BitVec.ofInt 8 (c.toNat:Int) &&& BitVec.ofInt 8 127).toNat:Int))*2^min s 64))).toNat:Int)
theorem zi7 (a:Nat) (c:UInt8) (s:Nat) (ha:a<2^s) (hs:s<64) (hd:c.toNat%128*2^s<18446744073709551616):orT a c s=((a+2^s*(c.toNat%128):Nat):Int):=by
 have h1:=zcY a (c.toNat%128) s ha hs hd
 have h2:IntKind.u64.wrap (IntKind.u8.wrap ((BitVec.ofInt 8 (c.toNat:Int) &&& BitVec.ofInt 8 127).toNat:Int))=((c.toNat%128:Nat):Int):=by
  have:IntKind.u8.wrap ((BitVec.ofInt 8 (c.toNat:Int) &&& BitVec.ofInt 8 127).toNat:Int)=((c.toNat%128:Nat):Int):=u8_and c;rw[this];exact z1T (by omega)
 unfold orT;rw[h2];exact h1
theorem z8C {i:Nat} (h:i≤100):IntKind.i64.wrap (7*(i:Int))=((7*i:Nat):Int):=by rw[wrapN (by omega) (by omega)];push_cast;rfl
section
variable (σ:St)
theorem zaE (b:Byt) (hb:b.length≤100000):Ans Tryz.prog 115 [.sl 1 (byv b)] σ (getV b) σ:=by
 refine Ans.of_run t115 ?_;simp -implicitDefEqProofs only[c115,r115,go_sem,z03]
 refine Go.Ab.L.intro (α:={ p:Nat×Nat // p.1≤b.length∧p.1≤9∧p.2<2^(7*p.1)∧getN 0 b=(getN p.1 (b.drop p.1)).map fun q=>(p.2+2^(7*p.1)*q.1,q.2) }) (fun p=>b.length-p.1.1)
  (fun p=>mkE 43 [(5,UN p.1.2),(8,.sl 1 (byv b)),(9,I b.length),(10,I p.1.1)]) (fun _=>σ) ?_ ⟨(0,0),Nat.zero_le _,Nat.zero_le _,by simp,by cases h:getN 0 b<;>simp[h]⟩ rfl rfl
 rintro⟨⟨i,a⟩,hi,h9,ha,hg⟩ J hJ;simp only at hi h9 ha hg hJ;by_cases hlt:i<b.length
 · have hx:=z4U b i hlt;have hdr:b.drop i=b[i]::b.drop (i+1):=List.drop_eq_getElem_cons hlt;rw[hdr]at hg;have hcl:=(b[i]).toNat_lt;generalize hc:b[i]=c at hx hg hcl;have hbeq9:((i:Int)==9)=decide (i=9):=by rw[Bool.eq_iff_iff];simp;omega
   have hgt1:decide ((1:Int)<c.toNat)=decide (1<c.toNat):=by rw[Bool.eq_iff_iff];simp;omega
   have hgt0:decide ((0:Int)<i)=decide (0<i):=by rw[Bool.eq_iff_iff];simp
   have hbeq0:((c.toNat:Int)==0)=decide (c.toNat=0):=by rw[Bool.eq_iff_iff];simp
   have h128:decide ((c.toNat:Int)<128)=decide (c.toNat<128):=by rw[Bool.eq_iff_iff];simp;omega
   simp only[getN]at hg;by_cases hbad:(i=9∧1<c.toNat)∨(0<i∧c.toNat=0)
   · rw[if_pos hbad]at hg;simp only[Option.map_none]at hg;rw[z13 hg];rcases hbad with⟨h1,h2⟩|⟨h1,h2⟩
     · simp -implicitDefEqProofs only[mkE,go_sem,z03,z0f hlt,dec_lt hlt,hx,bc,hbeq9,hgt1,decide_eq_true h1,decide_eq_true h2];exact Fini.ret rfl
     · by_cases h3:i=9
       · have h4:decide (1<c.toNat)=false:=decide_eq_false (by omega)
         simp -implicitDefEqProofs only[mkE,go_sem,z03,z0f hlt,dec_lt hlt,hx,bc,hbeq9,hgt1,hgt0,hbeq0,decide_eq_true h1,decide_eq_true h2,decide_eq_true h3,h4];exact Fini.ret rfl
       · simp -implicitDefEqProofs only[mkE,go_sem,z03,z0f hlt,dec_lt hlt,hx,bc,hbeq9,hgt1,hgt0,hbeq0,decide_eq_true h1,decide_eq_true h2,decide_eq_false h3];exact Fini.ret rfl
   · rw[if_neg hbad]at hg;have hs:7*i<64:=by omega
     have hd:c.toNat%128*2^(7*i)<18446744073709551616:=by
      by_cases h3:i=9
      · subst h3;have:c.toNat≤1:=by omega
        have:c.toNat%128≤1:=by omega
        calc c.toNat%128*2^(7*9)≤1*2^63:=Nat.mul_le_mul_right _ this
         _<18446744073709551616:=by decide
      · have h4:c.toNat%128<2^7:=Nat.mod_lt _ (by decide)
        calc c.toNat%128*2^(7*i)<2^7*2^(7*i):=Nat.mul_lt_mul_of_pos_right h4 (Nat.two_pow_pos _)
         _=2^(7+7*i):=by rw[Nat.pow_add]
         _≤2^63:=Nat.pow_le_pow_right (by decide) (by omega)
         _<18446744073709551616:=by decide
     have hor:=zi7 a c (7*i) ha hs hd;have hin:=wrap_succ (i:=i) (by omega)
     have h7:=z8C (i:=i) (by omega)
     have go:∀(P:Prop),(decide (i=9)=true→decide (1<c.toNat)=false→P)→(decide (i=9)=false→P)→P:=fun P p q=>by
      by_cases h3:i=9
      · exact p (decide_eq_true h3) (decide_eq_false (by omega))
      · exact q (decide_eq_false h3)
     have go2:∀(P:Prop),(decide (0<i)=true→decide (c.toNat=0)=false→P)→(decide (0<i)=false→P)→P:=fun P p q=>by
      by_cases h3:0<i
      · exact p (decide_eq_true h3) (decide_eq_false (by omega))
      · exact q (decide_eq_false h3)
     by_cases hend:c.toNat<128
     · have e128:=decide_eq_true hend;rw[if_pos hend]at hg;simp only[Option.map_some]at hg;rw[z1a hg];have hmod:c.toNat%128=c.toNat:=Nat.mod_eq_of_lt hend
       have hfin:∀v:Int,v=((a+2^(7*i)*(c.toNat%128):Nat):Int)→(.tup [.pl (.int .u64 v),I ((i+1:Nat):Int),Bo true]:AV)=.tup [UN (a+2^(7*i)*c.toNat),I (b.length-(b.drop (i+1)).length:Nat),Bo true]:=by
        rintro _ rfl;rw[hmod,List.length_drop,show b.length-(b.length-(i+1))=i+1 by omega]
       refine go _ (fun x1 x2=>go2 _ (fun y1 y2=>?_) fun y1=>?_) fun x1=>go2 _ (fun y1 y2=>?_) fun y1=>?_
       · simp -implicitDefEqProofs only[mkE,go_sem,z03,z0f hlt,dec_lt hlt,hx,bc,hbeq9,hgt1,hgt0,hbeq0,x1,x2,y1,y2,h7,h128,e128,hin];exact Fini.ret' rfl (hfin _ hor)
       · simp -implicitDefEqProofs only[mkE,go_sem,z03,z0f hlt,dec_lt hlt,hx,bc,hbeq9,hgt1,hgt0,hbeq0,x1,x2,y1,h7,h128,e128,hin];exact Fini.ret' rfl (hfin _ hor)
       · simp -implicitDefEqProofs only[mkE,go_sem,z03,z0f hlt,dec_lt hlt,hx,bc,hbeq9,hgt1,hgt0,hbeq0,x1,y1,y2,h7,h128,e128,hin];exact Fini.ret' rfl (hfin _ hor)
       · simp -implicitDefEqProofs only[mkE,go_sem,z03,z0f hlt,dec_lt hlt,hx,bc,hbeq9,hgt1,hgt0,hbeq0,x1,y1,h7,h128,e128,hin];exact Fini.ret' rfl (hfin _ hor)
     · have e128:=decide_eq_false hend;rw[if_neg hend]at hg
       have hi9:i<9:=by
        rcases Nat.lt_or_eq_of_le h9 with h|h
        · exact h
        · omega
       have hgo:=hJ ⟨(i+1,a+2^(7*i)*(c.toNat%128)),by simp only;omega,by simp only;omega,(by
        simp only;have e1:2^(7*(i+1))=2^(7*i)*128:=by rw[Nat.mul_add,Nat.pow_add]
        have:c.toNat%128<128:=Nat.mod_lt _ (by decide)
        have:2^(7*i)*(c.toNat%128+1)≤2^(7*i)*128:=Nat.mul_le_mul_left _ this;rw[Nat.mul_add,Nat.mul_one]at this
        omega),(by
        simp only;rw[hg];have hm:c.toNat%128=c.toNat-128:=by omega
        cases getN (i+1) (b.drop (i+1)) with
        |none=>rfl
        |some q =>
         simp only[Option.map_some,Option.some.injEq,Prod.mk.injEq,and_true]
         rw[hm,show 7*(i+1)=7*i+7 by omega,Nat.pow_add,Nat.mul_add,Nat.add_assoc,←Nat.mul_assoc])⟩ (by simp only;omega)
       have key:∀v:Int,v=((a+2^(7*i)*(c.toNat%128):Nat):Int)→J (mkE 43 [(5,.pl (.int .u64 v)),(8,.sl 1 (byv b)),(9,I b.length),(10,I ((i+1:Nat):Int))]) σ:=by
        rintro _ rfl;exact hgo
       refine go _ (fun x1 x2=>go2 _ (fun y1 y2=>?_) fun y1=>?_) fun x1=>go2 _ (fun y1 y2=>?_) fun y1=>?_
       · simp -implicitDefEqProofs only[mkE,go_sem,z03,z0f hlt,dec_lt hlt,hx,bc,hbeq9,hgt1,hgt0,hbeq0,x1,x2,y1,y2,h7,h128,e128,hin];exact key _ hor
       · simp -implicitDefEqProofs only[mkE,go_sem,z03,z0f hlt,dec_lt hlt,hx,bc,hbeq9,hgt1,hgt0,hbeq0,x1,x2,y1,h7,h128,e128,hin];exact key _ hor
       · simp -implicitDefEqProofs only[mkE,go_sem,z03,z0f hlt,dec_lt hlt,hx,bc,hbeq9,hgt1,hgt0,hbeq0,x1,y1,y2,h7,h128,e128,hin];exact key _ hor
       · simp -implicitDefEqProofs only[mkE,go_sem,z03,z0f hlt,dec_lt hlt,hx,bc,hbeq9,hgt1,hgt0,hbeq0,x1,y1,h7,h128,e128,hin];exact key _ hor
 · have hn:b.drop i=[]:=List.drop_eq_nil_of_le (by omega)
   rw[hn]at hg;simp only[getN,Option.map_none]at hg;rw[z13 hg];simp -implicitDefEqProofs only[mkE,go_sem,z03,z30 hlt,z2D hlt];exact Fini.ret rfl
end
def textV (most:Nat) (b:Byt):AV:=match textR most b with
 |some p=>.tup [Sx p.1,I (b.length-p.2.length:Nat),Bo true]
 |none=>.tup [Sx ⟨#[]⟩,I 0,Bo false]
theorem z0R {most:Nat} {b:Byt} (h:textR most b=none):textV most b=.tup [Sx ⟨#[]⟩,I 0,Bo false]:=by unfold textV;rw[h]
theorem z1t {most:Nat} {b:Byt} {s:ByteArray} {t:Byt} (h:textR most b=some (s,t)):textV most b=.tup [Sx s,I (b.length-t.length:Nat),Bo true]:=by unfold textV;rw[h]
theorem z6Y {most:Nat} {b:Byt} (h:getN 0 b=none):textR most b=none:=by simp only[textR,numR,h,Option.bind_none]
theorem zaF {most:Nat} {b:Byt} {n:Nat} {t:Byt} (h:getN 0 b=some (n,t)):textR most b=if n≤most∧n≤t.length then some (⟨(t.take n).toArray⟩,t.drop n) else none:=by
 simp only[textR,numR,h,Option.bind_some];by_cases h1:n≤most
 · simp only[h1,if_true,Option.bind_some,true_and]
 · simp only[h1,if_false,Option.bind_none,false_and]
theorem decNN (a b:Nat):decide ((a:Int)<(b:Int))=decide (a<b):=by rw[Bool.eq_iff_iff];simp
theorem subN {a b:Nat} (h:b≤a) (ha:a≤100000):IntKind.i64.wrap ((a:Int)-(b:Int))=((a-b:Nat):Int):=by rw[wrapN (by omega) (by omega)];omega
theorem addN {a b:Nat} (h:a+b≤100000):IntKind.i64.wrap ((a:Int)+(b:Int))=((a+b:Nat):Int):=by rw[wrapN (by omega) (by omega)];omega
theorem wrapI {a:Nat} (h:a<9223372036854775808):IntKind.i64.wrap (a:Int)=(a:Int):=wrapN (by omega) (by omega)
section
variable (σ:St)
theorem z9K (b:Byt) (most:Nat) (hb:b.length≤100000) (hm:most<9223372036854775808):Ans Tryz.prog 116 [.sl 1 (byv b),I most] σ (textV most b) σ:=by
 refine Ans.of_run t116 ?_;simp -implicitDefEqProofs only[c116,r116,go_sem];refine CO.intro (zaE σ b hb) ?_;have hneg:decide ((most:Int)<0)=false:=by simp
 have hwm:=z1T (n:=most) (by omega)
 cases hg:getN 0 b with
 |none =>
  rw[z13 hg,z0R (z6Y hg)];simp -implicitDefEqProofs only[go_sem];exact Fini.ret rfl
 |some p =>
  obtain⟨n,t⟩:=p;obtain⟨hbt,hn,_⟩:=z5o b 0 n t (by omega) hg
  have hn:n<18446744073709551616:=hn;have hlen:b.length=(putN n).length+t.length:=by rw[hbt,List.length_append]
  have hk:b.length-t.length=(putN n).length:=by omega
  have hsub:=subN (a:=b.length) (b:=(putN n).length) (by omega) hb
  have hsub2:b.length-(putN n).length=t.length:=by omega
  have hwt:=z1T (n:=t.length) (by omega)
  have e1:decide ((most:Int)<n)=decide (most<n):=decNN most n;have e2:decide ((t.length:Int)<n)=decide (t.length<n):=decNN _ n;rw[z1a hg,hk];have hR:=zaF (most:=most) hg;by_cases h1:n≤most
  · have x1:decide (most<n)=false:=decide_eq_false (by omega)
    by_cases h2:n≤t.length
    · have x2:decide (t.length<n)=false:=decide_eq_false (by omega)
      rw[if_pos ⟨h1,h2⟩]at hR;have hwn:=wrapI (a:=n) (by omega)
      have hadd:=addN (a:=(putN n).length) (b:=n) (by omega)
      have hlo:((putN n).length:Int)≤((putN n).length+n:Nat):=by omega
      have hhi:(((putN n).length+n:Nat):Int)≤(b.length:Nat):=by omega
      have hcut:(b.take ((putN n).length+n)).drop (putN n).length=t.take n:=by
       rw[hbt,List.take_append,List.take_of_length_le (by omega),Nat.add_sub_cancel_left,List.drop_left]
      rw[z1t hR];simp -implicitDefEqProofs only[go_sem,hneg,hwm,e1,x1,hsub,hsub2,hwt,e2,x2,hwn,hadd,z03,hlo,hhi,AV.isStr,z0O,z0P,hcut,z1z,bc,z3N,z3V];refine Fini.ret' rfl ?_;rw[List.length_drop];have:b.length-(t.length-n)=(putN n).length+n:=by omega
      rw[this];rfl
    · have x2:decide (t.length<n)=true:=decide_eq_true (by omega)
      rw[if_neg (by omega)]at hR
      rw[z0R hR];simp -implicitDefEqProofs only[go_sem,hneg,hwm,e1,x1,z03,hsub,hsub2,hwt,e2,x2];exact Fini.ret rfl
  · have x1:decide (most<n)=true:=decide_eq_true (by omega)
    rw[if_neg (by omega)]at hR
    rw[z0R hR];simp -implicitDefEqProofs only[go_sem,hneg,hwm,e1,x1];exact Fini.ret rfl
end
abbrev rob (b:Byt) (q:Nat×Bool):Ob:=.box [.sl 1 (byv b),I q.1,Bo q.2]
theorem z69 {σ:St} {p:Nat} {o:Ob} (h:σ[p]?=some o) (x:Ob):(σ.set p x)[p]?=some x:=by
 have:=(List.getElem?_eq_some_iff.1 h).1;simp[this]
section
variable (σ:St) (p:Nat) (b:Byt) (q:Nat×Bool)
theorem z6a:Ans Tryz.prog 54 [.sl 1 (byv b)] σ (.ptr σ.length 0) (σ++[rob b (0,false)]):=by
 refine Ans.of_run t54 ?_;simp -implicitDefEqProofs only[c54,r54,go_sem];exact Fini.ret rfl
theorem z1e (h:σ[p]?=some (rob b q)) (hq:q.1≤b.length):Ans Tryz.prog 112 [.ptr p 0] σ (.sl 1 (byv (b.drop q.1))) σ:=by
 have h1:(q.1:Int)≤(b.length:Nat):=by omega
 refine Ans.of_run t112 ?_;simp -implicitDefEqProofs only[c112,r112,go_sem,h,z03,h1,z0O,z0P,List.take_length,Int.le_refl];exact Fini.ret rfl
theorem z1f (n:Nat) (ok:Bool) (h:σ[p]?=some (rob b q)) (hn:q.1+n≤100000):Ans Tryz.prog 113 [.ptr p 0,I n,Bo ok] σ (Bo !(took q n ok).2) (σ.set p (rob b (took q n ok))):=by
 obtain⟨a,bad⟩:=q;have h9:∀x,(σ.set p x)[p]?=some x:=z69 h;have hadd:=addN (a:=a) (b:=n) hn;unfold took;refine Ans.of_run t113 ?_
 cases bad with
 |true =>
  simp -implicitDefEqProofs only[c113,r113,go_sem,h,h9];exact Fini.ret rfl
 |false =>
  cases ok with
  |true =>
   simp -implicitDefEqProofs only[c113,r113,go_sem,h,h9,hadd,List.set_set];exact Fini.ret rfl
  |false =>
   simp -implicitDefEqProofs only[c113,r113,go_sem,h,h9];exact Fini.ret rfl
end
abbrev Fl (n:Nat):AV:=.pl (.float .f64 n)
structure RuM where
 src:List Mtr
 tgt:List Mtr
 any:Bool
 lo:Nat
 hi:Nat
 eq:List ByteArray
def txs (l:List ByteArray):List AV:=l.map fun s=>Sx s
def ruV (r:RuM):AV:=.agg [.sl 3 (mvs3 r.src),.sl 3 (mvs3 r.tgt),Bo r.any,Fl r.lo,Fl r.hi,.sl 1 (txs r.eq)]
theorem z0A (l:List ByteArray):(txs l).length=l.length:=List.length_map ..
theorem zcZ (l:List ByteArray) (i:Nat) (h:i<l.length):(txs l)[i]?=some (Sx l[i]):=by simp[txs,h]
theorem txs_D (l:List ByteArray) (i:Nat) (h:i<l.length):(txs l)[i]?=some (Sx (l.getD i ⟨#[]⟩)):=by
 rw[zcZ l i h,List.getD_eq_getElem?_getD,List.getElem?_eq_getElem h];rfl
def leF (a b:Nat):Bool:=FloatKind.f64.format.order a b==some .lt||FloatKind.f64.format.order a b==some .eq
theorem zd0 (a b:Nat):(FloatKind.f64.format.order a b==some .lt||FloatKind.f64.format.order a b==some .eq)=leF a b:=rfl
def nanF (a:Nat):Bool:=FloatKind.f64.format.order a a != some .eq
theorem z4E (a:Nat):(FloatKind.f64.format.order a a != some .eq)=nanF a:=rfl
def bitsF (a:Nat):Nat:=if nanF a then 9221120237041090561 else a
def mayB (any:Bool) (lo hi:Nat):Bool:=if any then(((bitsF lo:Nat):Int)==0)&&(((bitsF hi:Nat):Int)==0) else leF lo hi
def eqOk (e:List ByteArray) (i:Nat):Bool:=nameB (e.getD i ⟨#[]⟩)&& !(decide (0<i)&&leS (e.getD i ⟨#[]⟩) (e.getD (i-1) ⟨#[]⟩))
def eqB (e:List ByteArray):Bool:=decide (e.length≤4)&&(List.range e.length).all (eqOk e)
def ruIs (r:RuM):Bool:=!(((r.src.length:Nat):Int)==0)&&(!(((r.tgt.length:Nat):Int)==0)&&(listB r.src&&(listB r.tgt&&(mayB r.any r.lo r.hi&&eqB r.eq))))
section
variable (σ:St)
theorem zi8 (a:Nat):Ans Tryz.prog 132 [Fl a] σ (Bo (nanF a)) σ:=by
 refine Ans.of_run t132 ?_;simp -implicitDefEqProofs only[c132,r132,go_sem,z4E];exact Fini.ret rfl
theorem z6b (a:Nat):Ans Tryz.prog 47 [Fl a] σ (UN a) σ:=ext_bits.ok _ _ _ _ rfl
theorem z3v (a:Nat):Ans Tryz.prog 94 [Fl a] σ (UN (bitsF a)) σ:=by
 refine Ans.of_run t94 ?_;simp -implicitDefEqProofs only[c94,r94,go_sem];refine CO.intro (zi8 σ a) ?_;unfold bitsF
 cases nanF a with
 |true =>
  simp -implicitDefEqProofs only[go_sem];exact Fini.ret rfl
 |false =>
  simp -implicitDefEqProofs only[go_sem];refine CO.intro (z6b σ a) ?_;simp -implicitDefEqProofs only[go_sem];exact Fini.ret rfl
theorem z2f (any:Bool) (lo hi:Nat):Ans Tryz.prog 107 [.agg [Bo any,Fl lo,Fl hi]] σ (Bo (mayB any lo hi)) σ:=by
 refine Ans.of_run t107 ?_;unfold mayB
 cases any with
 |true =>
  simp -implicitDefEqProofs only[c107,r107,go_sem];refine CO.intro (z3v σ lo) ?_
  cases h:(((bitsF lo:Nat):Int)==0) with
  |false =>
   simp -implicitDefEqProofs only[go_sem,h];exact Fini.ret rfl
  |true =>
   simp -implicitDefEqProofs only[go_sem,h];refine CO.intro (z3v σ hi) ?_;simp -implicitDefEqProofs only[go_sem,h];exact Fini.ret rfl
 |false =>
  simp -implicitDefEqProofs only[c107,r107,go_sem,zd0];exact Fini.ret rfl
theorem z27 (r:RuM):Ans Tryz.prog 51 [ruV r] σ (Bo (ruIs r)) σ:=by
 obtain⟨src,tgt,any,lo,hi,eq⟩:=r;have d4:decide ((4:Int)<eq.length)=decide (4<eq.length):=decNN 4 _;refine Ans.of_run t51 ?_;unfold ruIs ruV;simp only
 cases h1:(((src.length:Nat):Int)==0) with
 |true =>
  simp -implicitDefEqProofs only[c51,r51,go_sem,z0n,h1];exact Fini.ret rfl
 |false =>
 cases h2:(((tgt.length:Nat):Int)==0) with
 |true =>
  simp -implicitDefEqProofs only[c51,r51,go_sem,z0n,h1,h2];exact Fini.ret rfl
 |false =>
 simp -implicitDefEqProofs only[c51,r51,go_sem,z0n,h1,h2];refine CO.intro (z1y σ src) ?_
 cases h3:listB src with
 |false =>
  simp -implicitDefEqProofs only[go_sem];exact Fini.ret rfl
 |true =>
 simp -implicitDefEqProofs only[go_sem];refine CO.intro (z1y σ tgt) ?_
 cases h4:listB tgt with
 |false =>
  simp -implicitDefEqProofs only[go_sem];exact Fini.ret rfl
 |true =>
 simp -implicitDefEqProofs only[go_sem];refine CO.intro (z2f σ any lo hi) ?_
 cases h5:mayB any lo hi with
 |false =>
  simp -implicitDefEqProofs only[go_sem];exact Fini.ret rfl
 |true =>
 unfold eqB;by_cases h6:eq.length≤4
 · have x4:decide (4<eq.length)=false:=decide_eq_false (by omega)
   rw[decide_eq_true h6];simp -implicitDefEqProofs only[go_sem,z0A,d4,x4];refine Go.Ab.L.scan eq.length (eqOk eq) (fun i=>mkE 65 [(1,.rp [.sl 3 (mvs3 src),.sl 3 (mvs3 tgt),Bo any,Fl lo,Fl hi,.sl 1 (txs eq)]),(40,.sl 1 (txs eq)),(41,I eq.length),(42,I i)]) (fun _=>σ) ?_ ?_ rfl rfl
   · intro i hi hp J hJ;have hx:=txs_D eq i hi;have hF:eqOk eq i=false→(List.range eq.length).all (eqOk eq)=false:=fun h=>List.all_eq_false.2 ⟨i,List.mem_range.2 hi,by rw[h];decide⟩
     have hin:=wrap_succ (i:=i) (by omega)
     have d0:decide ((0:Int)<i)=decide (0<i):=by rw[Bool.eq_iff_iff];simp
     have hO:eqOk eq i=(nameB (eq.getD i ⟨#[]⟩)&& !(decide (0<i)&&leS (eq.getD i ⟨#[]⟩) (eq.getD (i-1) ⟨#[]⟩))):=rfl;rw[hO]at hJ hF;simp -implicitDefEqProofs only[mkE,go_sem,z0A,z0f hi,dec_lt hi,hx];refine CO.intro (z5S σ _) ?_;generalize eq.getD i ⟨#[]⟩=s at hJ hF hx
     cases hb:nameB s with
     |false =>
      rw[hb]at hF;rw[hF rfl];simp -implicitDefEqProofs only[go_sem];exact Fini.ret rfl
     |true =>
      rw[hb]at hJ hF;by_cases hz:i=0
      · subst hz;have hgo:=hJ rfl;simp -implicitDefEqProofs only[go_sem,d0,hin];exact hgo
      · have hpos:decide (0<i)=true:=decide_eq_true (by omega)
        have hx1:=txs_D eq (i-1) (by omega)
        have w1:IntKind.i64.wrap ((i:Int)-1)=((i-1:Nat):Int):=by rw[wrapN (by omega) (by omega)];omega
        have hlt1:(((i-1:Nat):Int)<eq.length)=True:=by simp;omega
        rw[hpos]at hJ hF;generalize eq.getD (i-1) ⟨#[]⟩=s1 at hJ hF hx1;have hle:(Op.bytesLess s.toList s1.toList||s.toList==s1.toList)=leS s s1:=rfl;simp -implicitDefEqProofs only[go_sem,d0,hpos,w1,z0A,hlt1,hx1,hle]
        cases h7:leS s s1 with
        |true =>
         rw[h7]at hF;rw[hF rfl];simp -implicitDefEqProofs only[go_sem];exact Fini.ret rfl
        |false =>
         rw[h7]at hJ;have hgo:=hJ rfl;simp -implicitDefEqProofs only[go_sem,hin];exact hgo
   · intro hp J;have hd:decide ((eq.length:Int)<eq.length)=false:=by simp
     simp -implicitDefEqProofs only[mkE,go_sem,z0A,hd];refine Fini.ret' rfl (z0U ?_);exact(List.all_eq_true.2 fun i hi=>hp i (List.mem_range.1 hi)).symm
 · have x4:decide (4<eq.length)=true:=decide_eq_true (by omega)
   rw[decide_eq_false h6];simp -implicitDefEqProofs only[go_sem,z0A,d4,x4];exact Fini.ret rfl
end
end Go.Proofs.YtmkmhhjkdaklbaaGreat
namespace Go.Proofs.YtmkmhhjkdaklbaaGreat
open Go Go.Ab
set_option maxRecDepth 100000
def vals8:List ByteArray:=values++[⟨#[]⟩]
abbrev Mz:=Int×ByteArray×ByteArray
abbrev mv (x:Mz):AV:=mat x.1 x.2.1 x.2.2
def mvs (M:List Mz):List AV:=M.map mv
abbrev noM':Mz:=(0,⟨#[]⟩,⟨#[]⟩)
theorem z2g (M:List Mz):(mvs M).length=M.length:=List.length_map ..
theorem zgU (M:List Mz) (i:Nat) (h:i<M.length):(mvs M)[i]?=some (mv M[i]):=by simp[mvs,h]
theorem z7v (L:List Mz) (k:Nat):(mvs L).take k=mvs (L.take k):=by simp[mvs]
theorem z7w (L:List Mz) (k:Nat):(mvs L).drop k=mvs (L.drop k):=by simp[mvs]
theorem z9L (L:List Mz) (f:AV→Bool) (h:∀x:Mz,f (mv x)=true):(mvs L).all f=true:=by
 simp only[mvs,List.all_map,List.all_eq_true];exact fun x _=>h x
theorem z9M:mvs []=[]:=rfl
theorem z6c (L:List Mz):(mvs L).isEmpty=L.isEmpty:=by simp[mvs]
theorem z9N (A B:List Mz) (x:Mz):mvs (A++[x]++B)=mvs A++mv x::mvs B:=by simp[mvs]
theorem z4f (n:Nat) (L:List Mz):Bel n (.sl 3 (mvs L)):=by
 refine .sl 3 _ fun i hi=>?_
 have:∀y∈mvs L,Bel n y:=by
  intro y hy;simp only[mvs,List.mem_map]at hy;obtain⟨x,_,rfl⟩:=hy;exact z9x n _ _ _
 exact this _ (List.getElem_mem hi)
theorem B_mvs (n:Nat) (L:List Mz):Bel n (.sl 3 (mvs L))=True:=eq_true (z4f n L)
theorem B_mat (n:Nat) (k:Int) (a b:ByteArray):Bel n (mat k a b)=True:=eq_true (z9x n k a b)
theorem B_m1 (n:Nat) (k:Int) (a b:ByteArray):Bel n (.sl 3 [mat k a b])=True:=eq_true (z4f n [(k,a,b)])
theorem z7x (n:Nat) (L:List Mz) (k:Int) (a b:ByteArray):Bel n (.sl 3 (mat k a b::mvs L))=True:=eq_true (z4f n ((k,a,b)::L))
theorem zaG (n:Nat) (A B:List Mz) (k:Int) (a b:ByteArray):Bel n (.sl 3 (mvs A++mat k a b::mvs B))=True:=eq_true (by have:=z4f n (A++[(k,a,b)]++B);rwa [z9N]at this)
theorem B_rp3 (n:Nat) (k:Int) (a b:ByteArray):Bel n (.rp [I k,Sx a,Sx b])=True:=eq_true (.rp _ fun i hi=>by
 have:∀y∈[I k,Sx a,Sx b],Bel n y:=by
  intro y hy;simp only[List.mem_cons,List.not_mem_nil,or_false]at hy;rcases hy with rfl|rfl|rfl<;>exact .pl _
 exact this _ (List.getElem_mem hi))
abbrev dv (d:Int×Int×Int):AV:=.agg [I d.1,I d.2.1,I d.2.2]
theorem B_ds (n:Nat) (ds:List (Int×Int×Int)):Bel n (.sl 3 (ds.map dv))=True:=eq_true (.sl 3 _ fun i hi=>by
 have:∀y∈ds.map dv,Bel n y:=by
  intro y hy;simp only[List.mem_map]at hy;obtain⟨x,_,rfl⟩:=hy;refine .agg _ fun i hi=>?_
  have:∀y∈[I x.1,I x.2.1,I x.2.2],Bel n y:=by
   intro y hy;simp only[List.mem_cons,List.not_mem_nil,or_false]at hy;rcases hy with rfl|rfl|rfl<;>exact .pl _
  exact this _ (List.getElem_mem hi)
 exact this _ (List.getElem_mem hi))
theorem B_d3 (n:Nat) (a b c:Int):Bel n (.agg [I a,I b,I c])=True:=eq_true (.agg _ fun i hi=>by
 have:∀y∈[I a,I b,I c],Bel n y:=by
  intro y hy;simp only[List.mem_cons,List.not_mem_nil,or_false]at hy;rcases hy with rfl|rfl|rfl<;>exact .pl _
 exact this _ (List.getElem_mem hi))
theorem B_rpd (n:Nat) (a b c:Int):Bel n (.rp [I a,I b,I c])=True:=eq_true (.rp _ fun i hi=>by
 have:∀y∈[I a,I b,I c],Bel n y:=by
  intro y hy;simp only[List.mem_cons,List.not_mem_nil,or_false]at hy;rcases hy with rfl|rfl|rfl<;>exact .pl _
 exact this _ (List.getElem_mem hi))
def z3l (x y:Mz):Bool :=
 if !(x.2.1.toList==y.2.1.toList) then Op.bytesLess x.2.1.toList y.2.1.toList
 else if x.1 != y.1 then decide (x.1<y.1) else Op.bytesLess x.2.2.toList y.2.2.toList
def eqM (x y:Mz):Bool:=x.1==y.1&&(x.2.1.toList==y.2.1.toList&&x.2.2.toList==y.2.2.toList)
def posM (out:List Mz) (x:Mz):Nat→Nat
 |0=>0
 |n+1=>if z3l x (out.getD n noM') then posM out x n else n+1
def insM (out:List Mz) (x:Mz):List Mz :=
 let p:=posM out x out.length
 if decide (0<p)&&eqM (out.getD (p-1) noM') x then out else out.take p++[x]++out.drop p
def matOf (d:Int×Int×Int):Mz:=(inD d.1 1 4,nameOf d.2.1,z3e d.1 d.2.2)
def z0w:List (Int×Int×Int)→List Mz→List Mz
 |[],out=>out
 |d::ds,out=>if out.length<5 then z0w ds (insM out (matOf d)) else out
section
variable (σ:St)
theorem zd1 (x y:Mz):Ans Tryz.prog 124 [mv x,mv y] σ (Bo (z3l x y)) σ:=by
 unfold z3l;refine Ans.of_run t124 ?_;simp -implicitDefEqProofs only[c124,r124,go_sem];cases h1:x.2.1.toList==y.2.1.toList
 · simp -implicitDefEqProofs only[go_sem];exact Fini.ret rfl
 · simp -implicitDefEqProofs only[go_sem];cases h2:x.1 != y.1
   · simp -implicitDefEqProofs only[go_sem];exact Fini.ret rfl
   · simp -implicitDefEqProofs only[go_sem];exact Fini.ret rfl
def mustL (b:Bool) (L:List Mz):List Mz:=if b&&L.isEmpty then[(1,⟨#[115,101,118]⟩,⟨#[97]⟩)] else L
def slotM (L:List Mz):AV:=if L.isEmpty then .nils else .sl 3 (mvs L)
theorem zd2:slotM []=.nils:=rfl
theorem z7y {L:List Mz} (h:L≠[]):slotM L=.sl 3 (mvs L):=by
 unfold slotM
 cases L with
 |nil=>exact absurd rfl h
 |cons _ _=>rfl
theorem z7z (out:List Mz) (x:Mz):insM out x≠[]:=by
 unfold insM;simp only;split
 · rename_i h;intro e;subst e;simp[posM]at h
 · simp
theorem z6d:∀(ds:List (Int×Int×Int)) (out:List Mz),out≠[]→z0w ds out≠[]
 |[],out,h=>h
 |d::ds,out,h=>by
  rw[z0w];split
  · exact z6d ds _ (z7z _ _)
  · exact h
theorem zgV (must:Bool) (ds:List (Int×Int×Int)) (hne:ds≠[]) (hl:ds.length≤9223372036854775807):Ans Tryz.prog 79 [.sl 3 (ds.map dv),Bo must] σ (.sl 3 (mvs (z0w ds []))) σ:=by
 have hresne:z0w ds []≠[]:=by
  cases ds with
  |nil=>exact absurd rfl hne
  |cons d ds =>
   rw[z0w,if_pos (by decide)]
   exact z6d ds _ (z7z _ _)
 refine Ans.of_run' t79 (fun hbel _=>?_)
 have hbel':(∀o∈σ,BelO σ.length o)=True:=eq_true hbel;simp -implicitDefEqProofs only[c79,r79,go_sem,B_pl,B_any,z2E,B_tup,B_osl,B_ptr,B_sl0,B_mvs,B_mat,B_m1,z7x,zaG,B_rp3,B_ds,B_d3,B_rpd,List.take_left,hbel',g0,s0,List.length_append,Nat.le_add_right];generalize hres:z0w ds []=res at hresne⊢;have hdl:(((ds.map dv).length:Nat):Int)=(ds.length:Nat):=by simp
 refine Go.Ab.L.intro (α:={ x:Nat×List Mz // x.1≤ds.length∧x.2.length≤5∧z0w (ds.drop x.1) x.2=res }) (fun x=>ds.length-x.1.1)
  (fun x=>mkE 73 [(0,.sl 3 (ds.map dv)),(1,Bo must),(5,slotM x.1.2),(6,I x.1.1)]) (fun _=>σ)
  (fun x J hJ=>?_) ⟨(0,[]),Nat.zero_le _,Nat.zero_le _,hres⟩ rfl rfl
 obtain⟨⟨i,out⟩,hi,ho,hg⟩:=x;simp only at hi ho hg hJ⊢;by_cases hout:out=[]
 · subst hout;by_cases hlt:i<ds.length
   · have hget:(ds.map dv)[i]?=some (dv ds[i]):=by simp[hlt]
     rw[List.drop_eq_getElem_cons hlt,z0w,if_pos (by decide)]at hg
     have hws:IntKind.i64.wrap ((i:Int)+1)=((i+1:Nat):Int):=by rw[wrapN (by omega) (by omega)];rfl
     have hin:insM [] (matOf ds[i])=[matOf ds[i]]:=rfl;rw[hin]at hg;have hJ':=hJ ⟨(i+1,[matOf ds[i]]),hlt,by simp,hg⟩ (by simp only;omega)
     simp only at hJ';rw[z7y (by simp)]at hJ'
     clear hJ hg;rw[zd2];simp -implicitDefEqProofs only[mkE,go_sem,hdl,z0f hlt,dec_lt hlt,hget];refine CO.intro (z5I σ _ _ _) ?_;have hxx:matOf ds[i]=(inD ds[i].1 1 4,nameOf ds[i].2.1,z3e ds[i].1 ds[i].2.2):=rfl;rw[hxx]at hJ';generalize inD ds[i].1 1 4=xk at hJ'⊢;generalize nameOf ds[i].2.1=xn at hJ'⊢;generalize z3e ds[i].1 ds[i].2.2=xv at hJ'⊢;simp -implicitDefEqProofs only[go_sem,z2g]
     refine Go.Ab.L.intro (α:=Unit) (fun x=>0)
      (fun x=>mkE 73 [(0,.sl 3 (ds.map dv)),(1,Bo must),(5,.sl 3 []),(6,I i),(7,.rp [I xk,Sx xn,Sx xv]),(8,I 0)]) (fun _=>σ)
      (fun x J2 hJ2=>?_) () rfl rfl
     have h1:(1≤2^32)=True:=by simp
     have h1':(1≤4294967296)=True:=by simp
     have hmv:mvs [(xk,xn,xv)]=[.agg [I xk,Sx xn,Sx xv]]:=rfl;rw[hmv]at hJ';simp -implicitDefEqProofs only[mkE,go_sem,Int.natCast_zero,Int.le_refl,Int.toNat_zero,List.take_length,List.drop_zero,List.drop_nil,z9M,z7v,z7w,z9L,z6c,z2g,g0,s0,B_pl,B_any,z2E,B_tup,B_osl,B_ptr,B_sl0,B_mvs,B_mat,B_m1,z7x,zaG,B_rp3,B_ds,B_d3,B_rpd,h1,h1',List.take_left,hbel',List.length_append,List.append_assoc,Nat.le_add_right,hws,hws];exact hJ'
   · have:i=ds.length:=by omega
     subst this;rw[List.drop_length,z0w]at hg;exact absurd hg.symm hresne
 rw[z7y hout]
 have hJ2:∀(a':{ x:Nat×List Mz // x.1≤ds.length∧x.2.length≤5∧z0w (ds.drop x.1) x.2=res }),a'.1.2≠[]→ds.length-a'.1.1<ds.length-i→J (mkE 73 [(0,.sl 3 (ds.map dv)),(1,Bo must),(5,.sl 3 (mvs a'.1.2)),(6,I a'.1.1)]) σ:=fun a' h1 h2=>by
  have:=hJ a' h2;rw[z7y h1]at this;exact this
 clear hJ;by_cases hlt:i<ds.length
 · have hget:(ds.map dv)[i]?=some (dv ds[i]):=by simp[hlt]
   have d5:decide (((out.length:Nat):Int)<5)=decide (out.length<5):=by rw[Bool.eq_iff_iff];simp only[decide_eq_true_eq];omega
   rw[List.drop_eq_getElem_cons hlt,z0w]at hg;simp -implicitDefEqProofs only[mkE,go_sem,hdl,z0f hlt,dec_lt hlt,z2g,d5];by_cases h5:out.length<5
   · rw[if_pos h5]at hg;have h5':decide (out.length<5)=true:=by simpa using h5
     have hws:IntKind.i64.wrap ((i:Int)+1)=((i+1:Nat):Int):=by rw[wrapN (by omega) (by omega)];rfl
     have hJ':=hJ2 ⟨(i+1,insM out (matOf ds[i])),hlt,by
      unfold insM;simp only;split
      · exact ho
      · simp;omega,hg⟩ (z7z _ _) (by simp only;omega)
     simp only at hJ';clear hJ2 hg;simp -implicitDefEqProofs only[go_sem,h5',hget,hdl,z0f hlt];refine CO.intro (z5I σ _ _ _) ?_;simp -implicitDefEqProofs only[go_sem,z2g];have hx:mat (inD ds[i].1 1 4) (nameOf ds[i].2.1) (z3e ds[i].1 ds[i].2.2)=mv (matOf ds[i]):=rfl;unfold insM at hJ';simp only at hJ';generalize hp:posM out (matOf ds[i]) out.length=p at hJ';have hxx:matOf ds[i]=(inD ds[i].1 1 4,nameOf ds[i].2.1,z3e ds[i].1 ds[i].2.2):=rfl;rw[hxx]at hp hJ';generalize inD ds[i].1 1 4=xk at hp hJ'⊢;generalize nameOf ds[i].2.1=xn at hp hJ'⊢;generalize z3e ds[i].1 ds[i].2.2=xv at hp hJ'⊢
     refine Go.Ab.L.intro (α:={ n:Nat // n≤out.length∧posM out (xk,xn,xv) n=p }) (fun x=>x.1)
      (fun x=>mkE 73 [(0,.sl 3 (ds.map dv)),(1,Bo must),(5,.sl 3 (mvs out)),(6,I i),(7,.rp [I xk,Sx xn,Sx xv]),(8,I x.1)]) (fun _=>σ)
      (fun x J2 hJ2=>?_) ⟨out.length,Nat.le_refl _,hp⟩ rfl rfl
     obtain⟨n,hn,hpn⟩:=x;simp only at hJ2⊢
     cases n with
     |zero =>
      rw[posM]at hpn;subst hpn;have h1:(1≤2^32)=True:=by simp
      have d00:decide ((0:Int)<((0:Nat):Int))=false:=by decide
      have hp32:(1+out.length≤2^32)=True:=by simp;omega
      have q1:(1+out.length=out.length+1)=True:=by simp;omega
      rw[show decide (0<0)=false from rfl,Bool.false_and,if_neg Bool.false_ne_true,z9N]at hJ'
      simp -implicitDefEqProofs only[mkE,go_sem,q1,d00,Int.natCast_zero,Int.le_refl,Int.toNat_zero,List.take_length,List.drop_zero,List.drop_nil,z9M,z7v,z7w,z9L,z6c,z2g,g0,s0,B_pl,B_any,z2E,B_tup,B_osl,B_ptr,B_sl0,B_mvs,B_mat,B_m1,z7x,zaG,B_rp3,B_ds,B_d3,B_rpd,hp32,h1,List.take_left,hbel',List.length_append,List.append_assoc,Nat.le_add_right,hws];exact hJ'
     |succ n =>
      have hy:=zgU out n hn;have hgd:out.getD n noM'=out[n]:=by rw[List.getD_eq_getElem?_getD,List.getElem?_eq_getElem hn];rfl
      have d0:decide ((0:Int)<((n+1:Nat):Int))=true:=by simp
      have e1:IntKind.i64.wrap (((n+1:Nat):Int)-1)=(n:Int):=by rw[wrapN (by omega) (by omega)];omega
      rw[posM,hgd]at hpn;have ha:=fun s=>zd1 s (xk,xn,xv) out[n]
      have heq:∀y:Mz,eqM y (xk,xn,xv)=(y.1==xk&&(y.2.1.toList==xn.toList&&y.2.2.toList==xv.toList)):=fun _=>rfl
      simp -implicitDefEqProofs only[mkE,go_sem,z00,d0,e1,z2g,z0f hn,hy]
      first|refine CO.intro (ha _) ?_|refine CD.intro (ha _) ?_|refine CS.intro ha ?_
      cases hb:z3l (xk,xn,xv) out[n]
      · rw[hb,if_neg Bool.false_ne_true]at hpn;subst hpn;rw[show decide (0<n+1)=true by simp,Bool.true_and,show n+1-1=n from rfl,hgd,heq]at hJ'
        have p1:(((n+1:Nat):Int)≤(out.length:Nat))=True:=by simp;omega
        have p2:(out.take (n+1)).isEmpty=false:=by
         cases h:out.take (n+1) with
         |nil =>
          have:(out.take (n+1)).length=0:=by rw[h];rfl
          rw[List.length_take]at this;omega
         |cons _ _=>rfl
        have p3:(out.take (n+1)).length=n+1:=by simp;omega
        have p4:(out.drop (n+1)).length=out.length-(n+1):=by simp
        have p5:(n+1≤2^32)=True:=by simp;omega
        have p6:(n+1+1≤2^32)=True:=by simp;omega
        have p7:(n+1+1+(out.length-(n+1))≤2^32)=True:=by simp;omega
        have q2:(n+1+1+(out.length-(n+1))=n+1+(out.length-(n+1)+1))=True:=by simp;omega
        simp -implicitDefEqProofs only[go_sem,z00,d0,e1,z2g,z0f hn,hy];cases he:(out[n].1==xk&&(out[n].2.1.toList==xn.toList&&out[n].2.2.toList==xv.toList))
        · rw[he,if_neg Bool.false_ne_true,z9N]at hJ';simp -implicitDefEqProofs only[go_sem,he,q2,Int.natCast_zero,Int.le_refl,Int.toNat_zero,List.take_length,List.drop_zero,List.drop_nil,z9M,z7v,z7w,z9L,z6c,z2g,g0,s0,B_pl,B_any,z2E,B_tup,B_osl,B_ptr,B_sl0,B_mvs,B_mat,B_m1,z7x,zaG,B_rp3,B_ds,B_d3,B_rpd,List.take_left,hbel',List.length_append,List.append_assoc,Nat.le_add_right,hws,p1,p2,p3,p4,p5,p6,p7];exact hJ'
        · rw[he,if_pos rfl]at hJ';simp -implicitDefEqProofs only[go_sem,he,hws];exact hJ'
      · rw[hb,if_pos rfl]at hpn;have hJ2':=hJ2 ⟨n,by omega,hpn⟩ (Nat.lt_succ_self n)
        simp only at hJ2';simp -implicitDefEqProofs only[mkE,go_sem,z00,d0,e1,z2g,z0f hn,hy];exact hJ2'
   · rw[if_neg h5]at hg;have h5':decide (out.length<5)=false:=by simpa using h5
     have h0:((out.length:Int)==0)=false:=by simp;omega
     subst hg
     cases must with
     |true =>
      simp -implicitDefEqProofs only[go_sem,h5',z2g,h0];exact Fini.ret rfl
     |false =>
      simp -implicitDefEqProofs only[go_sem,h5',z2g];exact Fini.ret rfl
 · have:i=ds.length:=by omega
   subst this;rw[List.drop_length,z0w]at hg
   have h0:((out.length:Int)==0)=false:=by
    cases out with
    |nil=>exact absurd rfl hout
    |cons a b=>simp;omega
   subst hg
   cases must with
   |true =>
    simp -implicitDefEqProofs only[mkE,go_sem,hdl,z30 hlt,z2D hlt,z2g,h0];exact Fini.ret rfl
   |false =>
    simp -implicitDefEqProofs only[mkE,go_sem,hdl,z30 hlt,z2D hlt,z2g];exact Fini.ret rfl
theorem z3O (must:Bool) (ds:List (Int×Int×Int)) (hl:ds.length≤9223372036854775807):Ans Tryz.prog 79 [.sl 3 (ds.map dv),Bo must] σ (.sl 3 (mvs (mustL must (z0w ds [])))) σ:=by
 cases ds with
 |cons d ds =>
  have hne:z0w (d::ds) []≠[]:=by
   rw[z0w,if_pos (by decide)]
   exact z6d ds _ (z7z _ _)
  have e:mustL must (z0w (d::ds) [])=z0w (d::ds) []:=by
   unfold mustL
   cases h:z0w (d::ds) [] with
   |nil=>exact absurd h hne
   |cons _ _=>simp
  rw[e];exact zgV σ must (d::ds) (by simp) hl
 |nil =>
  have d0:decide ((0:Int)<((0:Nat):Int))=false:=by decide
  cases must with
  |false =>
   have:Ans Tryz.prog 79 [.sl 3 (([]:List (Int×Int×Int)).map dv),Bo false] σ .nils σ:=by
    refine Ans.of_run t79 ?_;simp -implicitDefEqProofs only[c79,r79,go_sem];refine Go.Ab.L.intro (α:=Unit) (fun x=>0) (fun x=>mkE 73 [(0,.sl 3 []),(1,Bo false),(5,.nils),(6,I 0)]) (fun _=>σ) (fun x J2 hJ2=>?_) () rfl rfl
    simp -implicitDefEqProofs only[mkE,go_sem,d0];exact Fini.ret rfl
   exact this.subR (.nils 3)
  |true =>
   refine Ans.of_run' t79 (fun hbel _=>?_)
   have h1:(1≤2^32)=True:=by simp
   simp -implicitDefEqProofs only[c79,r79,go_sem];refine Go.Ab.L.intro (α:=Unit) (fun x=>0) (fun x=>mkE 73 [(0,.sl 3 []),(1,Bo true),(5,.nils),(6,I 0)]) (fun _=>σ) (fun x J2 hJ2=>?_) () rfl rfl
   have b0:(((0:Nat):Int)==0)=true:=by decide
   simp -implicitDefEqProofs only[mkE,go_sem,d0,b0,h1,g0,s0];exact Fini.trim2 (σ':=σ) rfl rfl (Nat.le_refl _) (z4f _ [(1,⟨#[115,101,118]⟩,⟨#[97]⟩)]) hbel
end
def allV:List ByteArray:=vals8++pats
instance:DecidableEq ByteArray:=fun a b=>decidable_of_iff (a.data=b.data) (by cases a;cases b;simp)
theorem zd3:∀a∈names,∀b∈names,(a.toList==b.toList||(Op.bytesLess a.toList b.toList||Op.bytesLess b.toList a.toList))=true:=by decide +kernel
theorem zeY:∀a∈allV,∀b∈allV,(a.toList==b.toList||(Op.bytesLess a.toList b.toList||Op.bytesLess b.toList a.toList))=true:=by decide +kernel
structure MOK (x:Mz):Prop where
 lo:1≤x.1
 hi:x.1≤4
 nm:x.2.1∈names
 low:x.1<3→x.2.2∈vals8
 high:¬x.1<3→x.2.2∈pats
theorem MOK.val {x:Mz} (h:MOK x):x.2.2∈allV:=by
 unfold allV;by_cases h3:x.1<3
 · exact List.mem_append_left _ (h.low h3)
 · exact List.mem_append_right _ (h.high h3)
theorem zbB (k v:Int) (h:inD k 1 4<3):z3e k v∈vals8:=by
 unfold z3e;rw[if_pos h];split
 · simp[vals8]
 · have:=z5H v;simp[vals8,this]
theorem z9O (k v:Int) (h:¬inD k 1 4<3):z3e k v∈pats:=by
 unfold z3e;rw[if_neg h];exact zcq v
theorem zaH (d:Int×Int×Int):MOK (matOf d) :=
 ⟨(z50 d.1 1 4 (by omega)).1,(z50 d.1 1 4 (by omega)).2,z6H _,zbB _ _,z9O _ _⟩
theorem z8D (a b:List UInt8):(a==b)=(b==a):=by rw[Bool.eq_iff_iff,beq_iff_eq,beq_iff_eq];exact eq_comm
theorem tri {x y:Mz} (hx:MOK x) (hy:MOK y) (h:z3l x y=false) (he:eqM y x=false):z3l y x=true:=by
 have h1:=zd3 _ hx.nm _ hy.nm;have h2:=zeY _ hx.val _ hy.val;unfold z3l at h⊢;unfold eqM at he;rw[z8D y.2.1.toList]at he⊢;rw[z8D y.2.2.toList]at he;cases e1:x.2.1.toList==y.2.1.toList
 · rw[e1]at h h1;simp only[Bool.not_false,if_true,Bool.false_or]at h h1⊢;rw[h]at h1;simpa using h1
 · rw[e1]at h he;simp only[Bool.not_true,Bool.false_eq_true,if_false,Bool.true_and]at h he⊢;by_cases e2:x.1=y.1
   · have n1:(x.1 != y.1)=false:=by simp[e2]
     have n2:(y.1 != x.1)=false:=by simp[e2]
     have n3:(y.1==x.1)=true:=by simp[e2]
     rw[n1]at h;rw[n3]at he;rw[n2];simp only[Bool.false_eq_true,if_false,Bool.true_and]at h he⊢;rw[he,h]at h2;simpa using h2
   · have n1:(x.1 != y.1)=true:=by simp[e2]
     have n2:(y.1 != x.1)=true:=by simp[Ne.symm e2]
     rw[n1]at h;rw[n2];simp only[if_true,decide_eq_false_iff_not,decide_eq_true_eq]at h⊢;omega
def Adj (M:List Mz):Prop:=∀i a b,M[i]?=some a→M[i+1]?=some b→z3l a b=true
theorem z8E (out:List Mz) (x:Mz):∀n,posM out x n≤n∧(0<posM out x n→z3l x (out.getD (posM out x n-1) noM')=false)∧(posM out x n<n→z3l x (out.getD (posM out x n) noM')=true)
 |0=>⟨Nat.le_refl _,fun h=>absurd h (Nat.lt_irrefl _),fun h=>absurd h (Nat.lt_irrefl _)⟩
 |n+1=>by
  rw[posM];cases h:z3l x (out.getD n noM')
  · simp only[Bool.false_eq_true,if_false];exact⟨Nat.le_refl _,fun _=>h,fun h=>absurd h (Nat.lt_irrefl _)⟩
  · simp only[if_true];obtain⟨h1,h2,h3⟩:=z8E out x n;refine⟨Nat.le_succ_of_le h1,h2,fun hlt=>?_⟩
    rcases Nat.lt_or_ge (posM out x n) n with h4|h4
    · exact h3 h4
    · have:posM out x n=n:=by omega
      rw[this];exact h
theorem zgW (out:List Mz) (x:Mz) (p:Nat) (hp:p≤out.length) (j:Nat):(out.take p++[x]++out.drop p)[j]?=if j<p then out[j]? else if j=p then some x else out[j-1]?:=by
 have hl:(out.take p).length=p:=by simp;omega
 rw[List.append_assoc];split
 · rename_i h;rw[List.getElem?_append_left (by omega),List.getElem?_take,if_pos h]
 · rename_i h;rw[List.getElem?_append_right (by omega),hl]
   split
   · rename_i h2;subst h2;simp
   · rename_i h2;rw[List.singleton_append,show j-p=(j-1-p)+1 by omega,List.getElem?_cons_succ,List.getElem?_drop]
     congr 1
     omega
theorem zd4 {out:List Mz} {i:Nat} {a:Mz} (h:out[i]?=some a):out.getD i noM'=a:=by
 rw[List.getD_eq_getElem?_getD,h];rfl
theorem zeZ {out:List Mz} {x:Mz} (hx:MOK x) (ho:∀y∈out,MOK y) (ha:Adj out):Adj (insM out x):=by
 obtain⟨h1,h2,h3⟩:=z8E out x out.length;unfold insM;simp only;generalize posM out x out.length=p at h1 h2 h3;split
 · exact ha
 · rename_i hc;intro i a b hia hib;rw[zgW out x p h1]at hia hib;by_cases c1:i+1<p
   · rw[if_pos (by omega)]at hia
     rw[if_pos c1]at hib;exact ha i a b hia hib
   · by_cases c2:i+1=p
     · rw[if_pos (by omega)]at hia
       rw[if_neg c1,if_pos c2]at hib;simp only[Option.some.injEq]at hib;subst hib;have hp0:0<p:=by omega
       have hg:=zd4 hia;have h4:=h2 hp0;rw[show p-1=i by omega,hg]at h4
       have he:eqM a x=false:=by
        cases h:eqM a x
        · rfl
        · rw[show p-1=i by omega,hg,h]at hc
          simp[hp0]at hc
       exact tri hx (ho a (List.mem_of_getElem? hia)) h4 he
     · by_cases c3:i=p
       · rw[if_neg (by omega),if_pos c3]at hia
         rw[if_neg c1,if_neg c2,show i+1-1=i by omega,c3]at hib
         simp only[Option.some.injEq]at hia;subst hia;have hlt:p<out.length:=(List.getElem?_eq_some_iff.1 hib).1;have h4:=h3 hlt
         rwa [zd4 hib]at h4
       · rw[if_neg (by omega),if_neg c3]at hia
         rw[if_neg c1,if_neg c2]at hib;refine ha (i-1) a b hia ?_;rw[show i-1+1=i+1-1 by omega]
         exact hib
theorem zgX {out:List Mz} {x:Mz} (hx:MOK x) (ho:∀y∈out,MOK y):∀y∈insM out x,MOK y:=by
 unfold insM;simp only;split
 · exact ho
 · intro y hy;rcases List.mem_append.1 hy with hy|hy
   · rcases List.mem_append.1 hy with hy|hy
     · exact ho y (List.mem_of_mem_take hy)
     · simp only[List.mem_cons,List.not_mem_nil,or_false]at hy;subst hy;exact hx
   · exact ho y (List.mem_of_mem_drop hy)
theorem zf0 (out:List Mz) (x:Mz):(insM out x).length≤out.length+1:=by
 unfold insM;simp only;split
 · omega
 · simp;omega
theorem zd5 (ds:List (Int×Int×Int)):∀out,out.length≤5→(∀y∈out,MOK y)→Adj out→(z0w ds out).length≤5∧(∀y∈z0w ds out,MOK y)∧Adj (z0w ds out):=by
 induction ds with
 |nil=>intro out h1 h2 h3;exact⟨h1,h2,h3⟩
 |cons d ds ih =>
  intro out h1 h2 h3;rw[z0w];split
  · have:=zf0 out (matOf d);exact ih _ (by omega) (zgX (zaH d) h2) (zeZ (zaH d) h2 h3)
  · exact⟨h1,h2,h3⟩
theorem zd6 (ds:List (Int×Int×Int)):(z0w ds []).length≤5∧(∀y∈z0w ds [],MOK y)∧Adj (z0w ds []) :=
 zd5 ds [] (Nat.zero_le _) (fun y hy=>by cases hy) (fun i a b h=>by simp at h)
end Go.Proofs.YtmkmhhjkdaklbaaGreat
namespace Go.Proofs.YtmkmhhjkdaklbaaGreat
open Go Go.Ab Go.Cod
set_option maxRecDepth 100000
def z2s (ns:List Int):List Lab:=if z3E (setL (labs ns)) then setL (labs ns) else[]
theorem zd7 (σ:St) (ns:List Int):Ans Tryz.prog 101 [.sl 1 (ns.map I)] σ (.sl 2 (lvs (z2s ns))) σ:=by
 refine(zbm σ ns).subR ?_;unfold setV z2s;split
 · exact .refl _
 · exact .nils 2
def bandV (b:Bool×Nat×Nat):AV:=.agg [Bo b.1,Fl b.2.1,Fl b.2.2]
theorem z1C (n:Nat) (b:Bool×Nat×Nat):Bel n (bandV b):=.agg _ fun i hi=>by
 have:∀y∈([Bo b.1,Fl b.2.1,Fl b.2.2]:List AV),Bel n y:=by
  intro y hy;simp only[List.mem_cons,List.not_mem_nil,or_false]at hy;rcases hy with rfl|rfl|rfl<;>exact .pl _
 exact this _ (List.getElem_mem hi)
def ltF (a b:Nat):Bool:=FloatKind.f64.format.order a b==some .lt
theorem zgY (a b:Nat):(FloatKind.f64.format.order a b==some .lt)=ltF a b:=rfl
def z0H (sel:Int) (lo hi:Nat):Bool×Nat×Nat :=
 if sel.tmod 3==0||(nanF lo||nanF hi) then(true,0,0) else if ltF hi lo then(false,hi,lo) else(false,lo,hi)
section
variable (σ:St)
theorem z7A (sel:Int) (lo hi:Nat):Ans Tryz.prog 80 [.agg [I sel,Fl lo,Fl hi]] σ (bandV (z0H sel lo hi)) σ:=by
 have hbb:=fun b=>z1C σ.length b
 unfold bandV at hbb⊢;refine Ans.of_run' t80 (fun hbel _=>?_)
 unfold z0H
 cases h1:(sel.tmod 3==0) with
 |true =>
  simp -implicitDefEqProofs only[c80,r80,go_sem,h1,List.append_assoc,List.length_append,g0,s0,g1,s1,Bool.true_or];exact Fini.trim2 (σ':=σ) (ex:=[_,_]) (by simp -implicitDefEqProofs only[go_sem,resA,z02,rvA,oneOf,g0]) rfl (Nat.le_refl _) (hbb (true,0,0)) hbel
 |false =>
  simp -implicitDefEqProofs only[c80,r80,go_sem,h1,List.append_assoc,List.length_append,g0,s0,g1,s1,z4E,Bool.false_or]
  cases h2:nanF lo with
  |true =>
   simp -implicitDefEqProofs only[go_sem,g0,s0,g1,s1,Bool.true_or];exact Fini.trim2 (σ':=σ) (ex:=[_,_]) (by simp -implicitDefEqProofs only[go_sem,resA,z02,rvA,oneOf,g0]) rfl (Nat.le_refl _) (hbb (true,0,0)) hbel
  |false =>
   simp -implicitDefEqProofs only[go_sem,g0,s0,g1,s1,z4E,Bool.false_or]
   cases h3:nanF hi with
   |true =>
    simp -implicitDefEqProofs only[go_sem,g0,s0,g1,s1];exact Fini.trim2 (σ':=σ) (ex:=[_,_]) (by simp -implicitDefEqProofs only[go_sem,resA,z02,rvA,oneOf,g0]) rfl (Nat.le_refl _) (hbb (true,0,0)) hbel
   |false =>
    simp -implicitDefEqProofs only[go_sem,g0,s0,g1,s1,zgY]
    cases h4:ltF hi lo with
    |true =>
     simp -implicitDefEqProofs only[go_sem,g0,s0,g1,s1];exact Fini.trim2 (σ':=σ) (ex:=[_,_]) (by simp -implicitDefEqProofs only[go_sem,resA,z02,rvA,oneOf,g0]) rfl (Nat.le_refl _) (hbb (false,hi,lo)) hbel
    |false =>
     simp -implicitDefEqProofs only[go_sem,g0,s0,g1,s1];exact Fini.trim2 (σ':=σ) (ex:=[_,_]) (by simp -implicitDefEqProofs only[go_sem,resA,z02,rvA,oneOf,g0]) rfl (Nat.le_refl _) (hbb (false,lo,hi)) hbel
end
end Go.Proofs.YtmkmhhjkdaklbaaGreat
