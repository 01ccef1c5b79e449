/- Words, values and bands as bytes, by the document. No condition. -/
import Derived.Test.YtmkmhhjkdaklbaaGreatXMRcbq
import Derived.Test.YtmkmhhjkdaklbaaGreatProg
import Derived.Test.YtmkmhhjkdaklbaaGreatAbStepq
import Derived.Test.YtmkmhhjkdaklbaaGreatXLs2q
set_option linter.unusedSimpArgs false
set_option linter.unusedVariables false
set_option linter.unusedSectionVars false
namespace Go.Proofs.YtmkmhhjkdaklbaaGreat
open Go Go.Ab Go.Cod
set_option maxRecDepth 100000
section
variable (σ:St)
theorem z2j (n:Nat):Ans Tryz.prog 97 [UN n] σ (.sl 1 (byv (wrdB n))) σ:=by
 refine Ans.of_run' t97 (fun hbel _=>?_)
 have z8:Int.toNat 8=8:=rfl
 simp -implicitDefEqProofs only[c97,r97,go_sem,mks8,z8,g0,s0,List.length_cons,List.length_nil]
 refine Go.Ab.L.count 8 (fun i=>mkE 21 [(0,UN n),(3,.osl σ.length 8),(4,I i)]) (fun i=>σ++[.row 1 (fillW n i)]) ?_ ?_ rfl rfl
 · intro i hi J hJ
   have hl:=z34 n i (by omega)
   have d0:decide ((i:Int)<8)=true:=by simp;omega
   have w1:IntKind.i64.wrap (8*(i:Int))=((8*i:Nat):Int):=by rw[wrapN (by omega) (by omega)];push_cast;rfl
   have w2:IntKind.i64.wrap (56-((8*i:Nat):Int))=((56-8*i:Nat):Int):=by rw[wrapN (by omega) (by omega)];omega
   have w3:=z1x (n:=56-8*i) (by omega)
   have h3:=shrN n (56-8*i) (by omega)
   rw[Int.toNat_natCast]at h3
   have hlt:((i:Int)<((8:Nat):Int))=True:=eq_true (by omega)
   have hget:(fillW n i)[i]?=some Zb:=z66 n i hi
   have hin:=wrap_succ (i:=i) (by omega)
   have hset:(fillW n i).set i (.pl (.int .u8 ((n/2^(56-8*i)).toUInt8.toNat:Nat)))=fillW n (i+1):=z65 n i hi
   simp -implicitDefEqProofs only[mkE,go_sem,d0,w1,w2,w3,h3,zbo,g0,s0,hl,hin,hset,hlt,hget]
   exact hJ
 · intro J
   have hl:=z34 n 8 (by omega)
   have d0:decide (((8:Nat):Int)<8)=false:=by decide
   have e8:fillW n 8=byv (wrdB n):=by unfold fillW;rw[List.take_of_length_le (by rw[z06,z18];omega)];simp
   simp -implicitDefEqProofs only[mkE,go_sem,d0,g0,s0,hl,e8]
   exact Fini.trim2 (σ':=σ) rfl rfl (Nat.le_refl _) (z0M _ _) hbel
theorem z2u (x:Bnd):Ans Tryz.prog 74 [bandV x] σ (.sl 1 (byv (putBd x))) σ:=by
 obtain⟨any,lo,hi⟩:=x
 refine Ans.of_run' t74 (fun hbel _=>?_)
 unfold bandV putBd
 cases any with
 |true =>
  simp -implicitDefEqProofs only[c74,r74,go_sem]
  exact Fini.ret rfl
 |false =>
  have i1:=fun s=>z0t s lo
  have i2:=fun s=>z0t s hi
  have i3:=fun s=>z2j s (bitsF lo)
  have i4:=fun s=>z2j s (bitsF hi)
  have l1:(wrdB (bitsF lo)).length=8:=rfl
  have l2:(wrdB (bitsF hi)).length=8:=rfl
  unfold putV
  generalize wrdB (bitsF lo)=a at i3 l1⊢
  generalize wrdB (bitsF hi)=c at i4 l2⊢
  have p1:(1+8≤2^32)=True:=eq_true (by decide)
  have p2:(1+8+8≤2^32)=True:=eq_true (by decide)
  simp -implicitDefEqProofs only[c74,r74,go_sem,z0p]
  first|refine CD.intro (i1 _) ?_|refine CS.intro i1 ?_
  simp -implicitDefEqProofs only[go_sem,z0p]
  first|refine CD.intro (i3 _) ?_|refine CS.intro i3 ?_
  simp -implicitDefEqProofs only[go_sem,z0p,g0,s0,z06,z0b,bc,l1,p1,List.length_cons,List.length_nil,List.length_append]
  first|refine CD.intro (i2 _) ?_|refine CS.intro i2 ?_
  simp -implicitDefEqProofs only[go_sem,z0p]
  first|refine CD.intro (i4 _) ?_|refine CS.intro i4 ?_
  simp -implicitDefEqProofs only[go_sem,z0p,g0,s0,z06,z0b,bc,l1,l2,p2,List.length_cons,List.length_nil,List.length_append]
  exact Fini.trim2 (σ':=σ) (ex:=[_]) (by rw[z77,z08];rfl) rfl (Nat.le_refl _) (z0M _ _) hbel
end
section
variable (σ:St)
theorem z5t (n:Nat) (hn:n<18446744073709551616):Ans Tryz.prog 75 [UN n] σ (.sl 1 (byv (putN n))) σ:=(z3B σ n hn).shut (by rw[z06]) (z0M _ _)
theorem z67 (r:RuM) (hr:RSm r):Ans Tryz.prog 20 [ruV r] σ (.sl 1 (byv (z0S r))) σ:=by
 have hi:=fun s=>z15 s r hr
 unfold z0S
 cases hR:ruIs r with
 |false =>
  have:Ans Tryz.prog 20 [ruV r] σ .nils σ:=by
   refine Ans.of_run t20 ?_
   unfold ruV at hi⊢
   simp -implicitDefEqProofs only[c20,r20,go_sem]
   refine CO.intro (hi _) ?_
   rw[hR]
   simp -implicitDefEqProofs only[go_sem]
   exact Fini.ret rfl
  exact this.subR (.nils 1)
 |true =>
  obtain⟨h1,h2,h3,h4,h5⟩:=z32 hR
  have hpl:=z3D hR
  have m1:=fun s=>z4T s r.src hr.src h1
  have m2:=fun s=>z4U s r.tgt hr.tgt
  have e2:z14 r.tgt=putL r.tgt:=by unfold z14;rw[h2];rfl
  rw[e2]at m2
  have b1:=fun s=>z2u s (r.any,r.lo,r.hi)
  unfold bandV at b1
  have n1:=fun s=>z5t s r.eq.length (by omega)
  have hw:=z1x (n:=r.eq.length) (by omega)
  have hl0:=z4m hR
  have e3:byv (putL r.src)++byv (putL r.tgt)++byv (putBd (r.any,r.lo,r.hi))++byv (putN r.eq.length)=byv (preR r 0):=by
   rw[z35,headR];simp only[z08,List.append_assoc]
  have e4:(putL r.src).length+(putL r.tgt).length+(putBd (r.any,r.lo,r.hi)).length+(putN r.eq.length).length=(preR r 0).length:=by
   rw[z35,headR];simp only[List.length_append];omega
  have hp0:=hpl 0 (Nat.zero_le _)
  rw[←e4]at hp0
  have q1:(putL r.src).length+(putL r.tgt).length≤4294967296:=by omega
  have q2:(putL r.src).length+(putL r.tgt).length+(putBd (r.any,r.lo,r.hi)).length≤4294967296:=by omega
  have q3:(putL r.src).length+(putL r.tgt).length+(putBd (r.any,r.lo,r.hi)).length+(putN r.eq.length).length≤4294967296:=by omega
  refine Ans.of_run' t20 (fun hbel _=>?_)
  unfold ruV at hi⊢
  simp -implicitDefEqProofs only[c20,r20,go_sem]
  refine CO.intro (hi _) ?_
  rw[hR]
  simp -implicitDefEqProofs only[go_sem]
  refine CD.intro (m1 _) ?_
  simp -implicitDefEqProofs only[go_sem]
  refine CD.intro (m2 _) ?_
  simp -implicitDefEqProofs only[go_sem,g0,s0,z06,z0b,bc,q1,List.length_append]
  refine CD.intro (b1 _) ?_
  simp -implicitDefEqProofs only[go_sem,g0,s0,z06,z0b,bc,q1,q2,z0o,hw,List.length_append]
  refine CO.intro (n1 _) ?_
  simp -implicitDefEqProofs only[go_sem,g0,s0,z06,z0b,bc,q1,q2,q3,z0o,hw,List.length_append]
  refine Go.Ab.L.count r.eq.length (fun i=>mkE 42 [(1,.rp [.sl 3 (mvs3 r.src),.sl 3 (mvs3 r.tgt),Bo r.any,Fl r.lo,Fl r.hi,.sl 1 (txs r.eq)]),(3,.osl σ.length (preR r i).length),(4,I i)]) (fun i=>σ++[.row 1 (byv (preR r i))]) ?_ ?_ (by rw[←e4];rfl) (by rw[←e3])
  · intro i hi J hJ
    have hx:=z4h r.eq i hi
    have hs:=h5 r.eq[i] (List.getElem_mem hi)
    have hp:=hpl (i+1) (by omega)
    rw[z4l r i hi]at hJ hp
    generalize r.eq[i]=s at hx hs hJ hp
    generalize preR r i=pre at hJ hp⊢
    have hin:=wrap_succ (i:=i) (by omega)
    rw[List.length_append]at hp hJ
    have l1:pre.length+(txtB s).length≤4294967296:=by omega
    simp -implicitDefEqProofs only[mkE,go_sem,z0o,z0r hi,dec_lt hi,hx]
    refine CO.intro (z19 _ s (by omega)) ?_
    simp -implicitDefEqProofs only[go_sem,g0,s0,z06,z0b,bc,l1,hin]
    simp only[z08]at hJ
    exact hJ
  · intro J
    have d0:decide ((r.eq.length:Int)<r.eq.length)=false:=by simp
    simp -implicitDefEqProofs only[mkE,go_sem,z0o,d0,g0,s0,z06,z5p]
    exact Fini.trim2 (σ':=σ) (ex:=[_]) rfl rfl (Nat.le_refl _) (z0M _ _) hbel
end
end Go.Proofs.YtmkmhhjkdaklbaaGreat
namespace Go.Proofs.YtmkmhhjkdaklbaaGreat
open Go Go.Ab
set_option maxRecDepth 100000
def c35:ACode :=
 (sq_ [pr_ 1 (.boxr (.tmp 0)),
 pr_ 2 mf_]
 (sq_ [pr_ 3 (fa_ 0 1),
 pr_ 4 (lf_ 1 3),
 c1_ 5 86 4,
 mv_ 6 5,
 gp_ 7 6 true (lt_ 19 1),
 gc_ 8 6 true 87 [(.tmp 7)],
 pr_ 9 (pa_ 6 8),
 mv_ 2 9]
 .ret))
def o35:List Tmp:=[]
def r35:List RV:=[.tmp 2]
theorem t35:Text Tryz.prog 35 o35 c35 r35 10:=.mk_ Tryz.f35 rfl
def c37:ACode :=
 (sq_ [pr_ 1 (.boxr (.tmp 0)),
 pr_ 2 (.mov (.const (.slice none 0 0)))]
 (.seq (sq_ [pr_ 7 (lt_ 19 1),
 c1_ 8 87 7,
 pr_ 9 (no_ 8)]
 (.cond (.tmp 9)
 (sq_ [pr_ 2 (.mov (.const (.slice none 0 0)))]
 (.ghost (.shut 2) .ret))
 .skip))
 (sq_ [pr_ 10 (fa_ 1 1),
 pr_ 11 (lf_ 1 10),
 pr_ 12 (.convi .u8 (.tmp 11)),
 pr_ 13 (.bsl true 1 false 1 [.pl (.int .u8 0)] [(0,1,(.tmp 12))]),
 pr_ 3 (.allocm [.nils]),
 st_ (so_ 1 3 13)]
 (sq_ [pr_ 15 (fa_ 1 1),
 pr_ 16 (lf_ 1 15),
 c1_ 17 90 16,
 mv_ 14 17,
 pr_ 18 (ex_ 0 14),
 pr_ 19 (ex_ 1 14),
 ⟨some 4,none,.fresh 1 4 (.tmp 18)⟩,
 mv_ 5 19]
 (sq_ [pr_ 20 (.mkfn 91 [] [(.tmp 4),(.tmp 3)]),
 mv_ 6 20]
 (sq_ [mv_ 21 6,
 pr_ 22 (fa_ 2 1),
 pr_ 23 (lf_ 1 22),
 pr_ 24 (.convi .u64 (.tmp 23)),
 c1_ 25 71 24,
 pr_ 26 (.bsl false 1 false 1 [.nils] [(0,1,(.tmp 25))]),
 ⟨some 27,none,.call (.tmp 21) [(.const (.int .i64 1)),(.tmp 26)]⟩]
 (sq_ [mv_ 28 6,
 pr_ 29 (fa_ 3 1),
 pr_ 30 (lf_ 1 29),
 c1_ 31 72 30,
 pr_ 32 (.bsl false 1 false 1 [.nils] [(0,1,(.tmp 31))]),
 ⟨some 33,none,.call (.tmp 28) [(.const (.int .i64 2)),(.tmp 32)]⟩]
 (.seq (.draw [⟨mv_ 34 6,[],false,0,2⟩,
 ⟨pr_ 35 (fa_ 4 1),[],false,0,0⟩,
 ⟨pr_ 36 (lf_ 1 35),[1],false,0,0⟩,
 ⟨c1_ 37 71 36,[1,2],true,0,0⟩,
 ⟨pr_ 38 (fa_ 5 1),[],false,0,1⟩,
 ⟨pr_ 39 (lf_ 1 38),[4],false,0,1⟩,
 ⟨c1_ 40 71 39,[1,2,3,4,5],true,0,0⟩,
 ⟨pr_ 41 (.bsl false 1 false 2 [.nils] [(0,1,(.tmp 37)),(1,1,(.tmp 40))]),[1,2,3,4,5,6],false,2,2⟩,
 ⟨⟨some 42,none,.call (.tmp 34) [(.const (.int .i64 4)),(.tmp 41)]⟩,(List.range 8),true,0,0⟩])
 (sq_ [mv_ 43 6,
 pr_ 44 (fa_ 6 1),
 pr_ 45 (lf_ 1 44),
 pr_ 46 (.convi .u8 (.tmp 45)),
 pr_ 47 (.bsl false 1 false 1 [.pl (.int .u8 0)] [(0,1,(.tmp 46))]),
 pr_ 48 (.bsl false 1 false 1 [.nils] [(0,1,(.tmp 47))]),
 ⟨some 49,none,.call (.tmp 43) [(.const (.int .i64 8)),(.tmp 48)]⟩]
 (sq_ [mv_ 50 6,
 pr_ 51 (fa_ 7 1),
 pr_ 52 (lf_ 1 51),
 c1_ 53 69 52,
 pr_ 54 (.bsl false 1 false 1 [.nils] [(0,1,(.tmp 53))]),
 ⟨some 55,none,.call (.tmp 50) [(.const (.int .i64 16)),(.tmp 54)]⟩]
 (sq_ [mv_ 56 6,
 pr_ 57 (fa_ 8 1),
 pr_ 58 (lt_ 3 57),
 c1_ 59 70 58,
 pr_ 60 (.bsl false 1 false 1 [.nils] [(0,1,(.tmp 59))]),
 ⟨some 61,none,.call (.tmp 56) [(.const (.int .i64 64)),(.tmp 60)]⟩]
 (sq_ [mv_ 62 6,
 pr_ 63 (fa_ 11 1),
 pr_ 64 (lt_ 6 63),
 c1_ 65 19 64,
 pr_ 66 (.bsl false 1 false 1 [.nils] [(0,1,(.tmp 65))]),
 ⟨some 67,none,.call (.tmp 62) [(.const (.int .i64 128)),(.tmp 66)]⟩]
 (sq_ [mv_ 68 6,
 pr_ 69 (fa_ 17 1),
 pr_ 70 (lf_ 1 69),
 c1_ 71 92 70,
 pr_ 72 (.bsl false 1 false 1 [.nils] [(0,1,(.tmp 71))]),
 ⟨some 73,none,.call (.tmp 68) [(.const (.int .i64 256)),(.tmp 72)]⟩]
 (sq_ [mv_ 74 6,
 pr_ 75 (fa_ 18 1),
 pr_ 76 (lf_ 1 75),
 c1_ 77 94 76,
 c1_ 78 93 77,
 pr_ 79 (.bsl false 1 false 1 [.nils] [(0,1,(.tmp 78))]),
 ⟨some 80,none,.call (.tmp 74) [(.const (.int .i64 512)),(.tmp 79)]⟩]
 (sq_ [pr_ 81 (lf_ 1 3),
 mv_ 2 81]
 (.ghost (.shut 2) .ret))))))))))))))))
def o37:List Tmp:=[3,13]
def r37:List RV:=[.tmp 2]
theorem t37:Text Tryz.prog 37 o37 c37 r37 82:=.mk_ Tryz.f37 rfl
def c39:ACode :=
 (sq_ [pr_ 1 (.boxr (.tmp 0)),
 pr_ 2 (.mov (.const (.slice none 0 0)))]
 (.seq (sq_ [pr_ 3 (lt_ 19 1),
 c1_ 4 35 3,
 pr_ 5 (no_ 4)]
 (.cond (.tmp 5)
 (sq_ [pr_ 2 (.mov (.const (.slice none 0 0)))]
 (.ghost (.shut 2) .ret))
 .skip))
 (.seq (.draw [⟨pr_ 6 (fa_ 0 1),[],false,0,0⟩,
 ⟨pr_ 7 (lf_ 1 6),[0],false,0,0⟩,
 ⟨c1_ 8 72 7,[0,1],true,0,0⟩,
 ⟨pr_ 9 (lt_ 19 1),[],false,0,1⟩,
 ⟨c1_ 10 37 9,[0,1,2,3],true,0,0⟩,
 ⟨pr_ 11 (.app 1 (.tmp 8) (.tmp 10)),[0,1,2,3,4],true,0,0⟩,
 ⟨mv_ 2 11,(List.range 6),false,3,3⟩])
 (.ghost (.shut 2) .ret))))
def o39:List Tmp:=[]
def r39:List RV:=[.tmp 2]
theorem t39:Text Tryz.prog 39 o39 c39 r39 12:=.mk_ Tryz.f39 rfl
def c43:ACode :=
 (sq_ [pr_ 2 (.allocm z19_),
 pr_ 3 mf_]
 (sq_ [mv_ 7 0,
 c1_ 8 54 7,
 mv_ 4 8]
 (sq_ [mv_ 9 4,
 cl_ 10 60 [(.tmp 9),(.const (.int .i64 16))],
 mv_ 5 10]
 (sq_ [mv_ 11 4,
 mv_ 12 5,
 c1_ 13 86 12,
 cl_ 14 61 [(.tmp 11),(.tmp 13)]]
 (sq_ [mv_ 15 4,
 c1_ 16 103 15,
 pr_ 6 (.allocm z19_),
 st_ (so_ 19 6 16)]
 (sq_ [mv_ 17 5,
 pr_ 18 (fa_ 0 6),
 st_ (so_ 1 18 17)]
 (sq_ [pr_ 19 (lt_ 19 6),
 mv_ 20 4,
 mv_ 21 0,
 cl_ 22 104 [(.tmp 19),(.tmp 20),(.tmp 21)],
 pr_ 23 (ex_ 0 22),
 pr_ 24 (ex_ 1 22),
 st_ (so_ 19 2 23),
 mv_ 3 24]
 .ret)))))))
def o43:List Tmp:=[2,6]
def r43:List RV:=[.cell 2 19 true,.tmp 3]
theorem t43:Text Tryz.prog 43 o43 c43 r43 25:=.mk_ Tryz.f43 rfl
def c86:ACode :=
 (sq_ [pr_ 2 mf_]
 (sq_ [mv_ 3 0,
 pr_ 4 (.lens (.tmp 3)),
 pr_ 5 (bk_ .geq 4 .i64 4),
 mv_ 6 5,
 gp_ 7 6 true (mo_ 0),
 gp_ 8 6 true (.lens (.tmp 7)),
 gp_ 9 6 true (bk_ .leq 8 .i64 16),
 pr_ 10 (pa_ 6 9),
 mv_ 2 10]
 .ret))
def o86:List Tmp:=[]
def r86:List RV:=[.tmp 2]
theorem t86:Text Tryz.prog 86 o86 c86 r86 11:=.mk_ Tryz.f86 rfl
def c87:ACode :=
 (sq_ [pr_ 1 (.boxr (.tmp 0)),
 pr_ 2 mf_]
 (sq_ [pr_ 6 (fa_ 1 1),
 pr_ 7 (lf_ 1 6),
 c1_ 8 90 7,
 mv_ 5 8,
 pr_ 9 (ex_ 0 5),
 pr_ 10 (ex_ 1 5),
 mv_ 3 9,
 mv_ 4 10]
 (sq_ [mv_ 11 4,
 mv_ 12 11,
 gp_ 13 12 true (lt_ 19 1),
 gp_ 14 12 true (mo_ 3),
 gc_ 15 12 true 125 [(.tmp 13),(.tmp 14)],
 pr_ 16 (pa_ 12 15),
 mv_ 17 16,
 gp_ 18 17 true (lt_ 19 1),
 gp_ 19 17 true (mo_ 3),
 gc_ 20 17 true 126 [(.tmp 18),(.tmp 19)],
 pr_ 21 (pa_ 17 20),
 mv_ 2 21]
 .ret)))
def o87:List Tmp:=[]
def r87:List RV:=[.tmp 2]
theorem t87:Text Tryz.prog 87 o87 c87 r87 22:=.mk_ Tryz.f87 rfl
def c90:ACode :=
 (sq_ [pr_ 2 (mi_ .i64 0),
 pr_ 3 mf_]
 (.seq (sq_ [mv_ 4 0]
 (.block 0 (.seq (sq_ [pr_ 6 (bk_ .eql 4 .i64 1),
 mv_ 5 6]
 (.cond (.tmp 5)
 .skip
 (sq_ [pr_ 7 (bk_ .eql 4 .i64 14),
 mv_ 5 7]
 (.cond (.tmp 5)
 .skip
 (sq_ [pr_ 8 (bk_ .eql 4 .i64 16),
 mv_ 5 8]
 (.cond (.tmp 5)
 .skip
 (.ops [pr_ 9 (bk_ .eql 4 .i64 17),
 mv_ 5 9])))))))
 (.cond (.tmp 5)
 (sq_ [pr_ 2 (mi_ .i64 0),
 pr_ 3 mt_]
 .ret)
 (.seq (sq_ [pr_ 11 (bk_ .eql 4 .i64 2),
 mv_ 10 11]
 (.cond (.tmp 10)
 .skip
 (sq_ [pr_ 12 (bk_ .eql 4 .i64 7),
 mv_ 10 12]
 (.cond (.tmp 10)
 .skip
 (sq_ [pr_ 13 (bk_ .eql 4 .i64 10),
 mv_ 10 13]
 (.cond (.tmp 10)
 .skip
 (sq_ [pr_ 14 (bk_ .eql 4 .i64 12),
 mv_ 10 14]
 (.cond (.tmp 10)
 .skip
 (.ops [pr_ 15 (bk_ .eql 4 .i64 15),
 mv_ 10 15])))))))))
 (.cond (.tmp 10)
 (sq_ [pr_ 2 (mi_ .i64 1),
 pr_ 3 mt_]
 .ret)
 (.seq (sq_ [pr_ 17 (bk_ .eql 4 .i64 3),
 mv_ 16 17]
 (.cond (.tmp 16)
 .skip
 (.ops [pr_ 18 (bk_ .eql 4 .i64 4),
 mv_ 16 18])))
 (.cond (.tmp 16)
 (sq_ [pr_ 2 (mi_ .i64 3),
 pr_ 3 mt_]
 .ret)
 (sq_ [pr_ 20 (bk_ .eql 4 .i64 5),
 mv_ 19 20]
 (.cond (.tmp 19)
 (sq_ [pr_ 2 (mi_ .i64 116),
 pr_ 3 mt_]
 .ret)
 (sq_ [pr_ 22 (bk_ .eql 4 .i64 6),
 mv_ 21 22]
 (.cond (.tmp 21)
 (sq_ [pr_ 2 (mi_ .i64 117),
 pr_ 3 mt_]
 .ret)
 (sq_ [pr_ 24 (bk_ .eql 4 .i64 8),
 mv_ 23 24]
 (.cond (.tmp 23)
 (sq_ [pr_ 2 (mi_ .i64 8),
 pr_ 3 mt_]
 .ret)
 (sq_ [pr_ 26 (bk_ .eql 4 .i64 9),
 mv_ 25 26]
 (.cond (.tmp 25)
 (sq_ [pr_ 2 (mi_ .i64 128),
 pr_ 3 mt_]
 .ret)
 (sq_ [pr_ 28 (bk_ .eql 4 .i64 11),
 mv_ 27 28]
 (.cond (.tmp 27)
 (sq_ [pr_ 2 (mi_ .i64 768),
 pr_ 3 mt_]
 .ret)
 (sq_ [pr_ 30 (bk_ .eql 4 .i64 13),
 mv_ 29 30]
 (.cond (.tmp 29)
 (sq_ [pr_ 2 (mi_ .i64 16),
 pr_ 3 mt_]
 .ret)
 .skip))))))))))))))))))))
 (sq_ [pr_ 2 (mi_ .i64 0),
 pr_ 3 mf_]
 .ret)))
def o90:List Tmp:=[]
def r90:List RV:=[.tmp 2,.tmp 3]
theorem t90:Text Tryz.prog 90 o90 c90 r90 31:=.mk_ Tryz.f90 rfl
def c91:ACode :=
 (sq_ [pr_ 6 (lf_ 1 2),
 mv_ 7 0,
 pr_ 8 (bt_ .and 6 7),
 pr_ 9 (bk_ .gtr 8 .i64 0)]
 (.cond (.tmp 9)
 (.draw [⟨pr_ 10 (lf_ 1 3),[],false,0,1⟩,
 ⟨mv_ 11 1,[],false,0,0⟩,
 ⟨c1_ 12 68 11,[1],true,0,0⟩,
 ⟨pr_ 13 (.app 1 (.tmp 10) (.tmp 12)),[0,1,2],true,0,0⟩,
 ⟨st_ (so_ 1 3 13),[0,1,2,3],true,0,0⟩])
 .skip))
def o91:List Tmp:=[]
def r91:List RV:=[]
theorem t91:Text Tryz.prog 91 o91 c91 r91 14:=.mk_ Tryz.f91 rfl
def c92:ACode :=
 (sq_ [pr_ 2 (.mov (.const (.slice none 0 0)))]
 (.seq (sq_ [mv_ 6 0,
 c1_ 7 131 6,
 pr_ 8 (no_ 7)]
 (.cond (.tmp 8)
 (sq_ [pr_ 2 (.mov (.const (.slice none 0 0)))]
 (.ghost (.shut 2) .ret))
 .skip))
 (sq_ [mv_ 9 0,
 pr_ 10 (.lenv (.tmp 9)),
 pr_ 11 (.convi .u64 (.tmp 10)),
 c1_ 12 71 11,
 mv_ 3 12]
 (.seq (sq_ [mv_ 13 0,
 pr_ 14 (.lenv (.tmp 13)),
 pr_ 15 (mi_ .i64 0)]
 (.block 0 (.loop [0,1,2,4,5,6,7,8,9,10,11,12,16,17,18,19,20,21,22,23,24,25,26,27,28,29,30] (sq_ [pr_ 16 (bt_ .lss 15 14)]
 (.seq (.cond (.tmp 16)
 .skip
 (.exit 0))
 (.seq (.block 1 (sq_ [pr_ 17 (.iadrs 2 (.tmp 13) (.tmp 15)),
 pr_ 18 (lt_ 2 17),
 ⟨some 5,none,.fresh 2 5 (.tmp 18)⟩]
 (sq_ [mv_ 19 3,
 pr_ 20 (fa_ 0 5),
 pr_ 21 (lf_ 1 20),
 c1_ 22 72 21,
 pr_ 23 (.app 1 (.tmp 19) (.tmp 22)),
 mv_ 3 23]
 (.ops [mv_ 24 3,
 pr_ 25 (fa_ 1 5),
 pr_ 26 (lf_ 1 25),
 c1_ 27 72 26,
 pr_ 28 (.app 1 (.tmp 24) (.tmp 27)),
 mv_ 3 28]))))
 (.ops [pr_ 29 (bk_ .add 15 .i64 1),
 mv_ 15 29])))))))
 (sq_ [mv_ 30 3,
 mv_ 2 30]
 (.ghost (.shut 2) .ret))))))
def o92:List Tmp:=[]
def r92:List RV:=[.tmp 2]
theorem t92:Text Tryz.prog 92 o92 c92 r92 31:=.mk_ Tryz.f92 rfl
def c103:ACode :=
 (sq_ [pr_ 2 (.allocm z19_)]
 (sq_ [mv_ 8 0,
 c1_ 9 83 8,
 pr_ 10 (.convi .i64 (.tmp 9)),
 pr_ 11 (.build z19_ [(1,1,(.tmp 10))]),
 pr_ 3 (.allocm z19_),
 st_ (so_ 19 3 11)]
 (sq_ [pr_ 13 (fa_ 1 3),
 pr_ 14 (lf_ 1 13),
 c1_ 15 90 14,
 mv_ 12 15,
 pr_ 16 (ex_ 0 12),
 pr_ 17 (ex_ 1 12),
 mv_ 4 16,
 mv_ 5 17]
 (sq_ [mv_ 18 0,
 mv_ 19 5,
 cl_ 20 61 [(.tmp 18),(.tmp 19)]]
 (.seq (sq_ [mv_ 21 4,
 pr_ 22 (bk_ .and 21 .i64 1),
 pr_ 23 (bk_ .gtr 22 .i64 0)]
 (.cond (.tmp 23)
 (.ops [mv_ 24 0,
 cl_ 25 59 [(.tmp 24),(.const (.int .u64 2147483647))],
 pr_ 26 (.convi .i64 (.tmp 25)),
 pr_ 27 (fa_ 2 3),
 st_ (so_ 1 27 26)])
 .skip))
 (.seq (sq_ [mv_ 28 4,
 pr_ 29 (bk_ .and 28 .i64 2),
 pr_ 30 (bk_ .gtr 29 .i64 0)]
 (.cond (.tmp 30)
 (.ops [mv_ 31 0,
 cl_ 32 60 [(.tmp 31),(.const (.int .i64 16))],
 pr_ 33 (fa_ 3 3),
 st_ (so_ 1 33 32)])
 .skip))
 (.seq (sq_ [mv_ 34 4,
 pr_ 35 (bk_ .and 34 .i64 4),
 pr_ 36 (bk_ .gtr 35 .i64 0)]
 (.cond (.tmp 36)
 (.ops [mv_ 37 0,
 cl_ 38 59 [(.tmp 37),(.const (.int .u64 1099511627776))],
 mv_ 39 0,
 cl_ 40 59 [(.tmp 39),(.const (.int .u64 1099511627776))],
 pr_ 41 (fa_ 4 3),
 st_ (so_ 1 41 38),
 pr_ 42 (fa_ 5 3),
 st_ (so_ 1 42 40)])
 .skip))
 (.seq (sq_ [mv_ 43 4,
 pr_ 44 (bk_ .and 43 .i64 8),
 pr_ 45 (bk_ .gtr 44 .i64 0)]
 (.cond (.tmp 45)
 (.ops [mv_ 46 0,
 c1_ 47 83 46,
 pr_ 48 (.convi .i64 (.tmp 47)),
 pr_ 49 (fa_ 6 3),
 st_ (so_ 1 49 48)])
 .skip))
 (.seq (sq_ [mv_ 50 4,
 pr_ 51 (bk_ .and 50 .i64 16),
 pr_ 52 (bk_ .gtr 51 .i64 0)]
 (.cond (.tmp 52)
 (.ops [mv_ 53 0,
 cl_ 54 55 [(.tmp 53),(.func 56)],
 pr_ 55 (fa_ 7 3),
 st_ (so_ 1 55 54)])
 .skip))
 (.seq (sq_ [mv_ 56 4,
 pr_ 57 (bk_ .and 56 .i64 64),
 pr_ 58 (bk_ .gtr 57 .i64 0)]
 (.cond (.tmp 58)
 (.ops [mv_ 59 0,
 cl_ 60 57 [(.tmp 59),(.func 58)],
 pr_ 61 (fa_ 8 3),
 st_ (so_ 3 61 60)])
 .skip))
 (.seq (sq_ [mv_ 62 4,
 pr_ 63 (bk_ .and 62 .i64 128),
 pr_ 64 (bk_ .gtr 63 .i64 0)]
 (.cond (.tmp 64)
 (.ops [mv_ 65 0,
 cl_ 66 136 [(.tmp 65),(.func 17)],
 pr_ 67 (fa_ 11 3),
 st_ (so_ 6 67 66)])
 .skip))
 (.seq (sq_ [mv_ 68 4,
 pr_ 69 (bk_ .and 68 .i64 256),
 pr_ 70 (bk_ .gtr 69 .i64 0)]
 (.cond (.tmp 70)
 (.ops [mv_ 71 0,
 cl_ 72 137 [(.tmp 71),(.func 138)],
 pr_ 73 (fa_ 17 3),
 st_ (so_ 1 73 72)])
 .skip))
 (.seq (sq_ [mv_ 74 4,
 pr_ 75 (bk_ .and 74 .i64 512),
 pr_ 76 (bk_ .gtr 75 .i64 0)]
 (.cond (.tmp 76)
 (sq_ [mv_ 78 0,
 c1_ 79 140 78,
 c1_ 80 139 79,
 mv_ 77 80,
 pr_ 81 (ex_ 0 77),
 pr_ 82 (ex_ 1 77),
 mv_ 6 81,
 mv_ 7 82]
 (sq_ [mv_ 83 0,
 mv_ 84 7,
 cl_ 85 61 [(.tmp 83),(.tmp 84)]]
 (.ops [mv_ 86 6,
 pr_ 87 (fa_ 18 3),
 st_ (so_ 1 87 86)])))
 .skip))
 (sq_ [mv_ 88 0,
 pr_ 89 (lt_ 19 3),
 c1_ 90 87 89,
 cl_ 91 61 [(.tmp 88),(.tmp 90)]]
 (sq_ [pr_ 92 (lt_ 19 3),
 st_ (so_ 19 2 92)]
 .ret)))))))))))))))
def o103:List Tmp:=[2,3]
def r103:List RV:=[.cell 2 19 true]
theorem t103:Text Tryz.prog 103 o103 c103 r103 93:=.mk_ Tryz.f103 rfl
def c104:ACode :=
 (sq_ [pr_ 3 (.boxr (.tmp 0)),
 pr_ 6 (.allocm z19_),
 pr_ 7 mf_]
 (.seq (sq_ [mv_ 11 1,
 c1_ 12 62 11,
 mv_ 10 12,
 pr_ 13 (ex_ 0 10),
 pr_ 14 (ex_ 1 10),
 mv_ 8 13,
 mv_ 9 14]
 (sq_ [mv_ 15 9,
 pr_ 16 (no_ 15),
 mv_ 17 16,
 gp_ 18 17 false (mo_ 8),
 gp_ 19 17 false (mo_ 2),
 gp_ 20 17 false (.lenv (.tmp 19)),
 gp_ 21 17 false (bt_ .neq 18 20),
 pr_ 22 (po_ 17 21)]
 (.cond (.tmp 22)
 (sq_ [pr_ 23 (.build z19_ []),
 st_ (so_ 19 6 23),
 pr_ 7 mf_]
 .ret)
 .skip)))
 (sq_ [pr_ 24 (lt_ 19 3),
 st_ (so_ 19 6 24),
 pr_ 7 mt_]
 .ret)))
def o104:List Tmp:=[6]
def r104:List RV:=[.cell 6 19 true,.tmp 7]
theorem t104:Text Tryz.prog 104 o104 c104 r104 25:=.mk_ Tryz.f104 rfl
def c125:ACode :=
 (sq_ [pr_ 2 (.boxr (.tmp 0)),
 pr_ 4 mf_]
 (sq_ [mv_ 5 1,
 pr_ 6 (bk_ .and 5 .i64 1),
 pr_ 7 (bk_ .gtr 6 .i64 0),
 mv_ 8 7,
 gp_ 9 8 false (fa_ 2 2),
 gp_ 10 8 false (lf_ 1 9),
 gp_ 11 8 false (bk_ .eql 10 .i64 0),
 pr_ 12 (po_ 8 11),
 mv_ 13 12,
 gp_ 14 13 true (mo_ 1),
 gp_ 15 13 true (bk_ .and 14 .i64 2),
 gp_ 16 13 true (bk_ .gtr 15 .i64 0),
 gp_ 17 13 true (mo_ 16),
 gp_ 18 17 false (fa_ 3 2),
 gp_ 19 17 false (lf_ 1 18),
 gp_ 20 17 false (.bin false .eql (.tmp 19) (.const (.string (ByteArray.mk #[])))),
 gp_ 21 13 true (po_ 17 20),
 pr_ 22 (pa_ 13 21),
 mv_ 23 22,
 gp_ 24 23 true (mo_ 1),
 gp_ 25 23 true (bk_ .and 24 .i64 4),
 gp_ 26 23 true (bk_ .gtr 25 .i64 0),
 gp_ 27 23 true (mo_ 26),
 gp_ 28 27 false (fa_ 4 2),
 gp_ 29 27 false (lf_ 1 28),
 gp_ 30 27 false (bk_ .eql 29 .u64 0),
 gp_ 31 27 false (mo_ 30),
 gp_ 32 31 true (fa_ 5 2),
 gp_ 33 31 true (lf_ 1 32),
 gp_ 34 31 true (bk_ .eql 33 .u64 0),
 gp_ 35 27 false (pa_ 31 34),
 gp_ 36 23 true (po_ 27 35),
 pr_ 37 (pa_ 23 36),
 mv_ 38 37,
 gp_ 39 38 true (mo_ 1),
 gp_ 40 38 true (bk_ .and 39 .i64 8),
 gp_ 41 38 true (bk_ .gtr 40 .i64 0),
 gp_ 42 38 true (mo_ 41),
 gp_ 43 42 false (fa_ 6 2),
 gp_ 44 42 false (lf_ 1 43),
 gp_ 45 42 false (bk_ .eql 44 .i64 0),
 gp_ 46 38 true (po_ 42 45),
 pr_ 47 (pa_ 38 46),
 mv_ 48 47,
 gp_ 49 48 true (mo_ 1),
 gp_ 50 48 true (bk_ .and 49 .i64 16),
 gp_ 51 48 true (bk_ .gtr 50 .i64 0),
 gp_ 52 48 true (mo_ 51),
 gp_ 53 52 false (fa_ 7 2),
 gp_ 54 52 false (lf_ 1 53),
 gp_ 55 52 false (.lenv (.tmp 54)),
 gp_ 56 52 false (bk_ .eql 55 .i64 0),
 gp_ 57 48 true (po_ 52 56),
 pr_ 58 (pa_ 48 57),
 mv_ 59 58,
 gp_ 60 59 true (mo_ 1),
 gp_ 61 59 true (bk_ .and 60 .i64 64),
 gp_ 62 59 true (bk_ .gtr 61 .i64 0),
 gp_ 63 59 true (mo_ 62),
 gp_ 64 63 false (fa_ 8 2),
 gp_ 65 63 false (lt_ 3 64),
 gc_ 66 63 false 153 [(.tmp 65)],
 gp_ 67 59 true (po_ 63 66),
 pr_ 68 (pa_ 59 67),
 mv_ 69 68,
 gp_ 70 69 true (mo_ 1),
 gp_ 71 69 true (bk_ .and 70 .i64 128),
 gp_ 72 69 true (bk_ .gtr 71 .i64 0),
 gp_ 73 69 true (mo_ 72),
 gp_ 74 73 false (fa_ 11 2),
 gp_ 75 73 false (lt_ 6 74),
 gc_ 76 73 false 154 [(.tmp 75)],
 gp_ 77 69 true (po_ 73 76),
 pr_ 78 (pa_ 69 77),
 mv_ 79 78,
 gp_ 80 79 true (mo_ 1),
 gp_ 81 79 true (bk_ .and 80 .i64 256),
 gp_ 82 79 true (bk_ .gtr 81 .i64 0),
 gp_ 83 79 true (mo_ 82),
 gp_ 84 83 false (fa_ 17 2),
 gp_ 85 83 false (lf_ 1 84),
 gp_ 86 83 false (.lenv (.tmp 85)),
 gp_ 87 83 false (bk_ .eql 86 .i64 0),
 gp_ 88 79 true (po_ 83 87),
 pr_ 89 (pa_ 79 88),
 mv_ 90 89,
 gp_ 91 90 true (mo_ 1),
 gp_ 92 90 true (bk_ .and 91 .i64 512),
 gp_ 93 90 true (bk_ .gtr 92 .i64 0),
 gp_ 94 90 true (mo_ 93),
 gp_ 95 94 false (fa_ 18 2),
 gp_ 96 94 false (lf_ 1 95),
 gc_ 97 94 false 155 [(.tmp 96)],
 gp_ 98 90 true (po_ 94 97),
 pr_ 99 (pa_ 90 98),
 mv_ 4 99]
 .ret))
def o125:List Tmp:=[]
def r125:List RV:=[.tmp 4]
theorem t125:Text Tryz.prog 125 o125 c125 r125 100:=.mk_ Tryz.f125 rfl
def c126:ACode :=
 (sq_ [pr_ 2 (.boxr (.tmp 0)),
 pr_ 4 mf_]
 (sq_ [pr_ 5 (fa_ 2 2),
 pr_ 6 (lf_ 1 5),
 pr_ 7 (bk_ .geq 6 .i64 0),
 mv_ 8 7,
 gp_ 9 8 true (fa_ 2 2),
 gp_ 10 8 true (lf_ 1 9),
 gp_ 11 8 true (bk_ .leq 10 .i64 2147483647),
 pr_ 12 (pa_ 8 11),
 mv_ 13 12,
 gp_ 14 13 true (mo_ 1),
 gp_ 15 13 true (bk_ .and 14 .i64 2),
 gp_ 16 13 true (bk_ .eql 15 .i64 0),
 gp_ 17 13 true (mo_ 16),
 gp_ 18 17 false (fa_ 3 2),
 gp_ 19 17 false (lf_ 1 18),
 gc_ 20 17 false 86 [(.tmp 19)],
 gp_ 21 13 true (po_ 17 20),
 pr_ 22 (pa_ 13 21),
 mv_ 23 22,
 gp_ 24 23 true (fa_ 4 2),
 gp_ 25 23 true (lf_ 1 24),
 gp_ 26 23 true (bk_ .leq 25 .u64 1099511627776),
 pr_ 27 (pa_ 23 26),
 mv_ 28 27,
 gp_ 29 28 true (fa_ 5 2),
 gp_ 30 28 true (lf_ 1 29),
 gp_ 31 28 true (bk_ .leq 30 .u64 1099511627776),
 pr_ 32 (pa_ 28 31),
 mv_ 33 32,
 gp_ 34 33 true (fa_ 6 2),
 gp_ 35 33 true (lf_ 1 34),
 gp_ 36 33 true (bk_ .geq 35 .i64 0),
 pr_ 37 (pa_ 33 36),
 mv_ 38 37,
 gp_ 39 38 true (fa_ 6 2),
 gp_ 40 38 true (lf_ 1 39),
 gp_ 41 38 true (bk_ .leq 40 .i64 3),
 pr_ 42 (pa_ 38 41),
 mv_ 43 42,
 gp_ 44 43 true (fa_ 7 2),
 gp_ 45 43 true (lf_ 1 44),
 gc_ 46 43 true 106 [(.tmp 45)],
 pr_ 47 (pa_ 43 46),
 mv_ 48 47,
 gp_ 49 48 true (mo_ 1),
 gp_ 50 48 true (bk_ .and 49 .i64 32),
 gp_ 51 48 true (bk_ .eql 50 .i64 0),
 gp_ 52 48 true (mo_ 51),
 gp_ 53 52 false (fa_ 7 2),
 gp_ 54 52 false (lf_ 1 53),
 gp_ 55 52 false (.lenv (.tmp 54)),
 gp_ 56 52 false (bk_ .gtr 55 .i64 0),
 gp_ 57 48 true (po_ 52 56),
 pr_ 58 (pa_ 48 57),
 mv_ 59 58,
 gp_ 60 59 true (mo_ 1),
 gp_ 61 59 true (bk_ .and 60 .i64 64),
 gp_ 62 59 true (bk_ .eql 61 .i64 0),
 gp_ 63 59 true (mo_ 62),
 gp_ 64 63 false (fa_ 8 2),
 gp_ 65 63 false (lt_ 3 64),
 gc_ 66 63 false 107 [(.tmp 65)],
 gp_ 67 59 true (po_ 63 66),
 pr_ 68 (pa_ 59 67),
 mv_ 69 68,
 gp_ 70 69 true (mo_ 1),
 gp_ 71 69 true (bk_ .and 70 .i64 128),
 gp_ 72 69 true (bk_ .eql 71 .i64 0),
 gp_ 73 69 true (mo_ 72),
 gp_ 74 73 false (fa_ 11 2),
 gp_ 75 73 false (lt_ 6 74),
 gc_ 76 73 false 51 [(.tmp 75)],
 gp_ 77 69 true (po_ 73 76),
 pr_ 78 (pa_ 69 77),
 mv_ 79 78,
 gp_ 80 79 true (mo_ 1),
 gp_ 81 79 true (bk_ .and 80 .i64 256),
 gp_ 82 79 true (bk_ .eql 81 .i64 0),
 gp_ 83 79 true (mo_ 82),
 gp_ 84 83 false (fa_ 17 2),
 gp_ 85 83 false (lf_ 1 84),
 gc_ 86 83 false 131 [(.tmp 85)],
 gp_ 87 79 true (po_ 83 86),
 pr_ 88 (pa_ 79 87),
 mv_ 4 88]
 .ret))
def o126:List Tmp:=[]
def r126:List RV:=[.tmp 4]
theorem t126:Text Tryz.prog 126 o126 c126 r126 89:=.mk_ Tryz.f126 rfl
def c131:ACode :=
 (sq_ [pr_ 2 mf_]
 (.seq (sq_ [mv_ 5 0,
 pr_ 6 (.lenv (.tmp 5)),
 pr_ 7 (bk_ .lss 6 .i64 1),
 mv_ 8 7,
 gp_ 9 8 false (mo_ 0),
 gp_ 10 8 false (.lenv (.tmp 9)),
 gp_ 11 8 false (bk_ .gtr 10 .i64 6),
 pr_ 12 (po_ 8 11)]
 (.cond (.tmp 12)
 (sq_ [pr_ 2 mf_]
 .ret)
 .skip))
 (.seq (sq_ [mv_ 13 0,
 pr_ 14 (.lenv (.tmp 13)),
 pr_ 15 (mi_ .i64 0)]
 (.block 0 (.loop [1,2,3,4,5,6,7,8,9,10,11,12,16,17,18,19,20,21,22,23,24,25,26,27,28,29,30,31,32,33,34,35,36,37,38,39,40,41,42,43,44,45] (sq_ [pr_ 16 (bt_ .lss 15 14)]
 (.seq (.cond (.tmp 16)
 .skip
 (.exit 0))
 (.seq (.block 1 (sq_ [mv_ 17 15,
 pr_ 18 (.iadrs 2 (.tmp 13) (.tmp 15)),
 pr_ 19 (lt_ 2 18),
 pr_ 4 (.allocm [.pl (.string .empty),.pl (.string .empty)]),
 mv_ 3 17,
 st_ (so_ 2 4 19)]
 (.seq (.after (.after (.draw [⟨pr_ 20 (fa_ 0 4),[],false,0,0⟩,
 ⟨pr_ 21 (lf_ 1 20),[0],false,0,0⟩,
 ⟨c1_ 22 108 21,[0,1],true,0,0⟩,
 ⟨pr_ 23 (no_ 22),[0,1,2],false,1,1⟩,
 ⟨mv_ 24 23,[0,1,2,3],false,1,1⟩,
 ⟨gp_ 25 24 false (fa_ 1 4),[0,1,2,3,4],false,1,1⟩,
 ⟨gp_ 26 24 false (lf_ 1 25),(List.range 6),false,1,1⟩,
 ⟨gc_ 27 24 false 157 [(.tmp 26)],(List.range 7),true,0,0⟩,
 ⟨gp_ 28 24 false (no_ 27),(List.range 8),false,2,2⟩,
 ⟨pr_ 29 (po_ 24 28),(List.range 9),false,2,2⟩,
 ⟨mv_ 30 29,(List.range 10),false,2,2⟩,
 ⟨gp_ 31 30 false (mo_ 3),(List.range 11),false,2,2⟩,
 ⟨gp_ 32 30 false (bk_ .gtr 31 .i64 0),(List.range 12),false,2,2⟩,
 ⟨gp_ 33 30 false (mo_ 32),(List.range 13),false,2,2⟩,
 ⟨gp_ 34 33 true (fa_ 0 4),(List.range 14),false,2,2⟩,
 ⟨gp_ 35 33 true (lf_ 1 34),(List.range 15),false,2,2⟩,
 ⟨gp_ 36 33 true (mo_ 0),(List.range 14),false,2,2⟩,
 ⟨gp_ 37 33 true (mo_ 3),(List.range 14),false,2,2⟩,
 ⟨gp_ 38 33 true (bk_ .sub 37 .i64 1),[0,1,2,3,4,5,6,7,8,9,10,11,12,13,17],false,2,2⟩,
 ⟨gp_ 39 33 true (.iadrs 2 (.tmp 36) (.tmp 38)),[0,1,2,3,4,5,6,7,8,9,10,11,12,13,16,17,18],false,2,2⟩,
 ⟨gp_ 40 33 true (fa_ 0 39),[0,1,2,3,4,5,6,7,8,9,10,11,12,13,16,17,18,19],false,2,2⟩,
 ⟨gp_ 41 33 true (lf_ 1 40),[0,1,2,3,4,5,6,7,8,9,10,11,12,13,16,17,18,19,20],false,2,2⟩,
 ⟨gp_ 42 33 true (bt_ .leq 35 41),(List.range 22),false,2,2⟩,
 ⟨gp_ 43 30 false (pa_ 33 42),(List.range 23),false,2,2⟩,
 ⟨pr_ 44 (po_ 30 43),(List.range 24),false,2,2⟩]) (.clear [4,20,25,34])) (.keep 0))
 (.cond (.tmp 44)
 (sq_ [pr_ 2 mf_]
 .ret)
 .skip))))
 (.ops [pr_ 45 (bk_ .add 15 .i64 1),
 mv_ 15 45])))))))
 (sq_ [pr_ 2 mt_]
 .ret))))
def o131:List Tmp:=[]
def r131:List RV:=[.tmp 2]
theorem t131:Text Tryz.prog 131 o131 c131 r131 46:=.mk_ Tryz.f131 rfl
def c136:ACode :=
 (sq_ [pr_ 4 (.allocm [.nils,.nils,.pl (.bool false),.pl (.float .f64 0),.pl (.float .f64 0),.nils])]
 (sq_ [mv_ 10 1,
 mv_ 11 0,
 c1_ 12 112 11,
 ⟨some 13,none,.call (.tmp 10) [(.tmp 12)]⟩,
 mv_ 9 13,
 pr_ 14 (ex_ 0 9),
 pr_ 15 (ex_ 1 9),
 pr_ 16 (ex_ 2 9),
 ⟨some 5,none,.fresh 6 5 (.tmp 14)⟩,
 mv_ 6 15,
 mv_ 7 16]
 (.seq (sq_ [mv_ 17 0,
 mv_ 18 6,
 mv_ 19 7,
 cl_ 20 113 [(.tmp 17),(.tmp 18),(.tmp 19)],
 pr_ 21 (no_ 20)]
 (.cond (.tmp 21)
 (sq_ [pr_ 8 (.allocm [.nils,.nils,.pl (.bool false),.pl (.float .f64 0),.pl (.float .f64 0),.nils])]
 (sq_ [pr_ 22 (lt_ 6 8),
 st_ (so_ 6 4 22)]
 .ret))
 .skip))
 (sq_ [pr_ 23 (lt_ 6 5),
 st_ (so_ 6 4 23)]
 .ret))))
def o136:List Tmp:=[4]
def r136:List RV:=[.cell 4 6 true]
theorem t136:Text Tryz.prog 136 o136 c136 r136 24:=.mk_ Tryz.f136 rfl
def c137:ACode :=
 (sq_ [pr_ 4 (.mov (.const (.slice none 0 0)))]
 (sq_ [mv_ 10 1,
 mv_ 11 0,
 c1_ 12 112 11,
 ⟨some 13,none,.call (.tmp 10) [(.tmp 12)]⟩,
 mv_ 9 13,
 pr_ 14 (ex_ 0 9),
 pr_ 15 (ex_ 1 9),
 pr_ 16 (ex_ 2 9),
 mv_ 5 14,
 mv_ 6 15,
 mv_ 7 16]
 (.seq (sq_ [mv_ 17 0,
 mv_ 18 6,
 mv_ 19 7,
 cl_ 20 113 [(.tmp 17),(.tmp 18),(.tmp 19)],
 pr_ 21 (no_ 20)]
 (.cond (.tmp 21)
 (sq_ [pr_ 8 (.mov (.const (.slice none 0 0)))]
 (sq_ [mv_ 22 8,
 mv_ 4 22]
 .ret))
 .skip))
 (sq_ [mv_ 23 5,
 mv_ 4 23]
 .ret))))
def o137:List Tmp:=[]
def r137:List RV:=[.tmp 4]
theorem t137:Text Tryz.prog 137 o137 c137 r137 24:=.mk_ Tryz.f137 rfl
def c138:ACode :=
 (sq_ [pr_ 2 (.mov (.const (.slice none 0 0))),
 pr_ 3 (mi_ .i64 0),
 pr_ 4 mf_]
 (sq_ [mv_ 9 0,
 c1_ 10 54 9,
 mv_ 5 10]
 (.seq (.after (.ops [pr_ 6 (.mov (.const (.slice none 0 0)))]) (.own 6 2))
 (.seq (sq_ [mv_ 11 5,
 cl_ 12 59 [(.tmp 11),(.const (.int .u64 6))],
 pr_ 13 (mi_ .u64 0)]
 (.block 0 (.loop [0,1,2,3,4,7,8,9,10,11,14,15,16,17,18,19,20,21,22,23,24,25,26,27,28,29,30,31,32,33,34,35,36] (sq_ [pr_ 14 (bt_ .lss 13 12)]
 (.seq (.cond (.tmp 14)
 .skip
 (.exit 0))
 (.seq (.block 1 (.ops [mv_ 15 6,
 mv_ 16 5,
 cl_ 17 60 [(.tmp 16),(.const (.int .i64 12))],
 mv_ 18 5,
 cl_ 19 60 [(.tmp 18),(.const (.int .i64 24))],
 pr_ 20 (.build [.pl (.string .empty),.pl (.string .empty)] [(0,1,(.tmp 17)),(1,1,(.tmp 19))]),
 pr_ 21 (.bsl false 2 true 1 [.pl (.string .empty),.pl (.string .empty)] [(0,2,(.tmp 20))]),
 pr_ 22 (.app 2 (.tmp 15) (.tmp 21)),
 mv_ 6 22]))
 (.ops [pr_ 23 (bk_ .add 13 .u64 1),
 mv_ 13 23])))))))
 (.seq (.ghost (.shut 6) (.ops [mv_ 24 5,
 mv_ 25 6,
 c1_ 26 131 25,
 cl_ 27 61 [(.tmp 24),(.tmp 26)]]))
 (sq_ [mv_ 29 5,
 c1_ 30 62 29,
 mv_ 28 30,
 pr_ 31 (ex_ 0 28),
 pr_ 32 (ex_ 1 28),
 mv_ 7 31,
 mv_ 8 32]
 (.seq (sq_ [mv_ 33 8,
 pr_ 34 (no_ 33)]
 (.cond (.tmp 34)
 (sq_ [pr_ 2 (.mov (.const (.slice none 0 0))),
 pr_ 3 (mi_ .i64 0),
 pr_ 4 mf_]
 (.ghost (.shut 2) .ret))
 .skip))
 (sq_ [mv_ 35 6,
 mv_ 36 7,
 mv_ 2 35,
 mv_ 3 36,
 pr_ 4 mt_]
 (.ghost (.shut 2) .ret)))))))))
def o138:List Tmp:=[]
def r138:List RV:=[.tmp 2,.tmp 3,.tmp 4]
theorem t138:Text Tryz.prog 138 o138 c138 r138 37:=.mk_ Tryz.f138 rfl
def c153:ACode :=
 (sq_ [pr_ 1 (.boxr (.tmp 0)),
 pr_ 2 mf_]
 (sq_ [pr_ 3 (fa_ 0 1),
 pr_ 4 (lf_ 1 3),
 pr_ 5 (no_ 4),
 mv_ 6 5,
 gp_ 7 6 true (fa_ 1 1),
 gp_ 8 6 true (lf_ 1 7),
 gc_ 9 6 true 155 [(.tmp 8)],
 pr_ 10 (pa_ 6 9),
 mv_ 11 10,
 gp_ 12 11 true (fa_ 2 1),
 gp_ 13 11 true (lf_ 1 12),
 gc_ 14 11 true 155 [(.tmp 13)],
 pr_ 15 (pa_ 11 14),
 mv_ 2 15]
 .ret))
def o153:List Tmp:=[]
def r153:List RV:=[.tmp 2]
theorem t153:Text Tryz.prog 153 o153 c153 r153 16:=.mk_ Tryz.f153 rfl
def c154:ACode :=
 (sq_ [pr_ 1 (.boxr (.tmp 0)),
 pr_ 2 mf_]
 (sq_ [pr_ 3 (fa_ 0 1),
 pr_ 4 (lf_ 1 3),
 pr_ 5 (.lenv (.tmp 4)),
 pr_ 6 (bk_ .eql 5 .i64 0),
 mv_ 7 6,
 gp_ 8 7 true (fa_ 1 1),
 gp_ 9 7 true (lf_ 1 8),
 gp_ 10 7 true (.lenv (.tmp 9)),
 gp_ 11 7 true (bk_ .eql 10 .i64 0),
 pr_ 12 (pa_ 7 11),
 mv_ 13 12,
 gp_ 14 13 true (fa_ 5 1),
 gp_ 15 13 true (lf_ 1 14),
 gp_ 16 13 true (.lenv (.tmp 15)),
 gp_ 17 13 true (bk_ .eql 16 .i64 0),
 pr_ 18 (pa_ 13 17),
 mv_ 19 18,
 gp_ 20 19 true (fa_ 2 1),
 gp_ 21 19 true (lt_ 3 20),
 gc_ 22 19 true 153 [(.tmp 21)],
 pr_ 23 (pa_ 19 22),
 mv_ 2 23]
 .ret))
def o154:List Tmp:=[]
def r154:List RV:=[.tmp 2]
theorem t154:Text Tryz.prog 154 o154 c154 r154 24:=.mk_ Tryz.f154 rfl
def c155:ACode :=
 (sq_ [pr_ 2 mf_]
 (sq_ [mv_ 3 0,
 c1_ 4 94 3,
 pr_ 5 (bk_ .eql 4 .u64 0),
 mv_ 2 5]
 .ret))
def o155:List Tmp:=[]
def r155:List RV:=[.tmp 2]
theorem t155:Text Tryz.prog 155 o155 c155 r155 6:=.mk_ Tryz.f155 rfl
def c157:ACode :=
 (sq_ [pr_ 2 mf_]
 (sq_ [mv_ 3 0,
 pr_ 4 (.lens (.tmp 3)),
 pr_ 5 (bk_ .geq 4 .i64 1),
 mv_ 6 5,
 gp_ 7 6 true (mo_ 0),
 gp_ 8 6 true (.lens (.tmp 7)),
 gp_ 9 6 true (bk_ .leq 8 .i64 24),
 pr_ 10 (pa_ 6 9),
 mv_ 2 10]
 .ret))
def o157:List Tmp:=[]
def r157:List RV:=[.tmp 2]
theorem t157:Text Tryz.prog 157 o157 c157 r157 11:=.mk_ Tryz.f157 rfl
end Go.Proofs.YtmkmhhjkdaklbaaGreat
namespace Go.Proofs.YtmkmhhjkdaklbaaGreat
open Go Go.Ab Go.Cod
set_option maxRecDepth 100000
abbrev noLb:Lab:=(⟨#[]⟩,⟨#[]⟩)
def valB (v:ByteArray):Bool:=decide (1≤v.size)&&decide (v.size≤24)
def labOk (L:List Lab) (i:Nat):Bool:=nameB (L.getD i noLb).1&&(valB (L.getD i noLb).2&& !(decide (0<i)&&leS (L.getD i noLb).1 (L.getD (i-1) noLb).1))
def setB (L:List Lab):Bool:=decide (1≤L.length)&&(decide (L.length≤6)&&(List.range L.length).all (labOk L))
theorem lvs_D (L:List Lab) (i:Nat) (h:i<L.length):(lvs L)[i]?=some (.agg [Sx (L.getD i noLb).1,Sx (L.getD i noLb).2]):=by
 have:=zc7 L i h
 rw[this,List.getD_eq_getElem?_getD,List.getElem?_eq_getElem h];rfl
theorem z5u (n:Nat) (a b:ByteArray):∀y∈([Sx a,Sx b]:List AV),Bel n y:=by
 intro y hy
 simp only[List.mem_cons,List.not_mem_nil,or_false]at hy
 rcases hy with rfl|rfl<;>exact .pl _
theorem zaT (n:Nat) (L:List Lab):Bel n (.sl 2 (lvs L)):=by
 refine .sl 2 _ fun i hi=>?_
 have:∀y∈lvs L,Bel n y:=by
  intro y hy
  simp only[lvs,List.mem_map]at hy
  obtain⟨x,_,rfl⟩:=hy
  exact .agg _ fun i hi=>z5u n x.1 x.2 _ (List.getElem_mem hi)
 exact this _ (List.getElem_mem hi)
theorem z7t (n:Nat) (L:List Lab):Bel n (.sl 2 (lvs L))=True:=eq_true (zaT n L)
theorem BL_lb (n:Nat) (a b:ByteArray):Bel n (.agg [Sx a,Sx b])=True:=eq_true (.agg _ fun i hi=>z5u n a b _ (List.getElem_mem hi))
theorem BL_r2 (n:Nat) (a b:ByteArray):Bel n (.rp [Sx a,Sx b])=True:=eq_true (.rp _ fun i hi=>z5u n a b _ (List.getElem_mem hi))
theorem BL_r1 (n:Nat) (b:ByteArray):Bel n (.rp [Sx b])=True:=eq_true (.rp _ fun i hi=>by
 have:i=0:=by simp at hi;omega
 subst this;exact .pl _)
section
variable (σ:St)
theorem zci (v:ByteArray):Ans Tryz.prog 157 [Sx v] σ (Bo (valB v)) σ:=by
 have d1:decide ((1:Int)≤(v.size:Nat))=decide (1≤v.size):=intle 1 v.size
 have d2:decide (((v.size:Nat):Int)≤24)=decide (v.size≤24):=intle v.size 24
 refine Ans.of_run t157 ?_
 unfold valB
 cases h:decide (1≤v.size) with
 |false =>
  simp -implicitDefEqProofs only[c157,r157,go_sem,d1,h]
  exact Fini.ret rfl
 |true =>
  simp -implicitDefEqProofs only[c157,r157,go_sem,d1,d2,h]
  exact Fini.ret rfl
theorem z1j (L:List Lab):Ans Tryz.prog 131 [.sl 2 (lvs L)] σ (Bo (setB L)) σ:=by
 have e1:decide ((L.length:Int)<1)= !decide (1≤L.length):=by
  by_cases h:1≤L.length
  · rw[decide_eq_true h,decide_eq_false (by omega)];rfl
  · rw[decide_eq_false h,decide_eq_true (by omega)];rfl
 have e2:decide ((6:Int)<L.length)= !decide (L.length≤6):=by
  by_cases h:L.length≤6
  · rw[decide_eq_true h,decide_eq_false (by omega)];rfl
  · rw[decide_eq_false h,decide_eq_true (by omega)];rfl
 refine Ans.of_run' t131 (fun hbel hba=>?_)
 have le1:(σ.length≤σ.length+1)=True:=eq_true (by omega)
 have hb0:(∀o∈σ,BelO σ.length o)=True:=eq_true hbel
 have htk:∀x:Ob,(σ++[x]).take σ.length=σ:=fun x=>List.take_left' rfl
 unfold setB
 cases h1:decide (1≤L.length) with
 |false =>
  simp -implicitDefEqProofs only[c131,r131,go_sem,z0x,e1,h1]
  exact Fini.ret rfl
 |true =>
 cases h2:decide (L.length≤6) with
 |false =>
  simp -implicitDefEqProofs only[c131,r131,go_sem,z0x,e1,e2,h1,h2]
  exact Fini.ret rfl
 |true =>
 have hl6:L.length≤6:=of_decide_eq_true h2
 simp -implicitDefEqProofs only[c131,r131,go_sem,z0x,e1,e2,h1,h2]
 refine Go.Ab.L.scan L.length (labOk L) (fun i=>mkE 46 [(0,.sl 2 (lvs L)),(13,.sl 2 (lvs L)),(14,I L.length),(15,I i)]) (fun _=>σ) ?_ ?_ rfl rfl
 · intro i hi hp J hJ
   have hx:=lvs_D L i hi
   have hF:labOk L i=false→(List.range L.length).all (labOk L)=false:=fun h=>List.all_eq_false.2 ⟨i,List.mem_range.2 hi,by rw[h];decide⟩
   have hin:=wrap_succ (i:=i) (by omega)
   have d0:decide ((0:Int)<i)=decide (0<i):=by rw[Bool.eq_iff_iff];simp
   have hO:labOk L i=(nameB (L.getD i noLb).1&&(valB (L.getD i noLb).2&& !(decide (0<i)&&leS (L.getD i noLb).1 (L.getD (i-1) noLb).1))):=rfl
   rw[hO]at hJ hF
   generalize L.getD i noLb=x at hJ hF hx
   obtain⟨nm,v⟩:=x
   simp only at hJ hF hx
   have n1:=fun s=>z44 s nm
   have n2:=fun s=>zci s v
   simp -implicitDefEqProofs only[mkE,go_sem,z0p,z0x,z0r hi,dec_lt hi,hx,g0,s0]
   first|refine CD.intro (n1 _) ?_|refine CS.intro n1 ?_
   cases hb1:nameB nm with
   |false =>
    rw[hb1]at hF
    rw[hF rfl]
    simp -implicitDefEqProofs only[go_sem,z0p,g0,s0,le1,B_pl,B_any,z4E,B_tup,B_osl,B_ptr,B_sl0,z7t,BL_lb,BL_r2,BL_r1,htk,Nat.add_zero,hb0,List.length_append]
    exact Fini.ret rfl
   |true =>
    rw[hb1]at hF hJ
    simp -implicitDefEqProofs only[go_sem,z0p,g0,s0]
    first|refine CD.intro (n2 _) ?_|refine CS.intro n2 ?_
    cases hb2:valB v with
    |false =>
     rw[hb2]at hF
     rw[hF rfl]
     simp -implicitDefEqProofs only[go_sem,z0p,g0,s0,le1,B_pl,B_any,z4E,B_tup,B_osl,B_ptr,B_sl0,z7t,BL_lb,BL_r2,BL_r1,htk,Nat.add_zero,hb0,List.length_append]
     exact Fini.ret rfl
    |true =>
     rw[hb2]at hF hJ
     by_cases hz:i=0
     · subst hz
       have hgo:=hJ rfl
       have w01:IntKind.i64.wrap 1=1:=rfl
       simp -implicitDefEqProofs only[go_sem,z0p,d0,hin,w01,g0,s0,le1,B_pl,B_any,z4E,B_tup,B_osl,B_ptr,B_sl0,z7t,BL_lb,BL_r2,BL_r1,htk,Nat.add_zero,hb0,List.length_append,Int.natCast_zero]
       exact hgo
     · have hpos:decide (0<i)=true:=decide_eq_true (by omega)
       have hx1:=lvs_D L (i-1) (by omega)
       have w1:IntKind.i64.wrap ((i:Int)-1)=((i-1:Nat):Int):=by rw[wrapN (by omega) (by omega)];omega
       have hlt1:(((i-1:Nat):Int)<L.length)=True:=by simp;omega
       rw[hpos]at hJ hF
       generalize L.getD (i-1) noLb=x1 at hJ hF hx1
       obtain⟨nm1,v1⟩:=x1
       simp only at hJ hF hx1
       have hle:(Op.bytesLess nm.toList nm1.toList||nm.toList==nm1.toList)=leS nm nm1:=rfl
       simp -implicitDefEqProofs only[go_sem,z0p,d0,hpos,w1,z0x,hlt1,hx1,hle,g0,s0,hin,g0,s0,le1,B_pl,B_any,z4E,B_tup,B_osl,B_ptr,B_sl0,z7t,BL_lb,BL_r2,BL_r1,htk,Nat.add_zero,hb0,List.length_append]
       cases h7:leS nm nm1 with
       |true =>
        rw[h7]at hF
        rw[hF rfl]
        simp -implicitDefEqProofs only[go_sem]
        exact Fini.ret rfl
       |false =>
        rw[h7]at hJ
        have hgo:=hJ rfl
        simp -implicitDefEqProofs only[go_sem,hin]
        exact hgo
 · intro hp J
   have hd:decide ((L.length:Int)<L.length)=false:=by simp
   simp -implicitDefEqProofs only[mkE,go_sem,z0x,hd]
   refine Fini.ret' rfl (z0G ?_)
   exact(List.all_eq_true.2 fun i hi=>hp i (List.mem_range.1 hi)).symm
end
def putLb (x:Lab):Byt:=txtB x.1++txtB x.2
def z51 (L:List Lab):Byt:=z2e putLb L
theorem z4n {L:List Lab} (h:setB L=true):L.length≤6∧∀x∈L,x.1.size≤12∧x.2.size≤24:=by
 unfold setB at h
 simp only[Bool.and_eq_true,decide_eq_true_eq]at h
 refine⟨h.2.1,fun x hx=>?_⟩
 obtain⟨i,hi,rfl⟩:=List.getElem_of_mem hx
 have h2:=List.all_eq_true.1 h.2.2 i (List.mem_range.2 hi)
 unfold labOk valB at h2
 simp only[Bool.and_eq_true,decide_eq_true_eq]at h2
 have e:L.getD i noLb=L[i]:=by rw[List.getD_eq_getElem?_getD,List.getElem?_eq_getElem hi];rfl
 rw[e]at h2
 exact⟨z4W h2.1,h2.2.1.2⟩
abbrev lsV (L:List Lab):AV:=.sl 2 (lvs L)
structure ReM where
 tok:ByteArray
 op:Int
 id:Int
 txt:ByteArray
 st:Nat
 en:Nat
 sta:Int
 mt:List Mtr
 any:Bool
 lo:Nat
 hi:Nat
 ru:RuM
 ls:List Lab
 val:Nat
def reC (r:ReM):List AV:=[Sx r.tok,I r.op,I r.id,Sx r.txt,UN r.st,UN r.en,I r.sta,mlV r.mt,Bo r.any,Fl r.lo,Fl r.hi,mlV r.ru.src,mlV r.ru.tgt,Bo r.ru.any,Fl r.ru.lo,Fl r.ru.hi,.sl 1 (txs r.ru.eq),lsV r.ls,Fl r.val]
def reV (r:ReM):AV:=.agg (reC r)
def fTab:List Int:=[0,1,3,3,116,117,1,8,128,1,768,1,16,0,1,0,0]
def fOf (op:Int):Int×Bool:=if 1≤op∧op≤17 then(fTab.getD (op.toNat-1) 0,true) else(0,false)
theorem ops17 (op:Int):op=1∨op=2∨op=3∨op=4∨op=5∨op=6∨op=7∨op=8∨op=9∨op=10∨op=11∨op=12∨op=13∨op=14∨op=15∨op=16∨op=17∨(op<1∨17<op):=by omega
theorem z9A {op:Int} (h:op<1∨17<op):fOf op=(0,false):=by unfold fOf;rw[if_neg (by omega)]
theorem neI {op k:Int} (h:op≠k):(op==k)=false:=by simpa using h
def zF (n:Nat):Bool:=((bitsF n:Nat):Int)==0
def noBd (x:Bnd):Bool:=!x.1&&(zF x.2.1&&zF x.2.2)
def emI (n:Nat):Bool:=((n:Nat):Int)==0
def noRl (r:RuM):Bool:=emI r.src.length&&(emI r.tgt.length&&(emI r.eq.length&&noBd (r.any,r.lo,r.hi)))
def tokB (s:ByteArray):Bool:=decide (4≤s.size)&&decide (s.size≤16)
section
variable (σ:St)
theorem z52 (op:Int):Ans Tryz.prog 90 [I op] σ (.tup [I (fOf op).1,Bo (fOf op).2]) σ:=by
 refine Ans.of_run t90 ?_
 rcases ops17 op with rfl|rfl|rfl|rfl|rfl|rfl|rfl|rfl|rfl|rfl|rfl|rfl|rfl|rfl|rfl|rfl|rfl|h
 all_goals first
  |(rw[z9A h]
    simp -implicitDefEqProofs only[c90,r90,go_sem,neI (op:=op) (k:=1) (by omega),neI (op:=op) (k:=2) (by omega),neI (op:=op) (k:=3) (by omega),neI (op:=op) (k:=4) (by omega),neI (op:=op) (k:=5) (by omega),neI (op:=op) (k:=6) (by omega),neI (op:=op) (k:=7) (by omega),neI (op:=op) (k:=8) (by omega),neI (op:=op) (k:=9) (by omega),neI (op:=op) (k:=10) (by omega),neI (op:=op) (k:=11) (by omega),neI (op:=op) (k:=12) (by omega),neI (op:=op) (k:=13) (by omega),neI (op:=op) (k:=14) (by omega),neI (op:=op) (k:=15) (by omega),neI (op:=op) (k:=16) (by omega),neI (op:=op) (k:=17) (by omega)]
    exact Fini.ret rfl)
  |(simp -implicitDefEqProofs only[c90,r90,go_sem]
    exact Fini.ret rfl)
theorem z0L (n:Nat):Ans Tryz.prog 155 [Fl n] σ (Bo (zF n)) σ:=by
 refine Ans.of_run t155 ?_
 simp -implicitDefEqProofs only[c155,r155,go_sem]
 refine CO.intro (z2r σ n) ?_
 simp -implicitDefEqProofs only[go_sem]
 exact Fini.ret rfl
theorem z0N (x:Bnd):Ans Tryz.prog 153 [bandV x] σ (Bo (noBd x)) σ:=by
 obtain⟨a,lo,hi⟩:=x
 refine Ans.of_run t153 ?_
 unfold bandV noBd
 simp only
 cases a with
 |true =>
  simp -implicitDefEqProofs only[c153,r153,go_sem]
  exact Fini.ret rfl
 |false =>
  simp -implicitDefEqProofs only[c153,r153,go_sem]
  refine CO.intro (z0L σ lo) ?_
  cases zF lo with
  |false =>
   simp -implicitDefEqProofs only[go_sem]
   exact Fini.ret rfl
  |true =>
   simp -implicitDefEqProofs only[go_sem]
   refine CO.intro (z0L σ hi) ?_
   simp -implicitDefEqProofs only[go_sem]
   exact Fini.ret rfl
theorem z0W (r:RuM):Ans Tryz.prog 154 [ruV r] σ (Bo (noRl r)) σ:=by
 have hb:=z0N σ (r.any,r.lo,r.hi)
 refine Ans.of_run t154 ?_
 unfold ruV noRl emI
 unfold bandV at hb
 cases h1:(((r.src.length:Nat):Int)==0) with
 |false =>
  simp -implicitDefEqProofs only[c154,r154,go_sem,z0g,h1]
  exact Fini.ret rfl
 |true =>
 cases h2:(((r.tgt.length:Nat):Int)==0) with
 |false =>
  simp -implicitDefEqProofs only[c154,r154,go_sem,z0g,h1,h2]
  exact Fini.ret rfl
 |true =>
 cases h3:(((r.eq.length:Nat):Int)==0) with
 |false =>
  simp -implicitDefEqProofs only[c154,r154,go_sem,z0g,z0o,h1,h2,h3]
  exact Fini.ret rfl
 |true =>
  simp -implicitDefEqProofs only[c154,r154,go_sem,z0g,z0o,h1,h2,h3]
  refine CO.intro hb ?_
  simp -implicitDefEqProofs only[go_sem]
  exact Fini.ret rfl
theorem z1R (s:ByteArray):Ans Tryz.prog 86 [Sx s] σ (Bo (tokB s)) σ:=by
 have d1:decide ((4:Int)≤(s.size:Nat))=decide (4≤s.size):=intle 4 s.size
 have d2:decide (((s.size:Nat):Int)≤16)=decide (s.size≤16):=intle s.size 16
 refine Ans.of_run t86 ?_
 unfold tokB
 cases h:decide (4≤s.size) with
 |false =>
  simp -implicitDefEqProofs only[c86,r86,go_sem,d1,h]
  exact Fini.ret rfl
 |true =>
  simp -implicitDefEqProofs only[c86,r86,go_sem,d1,d2,h]
  exact Fini.ret rfl
end
end Go.Proofs.YtmkmhhjkdaklbaaGreat
namespace Go.Proofs.YtmkmhhjkdaklbaaGreat
open Go Go.Ab
set_option maxRecDepth 100000
def c33:ACode :=
 (sq_ [pr_ 2 (.boxr (.tmp 0)),
 pr_ 4 mf_]
 (sq_ [pr_ 5 (fa_ 0 2),
 pr_ 6 (lf_ 1 5),
 pr_ 7 (.lens (.tmp 6)),
 mv_ 8 1,
 pr_ 9 (bt_ .leq 7 8),
 mv_ 10 9,
 gp_ 11 10 true (fa_ 3 2),
 gp_ 12 10 true (lf_ 1 11),
 gp_ 13 10 true (.lens (.tmp 12)),
 gp_ 14 10 true (mo_ 1),
 gp_ 15 10 true (bt_ .leq 13 14),
 pr_ 16 (pa_ 10 15),
 mv_ 17 16,
 gp_ 18 17 true (fa_ 7 2),
 gp_ 19 17 true (lf_ 1 18),
 gp_ 20 17 true (mo_ 1),
 gc_ 21 17 true 49 [(.tmp 19),(.tmp 20)],
 gp_ 22 17 true (mo_ 1),
 gp_ 23 17 true (bt_ .leq 21 22),
 pr_ 24 (pa_ 17 23),
 mv_ 25 24,
 gp_ 26 25 true (fa_ 17 2),
 gp_ 27 25 true (lf_ 1 26),
 gp_ 28 25 true (mo_ 1),
 gc_ 29 25 true 85 [(.tmp 27),(.tmp 28)],
 gp_ 30 25 true (mo_ 1),
 gp_ 31 25 true (bt_ .leq 29 30),
 pr_ 32 (pa_ 25 31),
 mv_ 33 32,
 gp_ 34 33 true (fa_ 11 2),
 gp_ 35 33 true (lt_ 6 34),
 gp_ 36 33 true (mo_ 1),
 gc_ 37 33 true 15 [(.tmp 35),(.tmp 36)],
 gp_ 38 33 true (mo_ 1),
 gp_ 39 33 true (bt_ .leq 37 38),
 pr_ 40 (pa_ 33 39),
 mv_ 4 40]
 .ret))
def o33:List Tmp:=[]
def r33:List RV:=[.tmp 4]
theorem t33:Text Tryz.prog 33 o33 c33 r33 41:=.mk_ Tryz.f33 rfl
def c36:ACode :=
 (sq_ [pr_ 1 (.boxr (.tmp 0)),
 pr_ 2 mf_]
 (sq_ [pr_ 3 (fa_ 0 1),
 pr_ 4 (lf_ 1 3),
 c1_ 5 88 4,
 mv_ 6 5,
 gp_ 7 6 true (lt_ 19 1),
 gc_ 8 6 true 89 [(.tmp 7)],
 pr_ 9 (pa_ 6 8),
 mv_ 2 9]
 .ret))
def o36:List Tmp:=[]
def r36:List RV:=[.tmp 2]
theorem t36:Text Tryz.prog 36 o36 c36 r36 10:=.mk_ Tryz.f36 rfl
def c38:ACode :=
 (sq_ [pr_ 1 (.boxr (.tmp 0)),
 pr_ 2 (.mov (.const (.slice none 0 0)))]
 (.seq (sq_ [pr_ 6 (lt_ 19 1),
 c1_ 7 89 6,
 pr_ 8 (no_ 7)]
 (.cond (.tmp 8)
 (sq_ [pr_ 2 (.mov (.const (.slice none 0 0)))]
 (.ghost (.shut 2) .ret))
 .skip))
 (sq_ [pr_ 9 (fa_ 1 1),
 pr_ 10 (lf_ 1 9),
 c1_ 11 95 10,
 mv_ 3 11]
 (sq_ [pr_ 12 (fa_ 1 1),
 pr_ 13 (lf_ 1 12),
 pr_ 14 (.convi .u8 (.tmp 13)),
 pr_ 15 (.bsl true 1 false 1 [.pl (.int .u8 0)] [(0,1,(.tmp 14))]),
 mv_ 4 15]
 (.seq (sq_ [pr_ 5 (mi_ .i64 0)]
 (.block 0 (.loop [0,2,6,7,8,9,10,11,12,13,14,15,16,17,18,19,20,21,22,23,24,25,26,27,28,29,30,31,32,33,34,35,36,37,38,39,40,41,42,43,44,45,46,47,48,49,50,51,52,53,54,55,56,57,58,59,60,61,62,63,64,65,66,67,68,69,70,71,72,73,74,75,76,77,78,79,80,81,82,83,84,85,86,87,88,89,90,91,92,93,94,95,96,97,98] (.seq (sq_ [mv_ 16 5,
 mv_ 17 3,
 pr_ 18 (.lens (.tmp 17)),
 pr_ 19 (bt_ .lss 16 18)]
 (.cond (.tmp 19)
 .skip
 (.exit 0)))
 (.seq (.block 1 (sq_ [mv_ 22 3,
 mv_ 23 5,
 pr_ 24 (.idxs (.tmp 22) (.tmp 23))]
 (.block 2 (sq_ [pr_ 26 (bk_ .eql 24 .u8 73),
 mv_ 25 26]
 (.cond (.tmp 25)
 (.ops [mv_ 27 4,
 pr_ 28 (fa_ 2 1),
 pr_ 29 (lf_ 1 28),
 pr_ 30 (.convi .u64 (.tmp 29)),
 c1_ 31 75 30,
 pr_ 32 (.app 1 (.tmp 27) (.tmp 31)),
 mv_ 4 32])
 (sq_ [pr_ 34 (bk_ .eql 24 .u8 84),
 mv_ 33 34]
 (.cond (.tmp 33)
 (.ops [mv_ 35 4,
 pr_ 36 (fa_ 3 1),
 pr_ 37 (lf_ 1 36),
 c1_ 38 76 37,
 pr_ 39 (.app 1 (.tmp 35) (.tmp 38)),
 mv_ 4 39])
 (sq_ [pr_ 41 (bk_ .eql 24 .u8 83),
 mv_ 40 41]
 (.cond (.tmp 40)
 (.ops [mv_ 42 4,
 pr_ 43 (fa_ 4 1),
 pr_ 44 (lf_ 1 43),
 c1_ 45 75 44,
 pr_ 46 (.app 1 (.tmp 42) (.tmp 45)),
 mv_ 4 46])
 (sq_ [pr_ 48 (bk_ .eql 24 .u8 69),
 mv_ 47 48]
 (.cond (.tmp 47)
 (.ops [mv_ 49 4,
 pr_ 50 (fa_ 5 1),
 pr_ 51 (lf_ 1 50),
 c1_ 52 75 51,
 pr_ 53 (.app 1 (.tmp 49) (.tmp 52)),
 mv_ 4 53])
 (sq_ [pr_ 55 (bk_ .eql 24 .u8 90),
 mv_ 54 55]
 (.cond (.tmp 54)
 (.ops [mv_ 56 4,
 pr_ 57 (fa_ 6 1),
 pr_ 58 (lf_ 1 57),
 pr_ 59 (.convi .u8 (.tmp 58)),
 pr_ 60 (.bsl false 1 false 1 [.pl (.int .u8 0)] [(0,1,(.tmp 59))]),
 pr_ 61 (.app 1 (.tmp 56) (.tmp 60)),
 mv_ 4 61])
 (sq_ [pr_ 63 (bk_ .eql 24 .u8 77),
 mv_ 62 63]
 (.cond (.tmp 62)
 (.ops [mv_ 64 4,
 pr_ 65 (fa_ 7 1),
 pr_ 66 (lf_ 1 65),
 c1_ 67 73 66,
 pr_ 68 (.app 1 (.tmp 64) (.tmp 67)),
 mv_ 4 68])
 (sq_ [pr_ 70 (bk_ .eql 24 .u8 66),
 mv_ 69 70]
 (.cond (.tmp 69)
 (.ops [mv_ 71 4,
 pr_ 72 (fa_ 8 1),
 pr_ 73 (lt_ 3 72),
 c1_ 74 74 73,
 pr_ 75 (.app 1 (.tmp 71) (.tmp 74)),
 mv_ 4 75])
 (sq_ [pr_ 77 (bk_ .eql 24 .u8 82),
 mv_ 76 77]
 (.cond (.tmp 76)
 (.ops [mv_ 78 4,
 pr_ 79 (fa_ 11 1),
 pr_ 80 (lt_ 6 79),
 c1_ 81 20 80,
 pr_ 82 (.app 1 (.tmp 78) (.tmp 81)),
 mv_ 4 82])
 (sq_ [pr_ 84 (bk_ .eql 24 .u8 76),
 mv_ 83 84]
 (.cond (.tmp 83)
 (.ops [mv_ 85 4,
 pr_ 86 (fa_ 17 1),
 pr_ 87 (lf_ 1 86),
 c1_ 88 96 87,
 pr_ 89 (.app 1 (.tmp 85) (.tmp 88)),
 mv_ 4 89])
 (sq_ [pr_ 91 (bk_ .eql 24 .u8 86),
 mv_ 90 91]
 (.cond (.tmp 90)
 (.ops [mv_ 92 4,
 pr_ 93 (fa_ 18 1),
 pr_ 94 (lf_ 1 93),
 c1_ 95 48 94,
 c1_ 96 97 95,
 pr_ 97 (.app 1 (.tmp 92) (.tmp 96)),
 mv_ 4 97])
 .skip)))))))))))))))))))))))
 (.ops [mv_ 20 5,
 pr_ 21 (bk_ .add 20 .i64 1),
 mv_ 5 21]))))))
 (sq_ [mv_ 98 4,
 mv_ 2 98]
 (.ghost (.shut 2) .ret)))))))
def o38:List Tmp:=[15]
def r38:List RV:=[.tmp 2]
theorem t38:Text Tryz.prog 38 o38 c38 r38 99:=.mk_ Tryz.f38 rfl
def c40:ACode :=
 (sq_ [pr_ 1 (.boxr (.tmp 0)),
 pr_ 2 (.mov (.const (.slice none 0 0)))]
 (.seq (sq_ [pr_ 3 (lt_ 19 1),
 c1_ 4 36 3,
 pr_ 5 (no_ 4)]
 (.cond (.tmp 5)
 (sq_ [pr_ 2 (.mov (.const (.slice none 0 0)))]
 (.ghost (.shut 2) .ret))
 .skip))
 (.seq (.draw [⟨pr_ 6 (fa_ 0 1),[],false,0,0⟩,
 ⟨pr_ 7 (lf_ 1 6),[0],false,0,0⟩,
 ⟨c1_ 8 76 7,[0,1],true,0,0⟩,
 ⟨pr_ 9 (lt_ 19 1),[],false,0,1⟩,
 ⟨c1_ 10 38 9,[0,1,2,3],true,0,0⟩,
 ⟨pr_ 11 (.app 1 (.tmp 8) (.tmp 10)),[0,1,2,3,4],true,0,0⟩,
 ⟨mv_ 2 11,(List.range 6),false,3,3⟩])
 (.ghost (.shut 2) .ret))))
def o40:List Tmp:=[]
def r40:List RV:=[.tmp 2]
theorem t40:Text Tryz.prog 40 o40 c40 r40 12:=.mk_ Tryz.f40 rfl
def c88:ACode :=
 (sq_ [pr_ 2 mf_]
 (sq_ [mv_ 3 0,
 pr_ 4 (.lens (.tmp 3)),
 pr_ 5 (bk_ .geq 4 .i64 4),
 mv_ 6 5,
 gp_ 7 6 true (mo_ 0),
 gp_ 8 6 true (.lens (.tmp 7)),
 gp_ 9 6 true (bk_ .leq 8 .i64 16),
 pr_ 10 (pa_ 6 9),
 mv_ 2 10]
 .ret))
def o88:List Tmp:=[]
def r88:List RV:=[.tmp 2]
theorem t88:Text Tryz.prog 88 o88 c88 r88 11:=.mk_ Tryz.f88 rfl
def c89:ACode :=
 (sq_ [pr_ 1 (.boxr (.tmp 0)),
 pr_ 2 mf_]
 (sq_ [pr_ 4 (fa_ 1 1),
 pr_ 5 (lf_ 1 4),
 c1_ 6 95 5,
 mv_ 3 6]
 (.seq (sq_ [mv_ 7 3,
 pr_ 8 (.bin false .eql (.tmp 7) (.const (.string (ByteArray.mk #[]))))]
 (.cond (.tmp 8)
 (sq_ [pr_ 2 mf_]
 .ret)
 .skip))
 (.seq (sq_ [mv_ 9 3,
 cl_ 10 127 [(.tmp 9),(.const (.int .u8 73))],
 pr_ 11 (no_ 10),
 mv_ 12 11,
 gp_ 13 12 true (fa_ 2 1),
 gp_ 14 12 true (lf_ 1 13),
 gp_ 15 12 true (bk_ .neq 14 .i64 0),
 pr_ 16 (pa_ 12 15),
 mv_ 17 16,
 gp_ 18 17 false (fa_ 2 1),
 gp_ 19 17 false (lf_ 1 18),
 gp_ 20 17 false (bk_ .lss 19 .i64 0),
 pr_ 21 (po_ 17 20),
 mv_ 22 21,
 gp_ 23 22 false (fa_ 2 1),
 gp_ 24 22 false (lf_ 1 23),
 gp_ 25 22 false (bk_ .gtr 24 .i64 2147483647),
 pr_ 26 (po_ 22 25)]
 (.cond (.tmp 26)
 (sq_ [pr_ 2 mf_]
 .ret)
 .skip))
 (.seq (sq_ [mv_ 27 3,
 cl_ 28 127 [(.tmp 27),(.const (.int .u8 84))],
 mv_ 29 28,
 gp_ 30 29 true (fa_ 3 1),
 gp_ 31 29 true (lf_ 1 30),
 gc_ 32 29 true 88 [(.tmp 31)],
 gp_ 33 29 true (no_ 32),
 pr_ 34 (pa_ 29 33),
 mv_ 35 34,
 gp_ 36 35 false (mo_ 3),
 gc_ 37 35 false 127 [(.tmp 36),(.const (.int .u8 84))],
 gp_ 38 35 false (no_ 37),
 gp_ 39 35 false (mo_ 38),
 gp_ 40 39 true (fa_ 3 1),
 gp_ 41 39 true (lf_ 1 40),
 gp_ 42 39 true (.bin false .neq (.tmp 41) (.const (.string (ByteArray.mk #[])))),
 gp_ 43 35 false (pa_ 39 42),
 pr_ 44 (po_ 35 43)]
 (.cond (.tmp 44)
 (sq_ [pr_ 2 mf_]
 .ret)
 .skip))
 (.seq (sq_ [mv_ 45 3,
 cl_ 46 127 [(.tmp 45),(.const (.int .u8 83))],
 pr_ 47 (no_ 46),
 mv_ 48 47,
 gp_ 49 48 true (fa_ 4 1),
 gp_ 50 48 true (lf_ 1 49),
 gp_ 51 48 true (bk_ .neq 50 .u64 0),
 gp_ 52 48 true (mo_ 51),
 gp_ 53 52 false (fa_ 5 1),
 gp_ 54 52 false (lf_ 1 53),
 gp_ 55 52 false (bk_ .neq 54 .u64 0),
 gp_ 56 48 true (po_ 52 55),
 pr_ 57 (pa_ 48 56),
 mv_ 58 57,
 gp_ 59 58 false (fa_ 4 1),
 gp_ 60 58 false (lf_ 1 59),
 gp_ 61 58 false (bk_ .gtr 60 .u64 1099511627776),
 pr_ 62 (po_ 58 61),
 mv_ 63 62,
 gp_ 64 63 false (fa_ 5 1),
 gp_ 65 63 false (lf_ 1 64),
 gp_ 66 63 false (bk_ .gtr 65 .u64 1099511627776),
 pr_ 67 (po_ 63 66)]
 (.cond (.tmp 67)
 (sq_ [pr_ 2 mf_]
 .ret)
 .skip))
 (.seq (sq_ [mv_ 68 3,
 cl_ 69 127 [(.tmp 68),(.const (.int .u8 90))],
 pr_ 70 (no_ 69),
 mv_ 71 70,
 gp_ 72 71 true (fa_ 6 1),
 gp_ 73 71 true (lf_ 1 72),
 gp_ 74 71 true (bk_ .neq 73 .i64 0),
 pr_ 75 (pa_ 71 74),
 mv_ 76 75,
 gp_ 77 76 false (fa_ 6 1),
 gp_ 78 76 false (lf_ 1 77),
 gp_ 79 76 false (bk_ .lss 78 .i64 0),
 pr_ 80 (po_ 76 79),
 mv_ 81 80,
 gp_ 82 81 false (fa_ 6 1),
 gp_ 83 81 false (lf_ 1 82),
 gp_ 84 81 false (bk_ .gtr 83 .i64 3),
 pr_ 85 (po_ 81 84)]
 (.cond (.tmp 85)
 (sq_ [pr_ 2 mf_]
 .ret)
 .skip))
 (.seq (sq_ [mv_ 86 3,
 cl_ 87 127 [(.tmp 86),(.const (.int .u8 77))],
 pr_ 88 (no_ 87),
 mv_ 89 88,
 gp_ 90 89 true (fa_ 7 1),
 gp_ 91 89 true (lf_ 1 90),
 gp_ 92 89 true (.lenv (.tmp 91)),
 gp_ 93 89 true (bk_ .gtr 92 .i64 0),
 pr_ 94 (pa_ 89 93),
 mv_ 95 94,
 gp_ 96 95 false (mo_ 3),
 gc_ 97 95 false 127 [(.tmp 96),(.const (.int .u8 83))],
 gp_ 98 95 false (mo_ 97),
 gp_ 99 98 true (fa_ 7 1),
 gp_ 100 98 true (lf_ 1 99),
 gp_ 101 98 true (.lenv (.tmp 100)),
 gp_ 102 98 true (bk_ .eql 101 .i64 0),
 gp_ 103 95 false (pa_ 98 102),
 pr_ 104 (po_ 95 103),
 mv_ 105 104,
 gp_ 106 105 false (fa_ 7 1),
 gp_ 107 105 false (lf_ 1 106),
 gc_ 108 105 false 117 [(.tmp 107)],
 gp_ 109 105 false (no_ 108),
 pr_ 110 (po_ 105 109)]
 (.cond (.tmp 110)
 (sq_ [pr_ 2 mf_]
 .ret)
 .skip))
 (.seq (sq_ [mv_ 111 3,
 cl_ 112 127 [(.tmp 111),(.const (.int .u8 66))],
 pr_ 113 (no_ 112),
 mv_ 114 113,
 gp_ 115 114 true (fa_ 8 1),
 gp_ 116 114 true (lt_ 3 115),
 gc_ 117 114 true 128 [(.tmp 116)],
 gp_ 118 114 true (no_ 117),
 pr_ 119 (pa_ 114 118),
 mv_ 120 119,
 gp_ 121 120 false (fa_ 8 1),
 gp_ 122 120 false (lt_ 3 121),
 gc_ 123 120 false 120 [(.tmp 122)],
 gp_ 124 120 false (no_ 123),
 pr_ 125 (po_ 120 124)]
 (.cond (.tmp 125)
 (sq_ [pr_ 2 mf_]
 .ret)
 .skip))
 (.seq (sq_ [mv_ 126 3,
 cl_ 127 127 [(.tmp 126),(.const (.int .u8 82))],
 mv_ 128 127,
 gp_ 129 128 true (fa_ 11 1),
 gp_ 130 128 true (lt_ 6 129),
 gc_ 131 128 true 67 [(.tmp 130)],
 gp_ 132 128 true (no_ 131),
 pr_ 133 (pa_ 128 132),
 mv_ 134 133,
 gp_ 135 134 false (mo_ 3),
 gc_ 136 134 false 127 [(.tmp 135),(.const (.int .u8 82))],
 gp_ 137 134 false (no_ 136),
 gp_ 138 134 false (mo_ 137),
 gp_ 139 138 true (fa_ 11 1),
 gp_ 140 138 true (lt_ 6 139),
 gc_ 141 138 true 129 [(.tmp 140)],
 gp_ 142 138 true (no_ 141),
 gp_ 143 134 false (pa_ 138 142),
 pr_ 144 (po_ 134 143)]
 (.cond (.tmp 144)
 (sq_ [pr_ 2 mf_]
 .ret)
 .skip))
 (.seq (sq_ [mv_ 145 3,
 cl_ 146 127 [(.tmp 145),(.const (.int .u8 76))]]
 (.cond (.tmp 146)
 (sq_ [pr_ 147 (fa_ 17 1),
 pr_ 148 (lf_ 1 147),
 c1_ 149 130 148,
 mv_ 2 149]
 .ret)
 .skip))
 (sq_ [pr_ 150 (fa_ 17 1),
 pr_ 151 (lf_ 1 150),
 pr_ 152 (.lenv (.tmp 151)),
 pr_ 153 (bk_ .eql 152 .i64 0),
 mv_ 154 153,
 gp_ 155 154 true (fa_ 18 1),
 gp_ 156 154 true (lf_ 1 155),
 gc_ 157 154 true 48 [(.tmp 156)],
 gp_ 158 154 true (bk_ .eql 157 .u64 0),
 pr_ 159 (pa_ 154 158),
 mv_ 2 159]
 .ret))))))))))))
def o89:List Tmp:=[]
def r89:List RV:=[.tmp 2]
theorem t89:Text Tryz.prog 89 o89 c89 r89 160:=.mk_ Tryz.f89 rfl
def c95:ACode :=
 (sq_ [pr_ 2 (.mov (.const (.string (ByteArray.mk #[]))))]
 (.seq (sq_ [mv_ 3 0]
 (.block 0 (.seq (sq_ [pr_ 5 (bk_ .eql 3 .i64 1),
 mv_ 4 5]
 (.cond (.tmp 4)
 .skip
 (sq_ [pr_ 6 (bk_ .eql 3 .i64 14),
 mv_ 4 6]
 (.cond (.tmp 4)
 .skip
 (sq_ [pr_ 7 (bk_ .eql 3 .i64 16),
 mv_ 4 7]
 (.cond (.tmp 4)
 .skip
 (.ops [pr_ 8 (bk_ .eql 3 .i64 17),
 mv_ 4 8])))))))
 (.cond (.tmp 4)
 (sq_ [pr_ 2 (.mov (.const (.string (ByteArray.mk #[45]))))]
 .ret)
 (.seq (sq_ [pr_ 10 (bk_ .eql 3 .i64 2),
 mv_ 9 10]
 (.cond (.tmp 9)
 .skip
 (sq_ [pr_ 11 (bk_ .eql 3 .i64 7),
 mv_ 9 11]
 (.cond (.tmp 9)
 .skip
 (sq_ [pr_ 12 (bk_ .eql 3 .i64 10),
 mv_ 9 12]
 (.cond (.tmp 9)
 .skip
 (sq_ [pr_ 13 (bk_ .eql 3 .i64 12),
 mv_ 9 13]
 (.cond (.tmp 9)
 .skip
 (.ops [pr_ 14 (bk_ .eql 3 .i64 15),
 mv_ 9 14])))))))))
 (.cond (.tmp 9)
 (sq_ [pr_ 2 (.mov (.const (.string (ByteArray.mk #[73]))))]
 .ret)
 (.seq (sq_ [pr_ 16 (bk_ .eql 3 .i64 3),
 mv_ 15 16]
 (.cond (.tmp 15)
 .skip
 (.ops [pr_ 17 (bk_ .eql 3 .i64 4),
 mv_ 15 17])))
 (.cond (.tmp 15)
 (sq_ [pr_ 2 (.mov (.const (.string (ByteArray.mk #[73,84]))))]
 .ret)
 (sq_ [pr_ 19 (bk_ .eql 3 .i64 5),
 mv_ 18 19]
 (.cond (.tmp 18)
 (sq_ [pr_ 2 (.mov (.const (.string (ByteArray.mk #[83,69,77,66]))))]
 .ret)
 (sq_ [pr_ 21 (bk_ .eql 3 .i64 6),
 mv_ 20 21]
 (.cond (.tmp 20)
 (sq_ [pr_ 2 (.mov (.const (.string (ByteArray.mk #[73,83,69,77,66]))))]
 .ret)
 (sq_ [pr_ 23 (bk_ .eql 3 .i64 8),
 mv_ 22 23]
 (.cond (.tmp 22)
 (sq_ [pr_ 2 (.mov (.const (.string (ByteArray.mk #[90]))))]
 .ret)
 (sq_ [pr_ 25 (bk_ .eql 3 .i64 9),
 mv_ 24 25]
 (.cond (.tmp 24)
 (sq_ [pr_ 2 (.mov (.const (.string (ByteArray.mk #[82]))))]
 .ret)
 (sq_ [pr_ 27 (bk_ .eql 3 .i64 11),
 mv_ 26 27]
 (.cond (.tmp 26)
 (sq_ [pr_ 2 (.mov (.const (.string (ByteArray.mk #[76,86]))))]
 .ret)
 (sq_ [pr_ 29 (bk_ .eql 3 .i64 13),
 mv_ 28 29]
 (.cond (.tmp 28)
 (sq_ [pr_ 2 (.mov (.const (.string (ByteArray.mk #[77]))))]
 .ret)
 .skip))))))))))))))))))))
 (sq_ [pr_ 2 (.mov (.const (.string (ByteArray.mk #[]))))]
 .ret)))
def o95:List Tmp:=[]
def r95:List RV:=[.tmp 2]
theorem t95:Text Tryz.prog 95 o95 c95 r95 30:=.mk_ Tryz.f95 rfl
def c96:ACode :=
 (sq_ [pr_ 2 (.mov (.const (.slice none 0 0)))]
 (.seq (sq_ [mv_ 5 0,
 c1_ 6 130 5,
 pr_ 7 (no_ 6)]
 (.cond (.tmp 7)
 (sq_ [pr_ 2 (.mov (.const (.slice none 0 0)))]
 (.ghost (.shut 2) .ret))
 .skip))
 (sq_ [mv_ 8 0,
 pr_ 9 (.lenv (.tmp 8)),
 pr_ 10 (.convi .u64 (.tmp 9)),
 c1_ 11 75 10,
 mv_ 3 11]
 (.seq (sq_ [pr_ 4 (mi_ .i64 0)]
 (.block 0 (.loop [1,2,5,6,7,8,9,10,11,12,13,14,15,16,17,18,19,20,21,22,23,24,25,26,27,28,29,30,31,32,33] (.seq (sq_ [mv_ 12 4,
 mv_ 13 0,
 pr_ 14 (.lenv (.tmp 13)),
 pr_ 15 (bt_ .lss 12 14)]
 (.cond (.tmp 15)
 .skip
 (.exit 0)))
 (.seq (.block 1 (.draw [⟨mv_ 18 3,[],false,0,1⟩,
 ⟨mv_ 19 0,[],false,0,0⟩,
 ⟨mv_ 20 4,[],false,0,0⟩,
 ⟨pr_ 21 (.iadrs 2 (.tmp 19) (.tmp 20)),[1,2],false,0,0⟩,
 ⟨pr_ 22 (fa_ 0 21),[1,2,3],false,0,0⟩,
 ⟨pr_ 23 (lf_ 1 22),[1,2,3,4],false,0,0⟩,
 ⟨c1_ 24 76 23,[1,2,3,4,5],true,0,0⟩,
 ⟨pr_ 25 (.app 1 (.tmp 18) (.tmp 24)),(List.range 7),true,0,0⟩,
 ⟨mv_ 26 0,[],false,0,2⟩,
 ⟨mv_ 27 4,[],false,0,2⟩,
 ⟨pr_ 28 (.iadrs 2 (.tmp 26) (.tmp 27)),[8,9],false,0,2⟩,
 ⟨pr_ 29 (fa_ 1 28),[8,9,10],false,0,2⟩,
 ⟨pr_ 30 (lf_ 1 29),[8,9,10,11],false,0,2⟩,
 ⟨c1_ 31 76 30,(List.range 13),true,0,0⟩,
 ⟨pr_ 32 (.app 1 (.tmp 25) (.tmp 31)),(List.range 14),true,0,0⟩,
 ⟨mv_ 3 32,(List.range 15),false,4,4⟩]))
 (.ops [mv_ 16 4,
 pr_ 17 (bk_ .add 16 .i64 1),
 mv_ 4 17]))))))
 (sq_ [mv_ 33 3,
 mv_ 2 33]
 (.ghost (.shut 2) .ret))))))
def o96:List Tmp:=[]
def r96:List RV:=[.tmp 2]
theorem t96:Text Tryz.prog 96 o96 c96 r96 34:=.mk_ Tryz.f96 rfl
def c127:ACode :=
 (sq_ [pr_ 4 mf_]
 (.seq (sq_ [pr_ 5 (mi_ .i64 0)]
 (.block 0 (.loop [2,3,4,6,7,8,9,10,11,12,13,14,15,16] (.seq (sq_ [mv_ 6 5,
 mv_ 7 0,
 pr_ 8 (.lens (.tmp 7)),
 pr_ 9 (bt_ .lss 6 8)]
 (.cond (.tmp 9)
 .skip
 (.exit 0)))
 (.seq (.block 1 (sq_ [mv_ 12 0,
 mv_ 13 5,
 pr_ 14 (.idxs (.tmp 12) (.tmp 13)),
 mv_ 15 1,
 pr_ 16 (bt_ .eql 14 15)]
 (.cond (.tmp 16)
 (sq_ [pr_ 4 mt_]
 .ret)
 .skip)))
 (.ops [mv_ 10 5,
 pr_ 11 (bk_ .add 10 .i64 1),
 mv_ 5 11]))))))
 (sq_ [pr_ 4 mf_]
 .ret)))
def o127:List Tmp:=[]
def r127:List RV:=[.tmp 4]
theorem t127:Text Tryz.prog 127 o127 c127 r127 17:=.mk_ Tryz.f127 rfl
def c128:ACode :=
 (sq_ [pr_ 1 (.boxr (.tmp 0)),
 pr_ 2 mf_]
 (sq_ [pr_ 3 (fa_ 0 1),
 pr_ 4 (lf_ 1 3),
 pr_ 5 (no_ 4),
 mv_ 6 5,
 gp_ 7 6 true (fa_ 1 1),
 gp_ 8 6 true (lf_ 1 7),
 gc_ 9 6 true 48 [(.tmp 8)],
 gp_ 10 6 true (bk_ .eql 9 .u64 0),
 pr_ 11 (pa_ 6 10),
 mv_ 12 11,
 gp_ 13 12 true (fa_ 2 1),
 gp_ 14 12 true (lf_ 1 13),
 gc_ 15 12 true 48 [(.tmp 14)],
 gp_ 16 12 true (bk_ .eql 15 .u64 0),
 pr_ 17 (pa_ 12 16),
 mv_ 2 17]
 .ret))
def o128:List Tmp:=[]
def r128:List RV:=[.tmp 2]
theorem t128:Text Tryz.prog 128 o128 c128 r128 18:=.mk_ Tryz.f128 rfl
def c129:ACode :=
 (sq_ [pr_ 1 (.boxr (.tmp 0)),
 pr_ 2 mf_]
 (sq_ [pr_ 3 (fa_ 0 1),
 pr_ 4 (lf_ 1 3),
 pr_ 5 (.lenv (.tmp 4)),
 pr_ 6 (bk_ .eql 5 .i64 0),
 mv_ 7 6,
 gp_ 8 7 true (fa_ 1 1),
 gp_ 9 7 true (lf_ 1 8),
 gp_ 10 7 true (.lenv (.tmp 9)),
 gp_ 11 7 true (bk_ .eql 10 .i64 0),
 pr_ 12 (pa_ 7 11),
 mv_ 13 12,
 gp_ 14 13 true (fa_ 2 1),
 gp_ 15 13 true (lt_ 3 14),
 gc_ 16 13 true 128 [(.tmp 15)],
 pr_ 17 (pa_ 13 16),
 mv_ 18 17,
 gp_ 19 18 true (fa_ 5 1),
 gp_ 20 18 true (lf_ 1 19),
 gp_ 21 18 true (.lenv (.tmp 20)),
 gp_ 22 18 true (bk_ .eql 21 .i64 0),
 pr_ 23 (pa_ 18 22),
 mv_ 2 23]
 .ret))
def o129:List Tmp:=[]
def r129:List RV:=[.tmp 2]
theorem t129:Text Tryz.prog 129 o129 c129 r129 24:=.mk_ Tryz.f129 rfl
end Go.Proofs.YtmkmhhjkdaklbaaGreat
namespace Go.Proofs.YtmkmhhjkdaklbaaGreat
open Go Go.Ab Go.Cod
set_option maxRecDepth 100000
def dTab:List ByteArray:=[⟨#[45]⟩,⟨#[73]⟩,⟨#[73,84]⟩,⟨#[73,84]⟩,⟨#[83,69,77,66]⟩,⟨#[73,83,69,77,66]⟩,⟨#[73]⟩,⟨#[90]⟩,⟨#[82]⟩,⟨#[73]⟩,⟨#[76,86]⟩,⟨#[73]⟩,⟨#[77]⟩,⟨#[45]⟩,⟨#[73]⟩,⟨#[45]⟩,⟨#[45]⟩]
def dOf (op:Int):ByteArray:=if 1≤op∧op≤17 then dTab.getD (op.toNat-1) ⟨#[]⟩ else⟨#[]⟩
theorem zbq {op:Int} (h:op<1∨17<op):dOf op=⟨#[]⟩:=by unfold dOf;rw[if_neg (by omega)]
def hasC (s:ByteArray) (c:Nat):Bool:=!((List.range s.size).all fun i=>!((byteAt s i:Int)==(c:Int)))
section
variable (σ:St)
theorem z0z (op:Int):Ans Tryz.prog 95 [I op] σ (Sx (dOf op)) σ:=by
 refine Ans.of_run t95 ?_
 rcases ops17 op with rfl|rfl|rfl|rfl|rfl|rfl|rfl|rfl|rfl|rfl|rfl|rfl|rfl|rfl|rfl|rfl|rfl|h
 all_goals first
  |(rw[zbq h]
    simp -implicitDefEqProofs only[c95,r95,go_sem,neI (op:=op) (k:=1) (by omega),neI (op:=op) (k:=2) (by omega),neI (op:=op) (k:=3) (by omega),neI (op:=op) (k:=4) (by omega),neI (op:=op) (k:=5) (by omega),neI (op:=op) (k:=6) (by omega),neI (op:=op) (k:=7) (by omega),neI (op:=op) (k:=8) (by omega),neI (op:=op) (k:=9) (by omega),neI (op:=op) (k:=10) (by omega),neI (op:=op) (k:=11) (by omega),neI (op:=op) (k:=12) (by omega),neI (op:=op) (k:=13) (by omega),neI (op:=op) (k:=14) (by omega),neI (op:=op) (k:=15) (by omega),neI (op:=op) (k:=16) (by omega),neI (op:=op) (k:=17) (by omega)]
    exact Fini.ret rfl)
  |(simp -implicitDefEqProofs only[c95,r95,go_sem]
    exact Fini.ret rfl)
theorem z1k (s:ByteArray):Ans Tryz.prog 88 [Sx s] σ (Bo (tokB s)) σ:=by
 have d1:decide ((4:Int)≤(s.size:Nat))=decide (4≤s.size):=intle 4 s.size
 have d2:decide (((s.size:Nat):Int)≤16)=decide (s.size≤16):=intle s.size 16
 refine Ans.of_run t88 ?_
 unfold tokB
 cases h:decide (4≤s.size) with
 |false =>
  simp -implicitDefEqProofs only[c88,r88,go_sem,d1,h]
  exact Fini.ret rfl
 |true =>
  simp -implicitDefEqProofs only[c88,r88,go_sem,d1,d2,h]
  exact Fini.ret rfl
theorem z0O (x:Bnd):Ans Tryz.prog 128 [bandV x] σ (Bo (noBd x)) σ:=by
 obtain⟨a,lo,hi⟩:=x
 refine Ans.of_run t128 ?_
 unfold bandV noBd
 simp only
 cases a with
 |true =>
  simp -implicitDefEqProofs only[c128,r128,go_sem]
  exact Fini.ret rfl
 |false =>
  simp -implicitDefEqProofs only[c128,r128,go_sem]
  refine CO.intro (z0t σ lo) ?_
  unfold zF
  cases h:(((bitsF lo:Nat):Int)==0) with
  |false =>
   simp -implicitDefEqProofs only[go_sem,h]
   exact Fini.ret rfl
  |true =>
   simp -implicitDefEqProofs only[go_sem,h]
   refine CO.intro (z0t σ hi) ?_
   simp -implicitDefEqProofs only[go_sem]
   exact Fini.ret rfl
theorem z0X (r:RuM):Ans Tryz.prog 129 [ruV r] σ (Bo (noRl r)) σ:=by
 have hb:=z0O σ (r.any,r.lo,r.hi)
 have e:noRl r=(emI r.src.length&&(emI r.tgt.length&&(noBd (r.any,r.lo,r.hi)&&emI r.eq.length))):=by
  unfold noRl
  cases emI r.src.length<;>cases emI r.tgt.length<;>cases emI r.eq.length<;>cases noBd (r.any,r.lo,r.hi)<;>rfl
 rw[e]
 refine Ans.of_run t129 ?_
 unfold ruV emI
 unfold bandV at hb
 cases h1:(((r.src.length:Nat):Int)==0) with
 |false =>
  simp -implicitDefEqProofs only[c129,r129,go_sem,z0g,h1]
  exact Fini.ret rfl
 |true =>
 cases h2:(((r.tgt.length:Nat):Int)==0) with
 |false =>
  simp -implicitDefEqProofs only[c129,r129,go_sem,z0g,h1,h2]
  exact Fini.ret rfl
 |true =>
  simp -implicitDefEqProofs only[c129,r129,go_sem,z0g,z0o,h1,h2]
  refine CO.intro hb ?_
  cases noBd (r.any,r.lo,r.hi) with
  |false =>
   simp -implicitDefEqProofs only[go_sem]
   exact Fini.ret rfl
  |true =>
   simp -implicitDefEqProofs only[go_sem,z0o]
   exact Fini.ret rfl
theorem z1t (s:ByteArray) (c:Nat) (hs:s.size≤100000):Ans Tryz.prog 127 [Sx s,.pl (.int .u8 c)] σ (Bo (hasC s c)) σ:=by
 refine Ans.of_run t127 ?_
 simp -implicitDefEqProofs only[c127,r127,go_sem]
 unfold hasC
 refine Go.Ab.L.scan s.size (fun i=>!((byteAt s i:Int)==(c:Int))) (fun i=>mkE 17 [(0,Sx s),(1,.pl (.int .u8 c)),(5,I i)]) (fun _=>σ) ?_ ?_ rfl rfl
 · intro i hi hp J hJ
   have hlt:((i:Int)<s.size)=True:=by simp;omega
   have hin:=wrap_succ (i:=i) (by omega)
   have hF:(!((byteAt s i:Int)==(c:Int)))=false→((List.range s.size).all fun i=>!((byteAt s i:Int)==(c:Int)))=false:=fun h=>List.all_eq_false.2 ⟨i,List.mem_range.2 hi,by rw[h];decide⟩
   cases h:((byteAt s i:Int)==(c:Int)) with
   |true =>
    rw[hF (by rw[h];rfl)]
    simp -implicitDefEqProofs only[mkE,go_sem,hlt,dec_lt hi,z04,h]
    exact Fini.ret rfl
   |false =>
    rw[h]at hJ
    have hgo:=hJ rfl
    simp -implicitDefEqProofs only[mkE,go_sem,hlt,dec_lt hi,z04,h,hin]
    exact hgo
 · intro hp J
   have hd:decide ((s.size:Int)<s.size)=false:=by simp
   simp -implicitDefEqProofs only[mkE,go_sem,hd]
   refine Fini.ret' rfl (z0G ?_)
   rw[List.all_eq_true.2 fun i hi=>hp i (List.mem_range.1 hi)];rfl
end
section
variable (σ:St)
theorem zaU (v:ByteArray):Ans Tryz.prog 156 [Sx v] σ (Bo (valB v)) σ:=by
 have d1:decide ((1:Int)≤(v.size:Nat))=decide (1≤v.size):=intle 1 v.size
 have d2:decide (((v.size:Nat):Int)≤24)=decide (v.size≤24):=intle v.size 24
 refine Ans.of_run t156 ?_
 unfold valB
 cases h:decide (1≤v.size) with
 |false =>
  simp -implicitDefEqProofs only[c156,r156,go_sem,d1,h]
  exact Fini.ret rfl
 |true =>
  simp -implicitDefEqProofs only[c156,r156,go_sem,d1,d2,h]
  exact Fini.ret rfl
theorem z1l (L:List Lab) (hs:∀x∈L,x.1.size≤100000):Ans Tryz.prog 130 [.sl 2 (lvs L)] σ (Bo (setB L)) σ:=by
 have e1:decide ((L.length:Int)<1)= !decide (1≤L.length):=by
  by_cases h:1≤L.length
  · rw[decide_eq_true h,decide_eq_false (by omega)];rfl
  · rw[decide_eq_false h,decide_eq_true (by omega)];rfl
 have e2:decide ((6:Int)<L.length)= !decide (L.length≤6):=by
  by_cases h:L.length≤6
  · rw[decide_eq_true h,decide_eq_false (by omega)];rfl
  · rw[decide_eq_false h,decide_eq_true (by omega)];rfl
 refine Ans.of_run t130 ?_
 unfold setB
 cases h1:decide (1≤L.length) with
 |false =>
  simp -implicitDefEqProofs only[c130,r130,go_sem,z0x,e1,h1]
  exact Fini.ret rfl
 |true =>
 cases h2:decide (L.length≤6) with
 |false =>
  simp -implicitDefEqProofs only[c130,r130,go_sem,z0x,e1,e2,h1,h2]
  exact Fini.ret rfl
 |true =>
 have hl6:L.length≤6:=of_decide_eq_true h2
 simp -implicitDefEqProofs only[c130,r130,go_sem,z0x,e1,e2,h1,h2]
 refine Go.Ab.L.scan L.length (labOk L) (fun i=>mkE 52 [(0,.sl 2 (lvs L)),(3,I i)]) (fun _=>σ) ?_ ?_ rfl rfl
 · intro i hi hp J hJ
   have hx:=lvs_D L i hi
   have hF:labOk L i=false→(List.range L.length).all (labOk L)=false:=fun h=>List.all_eq_false.2 ⟨i,List.mem_range.2 hi,by rw[h];decide⟩
   have hin:=wrap_succ (i:=i) (by omega)
   have d0:decide ((0:Int)<i)=decide (0<i):=by rw[Bool.eq_iff_iff];simp
   have hO:labOk L i=(nameB (L.getD i noLb).1&&(valB (L.getD i noLb).2&& !(decide (0<i)&&leS (L.getD i noLb).1 (L.getD (i-1) noLb).1))):=rfl
   have hsz:(L.getD i noLb).1.size≤100000:=by
    rw[List.getD_eq_getElem?_getD,List.getElem?_eq_getElem hi];exact hs _ (List.getElem_mem hi)
   rw[hO]at hJ hF
   generalize L.getD i noLb=x at hJ hF hx hsz
   obtain⟨nm,v⟩:=x
   simp only at hJ hF hx hsz
   have n1:=fun s=>z4f s nm hsz
   have n2:=fun s=>zaU s v
   simp -implicitDefEqProofs only[mkE,go_sem,z0p,z0x,z0r hi,dec_lt hi,hx]
   first|refine CD.intro (n1 _) ?_|refine CS.intro n1 ?_
   cases hb1:nameB nm with
   |false =>
    rw[hb1]at hF
    rw[hF rfl]
    simp -implicitDefEqProofs only[go_sem,z0p]
    exact Fini.ret rfl
   |true =>
    rw[hb1]at hF hJ
    simp -implicitDefEqProofs only[go_sem,z0p,z0x,z0r hi,hx]
    first|refine CD.intro (n2 _) ?_|refine CS.intro n2 ?_
    cases hb2:valB v with
    |false =>
     rw[hb2]at hF
     rw[hF rfl]
     simp -implicitDefEqProofs only[go_sem,z0p]
     exact Fini.ret rfl
    |true =>
     rw[hb2]at hF hJ
     by_cases hz:i=0
     · subst hz
       have hgo:=hJ rfl
       simp -implicitDefEqProofs only[go_sem,z0p,d0,hin]
       exact hgo
     · have hpos:decide (0<i)=true:=decide_eq_true (by omega)
       have hx1:=lvs_D L (i-1) (by omega)
       have w1:IntKind.i64.wrap ((i:Int)-1)=((i-1:Nat):Int):=by rw[wrapN (by omega) (by omega)];omega
       have hlt1:(((i-1:Nat):Int)<L.length)=True:=by simp;omega
       rw[hpos]at hJ hF
       generalize L.getD (i-1) noLb=x1 at hJ hF hx1
       obtain⟨nm1,v1⟩:=x1
       simp only at hJ hF hx1
       have hle:(Op.bytesLess nm.toList nm1.toList||nm.toList==nm1.toList)=leS nm nm1:=rfl
       simp -implicitDefEqProofs only[go_sem,z0p,d0,hpos,w1,z0x,z0r hi,hx,hlt1,hx1,hle]
       cases h7:leS nm nm1 with
       |true =>
        rw[h7]at hF
        rw[hF rfl]
        simp -implicitDefEqProofs only[go_sem]
        exact Fini.ret rfl
       |false =>
        rw[h7]at hJ
        have hgo:=hJ rfl
        simp -implicitDefEqProofs only[go_sem,hin]
        exact hgo
 · intro hp J
   have hd:decide ((L.length:Int)<L.length)=false:=by simp
   simp -implicitDefEqProofs only[mkE,go_sem,z0x,hd]
   refine Fini.ret' rfl (z0G ?_)
   exact(List.all_eq_true.2 fun i hi=>hp i (List.mem_range.1 hi)).symm
end
def preS (L:List Lab) (i:Nat):Byt:=putN L.length++z17 putLb (L.take i)
theorem z4o (L:List Lab) (i:Nat) (h:i<L.length):preS L (i+1)=preS L i++(txtB L[i].1++txtB L[i].2):=by
 unfold preS z17
 rw[List.take_succ_eq_append_getElem h,List.flatMap_append,List.append_assoc]
 simp[putLb]
theorem z5v (L:List Lab):preS L L.length=z51 L:=by unfold preS z51 z2e;rw[List.take_length]
theorem z4p (L:List Lab):preS L 0=putN L.length:=by unfold preS z17;simp
theorem z3E {L:List Lab} (h:setB L=true):∀i,i≤L.length→(preS L i).length≤10+60*i
 |0,_=>by rw[z4p];have:=z0m (n:=L.length) (by have:=(z4n h).1;omega);omega
 |i+1,hi=>by
  have ih:=z3E h i (by omega)
  have hx:=(z4n h).2 L[i] (List.getElem_mem (by omega))
  have h1:=z0R L[i].1 (by omega)
  have h2:=z0R L[i].2 (by omega)
  rw[z4o L i (by omega),List.length_append,List.length_append]
  omega
def z1s (L:List Lab):Byt:=if setB L then z51 L else[]
section
variable (σ:St)
theorem z89 (L:List Lab):Ans Tryz.prog 92 [.sl 2 (lvs L)] σ (.sl 1 (byv (z1s L))) σ:=by
 have hi:=fun s=>z1j s L
 unfold z1s
 cases hR:setB L with
 |false =>
  have:Ans Tryz.prog 92 [.sl 2 (lvs L)] σ .nils σ:=by
   refine Ans.of_run t92 ?_
   simp -implicitDefEqProofs only[c92,r92,go_sem]
   refine CO.intro (hi _) ?_
   rw[hR]
   simp -implicitDefEqProofs only[go_sem]
   exact Fini.ret rfl
  exact this.subR (.nils 1)
 |true =>
  obtain⟨h1,h2⟩:=z4n hR
  have hpl:=z3E hR
  have n1:=fun s=>z5g s L.length (by omega)
  rw[←z4p]at n1
  have hw:=z1x (n:=L.length) (by omega)
  refine Ans.of_run' t92 (fun hbel _=>?_)
  simp -implicitDefEqProofs only[c92,r92,go_sem]
  refine CO.intro (hi _) ?_
  rw[hR]
  simp -implicitDefEqProofs only[go_sem,z0x,hw]
  refine CO.intro (n1 _) ?_
  simp -implicitDefEqProofs only[go_sem,z0x]
  refine Go.Ab.L.count L.length (fun i=>mkE 31 [(3,.osl σ.length (preS L i).length),(13,.sl 2 (lvs L)),(14,I L.length),(15,I i)]) (fun i=>σ++[.row 1 (byv (preS L i))]) ?_ ?_ rfl rfl
  · intro i hi J hJ
    have hx:=lvs_D L i hi
    rw[List.getD_eq_getElem?_getD,List.getElem?_eq_getElem hi,Option.getD_some]at hx
    have hs:=h2 L[i] (List.getElem_mem hi)
    have hp:=hpl (i+1) (by omega)
    rw[z4o L i hi]at hJ hp
    generalize L[i]=s at hx hs hJ hp
    generalize preS L i=pre at hJ hp⊢
    have hin:=wrap_succ (i:=i) (by omega)
    rw[List.length_append,List.length_append]at hp hJ
    have l1:pre.length+(txtB s.1).length≤4294967296:=by omega
    have l2:pre.length+(txtB s.1).length+(txtB s.2).length≤4294967296:=by omega
    simp -implicitDefEqProofs only[mkE,go_sem,z0x,z0r hi,dec_lt hi,hx]
    refine CO.intro (z1d _ s.1 (by omega)) ?_
    simp -implicitDefEqProofs only[go_sem,g0,s0,z06,z0b,bc,l1]
    refine CO.intro (z1d _ s.2 (by omega)) ?_
    simp -implicitDefEqProofs only[go_sem,g0,s0,z06,z0b,bc,l1,l2,hin,List.length_append]
    simp only[z08,List.append_assoc,Nat.add_assoc]at hJ⊢
    exact hJ
  · intro J
    have d0:decide ((L.length:Int)<L.length)=false:=by simp
    simp -implicitDefEqProofs only[mkE,go_sem,z0x,d0,g0,s0,z06,z5v]
    exact Fini.trim2 (σ':=σ) (ex:=[_]) rfl rfl (Nat.le_refl _) (z0M _ _) hbel
theorem z6N (L:List Lab) (hL:∀x∈L,x.1.size≤100000):Ans Tryz.prog 96 [.sl 2 (lvs L)] σ (.sl 1 (byv (z1s L))) σ:=by
 have hi:=fun s=>z1l s L hL
 unfold z1s
 cases hR:setB L with
 |false =>
  have:Ans Tryz.prog 96 [.sl 2 (lvs L)] σ .nils σ:=by
   refine Ans.of_run t96 ?_
   simp -implicitDefEqProofs only[c96,r96,go_sem]
   refine CO.intro (hi _) ?_
   rw[hR]
   simp -implicitDefEqProofs only[go_sem]
   exact Fini.ret rfl
  exact this.subR (.nils 1)
 |true =>
  obtain⟨h1,h2⟩:=z4n hR
  have hpl:=z3E hR
  have n1:=fun s=>z3B s L.length (by omega)
  rw[←z4p]at n1
  have hw:=z1x (n:=L.length) (by omega)
  refine Ans.of_run' t96 (fun hbel _=>?_)
  simp -implicitDefEqProofs only[c96,r96,go_sem]
  refine CO.intro (hi _) ?_
  rw[hR]
  simp -implicitDefEqProofs only[go_sem,z0x,hw]
  refine CO.intro (n1 _) ?_
  simp -implicitDefEqProofs only[go_sem,z0x]
  refine Go.Ab.L.count L.length (fun i=>mkE 34 [(0,.sl 2 (lvs L)),(3,.osl σ.length (preS L i).length),(4,I i)]) (fun i=>σ++[.row 1 (byv (preS L i))]) ?_ ?_ rfl rfl
  · intro i hi J hJ
    have hx:=lvs_D L i hi
    rw[List.getD_eq_getElem?_getD,List.getElem?_eq_getElem hi,Option.getD_some]at hx
    have hs:=h2 L[i] (List.getElem_mem hi)
    have hp:=hpl (i+1) (by omega)
    rw[z4o L i hi]at hJ hp
    generalize L[i]=s at hx hs hJ hp
    generalize preS L i=pre at hJ hp⊢
    have hin:=wrap_succ (i:=i) (by omega)
    rw[List.length_append,List.length_append]at hp hJ
    have l1:pre.length+(txtB s.1).length≤4294967296:=by omega
    have l2:pre.length+(txtB s.1).length+(txtB s.2).length≤4294967296:=by omega
    simp -implicitDefEqProofs only[mkE,go_sem,z0x,z0r hi,dec_lt hi,hx]
    refine CD.intro (z19 _ s.1 (by omega)) ?_
    simp -implicitDefEqProofs only[go_sem,g0,s0,z06,z0b,bc,l1,z0x,z0r hi,hx]
    refine CD.intro (z19 _ s.2 (by omega)) ?_
    simp -implicitDefEqProofs only[go_sem,g0,s0,z06,z0b,bc,l1,l2,hin,List.length_append]
    simp only[z08,List.append_assoc,Nat.add_assoc]at hJ⊢
    exact hJ
  · intro J
    have d0:decide ((L.length:Int)<L.length)=false:=by simp
    simp -implicitDefEqProofs only[mkE,go_sem,z0x,d0,g0,s0,z06,z5v]
    exact Fini.trim2 (σ':=σ) (ex:=[_]) rfl rfl (Nat.le_refl _) (z0M _ _) hbel
end
def andI (a b:Int):Int:=IntKind.i64.wrap ((BitVec.ofInt 64 a &&& BitVec.ofInt 64 b).toNat:Int)
def hasF (f k:Int):Bool:=decide (0<andI f k)
def emS (s:ByteArray):Bool:=s.toList==(⟨#[]⟩:ByteArray).toList
def emU (n:Nat):Bool:=(n:Int)==0
def idR (n:Int):Bool:=decide (0≤n)&&decide (n≤2147483647)
def clkB (n:Nat):Bool:=decide ((n:Int)≤1099511627776)
def staR (n:Int):Bool:=decide (0≤n)&&decide (n≤3)
def zeroB (r:ReM) (f:Int):Bool :=
 (hasF f 1||r.id==0)&&((hasF f 2||emS r.txt)&&((hasF f 4||(emU r.st&&emU r.en))&&((hasF f 8||r.sta==0)&&((hasF f 16||emI r.mt.length)&&((hasF f 64||noBd (r.any,r.lo,r.hi))&&((hasF f 128||noRl r.ru)&&((hasF f 256||emI r.ls.length)&&(hasF f 512||zF r.val))))))))
def z0q (r:ReM) (f:Int):Bool :=
 idR r.id&&((!hasF f 2||tokB r.txt)&&(clkB r.st&&(clkB r.en&&(staR r.sta&&(listB r.mt&&((!hasF f 32|| !emI r.mt.length)&&((!hasF f 64||mayB r.any r.lo r.hi)&&((!hasF f 128||ruIs r.ru)&&(!hasF f 256||setB r.ls)))))))))
def mayR (r:ReM):Bool:=(fOf r.op).2&&(zeroB r (fOf r.op).1&&z0q r (fOf r.op).1)
def reIs (r:ReM):Bool:=tokB r.tok&&mayR r
theorem z3u (n:Nat):decide ((0:Int)<n)= !emI n:=by
 unfold emI
 rw[Bool.eq_iff_iff]
 simp only[decide_eq_true_eq,Bool.not_eq_true',beq_eq_false_iff_ne]
 omega
theorem z9B (op:Int):(fOf op).1∈[0,1,3,116,117,8,128,768,16]:=by
 rcases ops17 op with rfl|rfl|rfl|rfl|rfl|rfl|rfl|rfl|rfl|rfl|rfl|rfl|rfl|rfl|rfl|rfl|rfl|h
 all_goals first|(rw[z9A h];decide)|decide
abbrev aI (f k:Int):Int:=IntKind.i64.wrap (((@HAnd.hAnd (BitVec 64) (BitVec 64) (BitVec 64) (@instHAndOfAndOp (BitVec IntKind.i64.bits) (@BitVec.instAndOp IntKind.i64.bits)) (BitVec.ofInt 64 f) (BitVec.ofInt 64 k)).toNat:Nat):Int)
theorem an_0:aI 0 1=0∧aI 0 2=0∧aI 0 4=0∧aI 0 8=0∧aI 0 16=0∧aI 0 32=0∧aI 0 64=0∧aI 0 128=0∧aI 0 256=0∧aI 0 512=0:=by decide +kernel
theorem hs_0:hasF 0 1=false∧hasF 0 2=false∧hasF 0 4=false∧hasF 0 8=false∧hasF 0 16=false∧hasF 0 32=false∧hasF 0 64=false∧hasF 0 128=false∧hasF 0 256=false∧hasF 0 512=false:=by decide +kernel
theorem an_1:aI 1 1=1∧aI 1 2=0∧aI 1 4=0∧aI 1 8=0∧aI 1 16=0∧aI 1 32=0∧aI 1 64=0∧aI 1 128=0∧aI 1 256=0∧aI 1 512=0:=by decide +kernel
theorem hs_1:hasF 1 1=true∧hasF 1 2=false∧hasF 1 4=false∧hasF 1 8=false∧hasF 1 16=false∧hasF 1 32=false∧hasF 1 64=false∧hasF 1 128=false∧hasF 1 256=false∧hasF 1 512=false:=by decide +kernel
theorem an_3:aI 3 1=1∧aI 3 2=2∧aI 3 4=0∧aI 3 8=0∧aI 3 16=0∧aI 3 32=0∧aI 3 64=0∧aI 3 128=0∧aI 3 256=0∧aI 3 512=0:=by decide +kernel
theorem hs_3:hasF 3 1=true∧hasF 3 2=true∧hasF 3 4=false∧hasF 3 8=false∧hasF 3 16=false∧hasF 3 32=false∧hasF 3 64=false∧hasF 3 128=false∧hasF 3 256=false∧hasF 3 512=false:=by decide +kernel
theorem zcR:aI 116 1=0∧aI 116 2=0∧aI 116 4=4∧aI 116 8=0∧aI 116 16=16∧aI 116 32=32∧aI 116 64=64∧aI 116 128=0∧aI 116 256=0∧aI 116 512=0:=by decide +kernel
theorem z7u:hasF 116 1=false∧hasF 116 2=false∧hasF 116 4=true∧hasF 116 8=false∧hasF 116 16=true∧hasF 116 32=true∧hasF 116 64=true∧hasF 116 128=false∧hasF 116 256=false∧hasF 116 512=false:=by decide +kernel
theorem zcS:aI 117 1=1∧aI 117 2=0∧aI 117 4=4∧aI 117 8=0∧aI 117 16=16∧aI 117 32=32∧aI 117 64=64∧aI 117 128=0∧aI 117 256=0∧aI 117 512=0:=by decide +kernel
theorem z7v:hasF 117 1=true∧hasF 117 2=false∧hasF 117 4=true∧hasF 117 8=false∧hasF 117 16=true∧hasF 117 32=true∧hasF 117 64=true∧hasF 117 128=false∧hasF 117 256=false∧hasF 117 512=false:=by decide +kernel
theorem an_8:aI 8 1=0∧aI 8 2=0∧aI 8 4=0∧aI 8 8=8∧aI 8 16=0∧aI 8 32=0∧aI 8 64=0∧aI 8 128=0∧aI 8 256=0∧aI 8 512=0:=by decide +kernel
theorem hs_8:hasF 8 1=false∧hasF 8 2=false∧hasF 8 4=false∧hasF 8 8=true∧hasF 8 16=false∧hasF 8 32=false∧hasF 8 64=false∧hasF 8 128=false∧hasF 8 256=false∧hasF 8 512=false:=by decide +kernel
theorem zcT:aI 128 1=0∧aI 128 2=0∧aI 128 4=0∧aI 128 8=0∧aI 128 16=0∧aI 128 32=0∧aI 128 64=0∧aI 128 128=128∧aI 128 256=0∧aI 128 512=0:=by decide +kernel
theorem z7w:hasF 128 1=false∧hasF 128 2=false∧hasF 128 4=false∧hasF 128 8=false∧hasF 128 16=false∧hasF 128 32=false∧hasF 128 64=false∧hasF 128 128=true∧hasF 128 256=false∧hasF 128 512=false:=by decide +kernel
theorem zcU:aI 768 1=0∧aI 768 2=0∧aI 768 4=0∧aI 768 8=0∧aI 768 16=0∧aI 768 32=0∧aI 768 64=0∧aI 768 128=0∧aI 768 256=256∧aI 768 512=512:=by decide +kernel
theorem z7x:hasF 768 1=false∧hasF 768 2=false∧hasF 768 4=false∧hasF 768 8=false∧hasF 768 16=false∧hasF 768 32=false∧hasF 768 64=false∧hasF 768 128=false∧hasF 768 256=true∧hasF 768 512=true:=by decide +kernel
theorem an_16:aI 16 1=0∧aI 16 2=0∧aI 16 4=0∧aI 16 8=0∧aI 16 16=16∧aI 16 32=0∧aI 16 64=0∧aI 16 128=0∧aI 16 256=0∧aI 16 512=0:=by decide +kernel
theorem hs_16:hasF 16 1=false∧hasF 16 2=false∧hasF 16 4=false∧hasF 16 8=false∧hasF 16 16=true∧hasF 16 32=false∧hasF 16 64=false∧hasF 16 128=false∧hasF 16 256=false∧hasF 16 512=false:=by decide +kernel
attribute [go_sem] z0g z0x z0o an_0 an_1 an_3 zcR zcS an_8 zcT zcU an_16
end Go.Proofs.YtmkmhhjkdaklbaaGreat
