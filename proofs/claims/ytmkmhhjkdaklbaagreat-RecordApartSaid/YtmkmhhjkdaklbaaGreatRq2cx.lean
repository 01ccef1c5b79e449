/- Rules laid as bytes, by the program. No condition. -/
import Derived.Test.YtmkmhhjkdaklbaaGreatRc5x
import Derived.Test.YtmkmhhjkdaklbaaGreatProg
import Derived.Test.YtmkmhhjkdaklbaaGreatAbStepx
set_option linter.unusedSimpArgs false
set_option linter.unusedVariables false
set_option linter.unusedSectionVars false
namespace Go.Proofs.YtmkmhhjkdaklbaaGreat
open Go Go.Ab Go.Cod
set_option maxRecDepth 100000
def headR (r:RuM):Byt:=putL r.src++(putL r.tgt++(putBd (r.any,r.lo,r.hi)++putN r.eq.length))
def preR (r:RuM) (i:Nat):Byt:=headR r++z0Z txtB (r.eq.take i)
theorem z8g (r:RuM) (i:Nat) (h:i<r.eq.length):preR r (i+1)=preR r i++txtB r.eq[i]:=by
 unfold preR z0Z;rw[List.take_succ_eq_append_getElem h,List.flatMap_append,List.append_assoc];simp
theorem z7i (r:RuM):preR r r.eq.length=putR r:=by unfold preR putR headR z2p;rw[List.take_length];simp[List.append_assoc]
theorem z5O (r:RuM):preR r 0=headR r:=by unfold preR z0Z;simp
theorem z5P (x:Bnd):(putBd x).length≤17:=by
 unfold putBd;split
 · simp
 · simp[putV,z1Y]
theorem z7j {M:List Mtr} (h:listB M=true):(putL M).length≤510:=by
 have:=z79 h M.length (Nat.le_refl _);rw[z78]at this;have:=(z3c h).1;omega
theorem zae (M:List Mtr):0<(putL M).length:=by
 have:=zbU M.length;unfold putL z2p
 cases h:putN M.length with
 |nil=>exact absurd h this
 |cons a b=>simp
theorem z8h {r:RuM} (h:ruIs r=true):(headR r).length≤1050:=by
 obtain⟨h1,h2,h3,h4,h5⟩:=z1X h;have:=z7j h1;have:=z7j h2;have:=z5P (r.any,r.lo,r.hi);have:=z0w (n:=r.eq.length) (by omega)
 unfold headR;simp only[List.length_append];omega
theorem z4Y {r:RuM} (h:ruIs r=true):∀i,i≤r.eq.length→(preR r i).length≤1050+30*i
 |0,_=>by rw[z5O];have:=z8h h;omega
 |i+1,hi=>by
  have ih:=z4Y h i (by omega)
  have hx:=(z1X h).2.2.2.2 r.eq[i] (List.getElem_mem (by omega))
  have h1:=z1W r.eq[i] (by omega)
  rw[z8g r i (by omega),List.length_append]
  omega
def z1t (r:RuM):Byt:=if ruIs r then putR r else[]
section
variable (σ:St)
end
theorem g3 (σ:St) (x y z u:Ob) (ex:St):(σ++x::y::z::u::ex)[σ.length+3]?=some u:=by rw[List.getElem?_append_right (by simp)];simp
theorem s3 (σ:St) (x y z u v:Ob) (ex:St):(σ++x::y::z::u::ex).set (σ.length+3) v=σ++x::y::z::v::ex:=by rw[List.set_append_right _ _ (by simp)];simp
def txC (n:Nat) (e:List ByteArray):AV:=if e.isEmpty then .nils else .osl n e.length
def txS (e:List ByteArray):St:=if e.isEmpty then[] else[.row 1 (txs e)]
theorem zcI (n:Nat) {e:List ByteArray} (h:e.isEmpty=false):txC n e=.osl n e.length:=by unfold txC;rw[h];rfl
theorem zcJ {e:List ByteArray} (h:e.isEmpty=false):txS e=[.row 1 (txs e)]:=by unfold txS;rw[h];rfl
theorem zaf (e:List ByteArray) (s:ByteArray):(e++[s]).isEmpty=false:=by cases e<;>rfl
theorem z9d (n:Nat) (r:RuM):Bel n (ruV r):=.agg _ fun i hi=>by
 have:∀y∈([.sl 3 (mvs3 r.src),.sl 3 (mvs3 r.tgt),Bo r.any,Fl r.lo,Fl r.hi,.sl 1 (txs r.eq)]:List AV),Bel n y:=by
  intro y hy;simp only[List.mem_cons,List.not_mem_nil,or_false]at hy;rcases hy with rfl|rfl|rfl|rfl|rfl|rfl
  · exact z0q _ _
  · exact z0q _ _
  · exact .pl _
  · exact .pl _
  · exact .pl _
  · exact z0A _ _
 exact this _ (List.getElem_mem hi)
def noRu:RuM:=⟨[],[],false,0,0,[]⟩
abbrev Z6:Ob:=.box [.nils,.nils,Bo false,Fl 0,Fl 0,.nils]
def noRuV:AV:=.agg [.nils,.nils,Bo false,Fl 0,Fl 0,.nils]
theorem z7k:Sub noRuV (ruV noRu):=.agg (.cons (.nils 3) (.cons (.nils 3) (.cons (.refl _) (.cons (.refl _) (.cons (.refl _) (.cons (.nils 1) .nil))))))
theorem z4e (n:Nat):Bel n noRuV:=.agg _ fun i hi=>by
 have:∀y∈([.nils,.nils,Bo false,Fl 0,Fl 0,.nils]:List AV),Bel n y:=by
  intro y hy;simp only[List.mem_cons,List.not_mem_nil,or_false]at hy;rcases hy with rfl|rfl|rfl|rfl|rfl|rfl
  · exact .nils
  · exact .nils
  · exact .pl _
  · exact .pl _
  · exact .pl _
  · exact .nils
 exact this _ (List.getElem_mem hi)
section
variable (σ:St)
set_option maxHeartbeats 4000000 in
theorem z9e (b:Byt) (hb:b.length≤50000):Ans Tryz.prog 17 [.sl 1 (byv b)] σ (readV (ruR b) b ruV noRuV) σ:=by
 have hS:=(zea b).top;refine Ans.of_run' t17 (fun hbel _=>?_)
 simp -implicitDefEqProofs only[c17,r17,go_sem];refine CO.intro (z4t _ b) ?_
 have hs2:∀q,ruS b q=(mkRu ((runR listR [] b q).1,(runR listR [] b (runR listR [] b q).2).1,(runR bandR (false,0,0) b (runR listR [] b (runR listR [] b q).2).2).1,(rowSt 4 b (runR (textR 12) ⟨#[]⟩ b) (runR bandR (false,0,0) b (runR listR [] b (runR listR [] b q).2).2).2).1),
   took (rowSt 4 b (runR (textR 12) ⟨#[]⟩ b) (runR bandR (false,0,0) b (runR listR [] b (runR listR [] b q).2).2).2).2 0 (ruIs (mkRu ((runR listR [] b q).1,(runR listR [] b (runR listR [] b q).2).1,(runR bandR (false,0,0) b (runR listR [] b (runR listR [] b q).2).2).1,(rowSt 4 b (runR (textR 12) ⟨#[]⟩ b) (runR bandR (false,0,0) b (runR listR [] b (runR listR [] b q).2).2).2).1)))):=fun q=>rfl
 rw[hs2]at hS;have h1:=z8f (σ++[Z6,rob b (0,false)]) (σ.length+1) b (0,false) (g1 _ _ _ _) (Inb0 b) hb;rw[s1]at h1;have i1:=z0g listR [] b (0,false) (Inb0 b);generalize runR listR [] b (0,false)=w1 at h1 i1 hS;obtain⟨m1,q1⟩:=w1;simp only at h1 i1 hS;have h2:=z8f (σ++[Z6,rob b q1]) (σ.length+1) b q1 (g1 _ _ _ _) i1 hb;rw[s1]at h2;have i2:=z0g listR [] b q1 i1;generalize runR listR [] b q1=w2 at h2 i2 hS;obtain⟨m2,q2⟩:=w2;simp only at h2 i2 hS;have h3:=zcH (σ++[Z6,rob b q2]) (σ.length+1) b q2 (g1 _ _ _ _) i2 hb;rw[s1]at h3;have i3:=z0g bandR (false,0,0) b q2 i2;generalize runR bandR (false,0,0) b q2=w3 at h3 i3 hS;obtain⟨⟨any,lo,hi⟩,q3⟩:=w3;unfold bandV at h3;simp only at h3 i3 hS;simp -implicitDefEqProofs only[go_sem,List.append_assoc,List.length_append];refine CO.intro h1 ?_;simp -implicitDefEqProofs only[go_sem];refine CO.intro h2 ?_;simp -implicitDefEqProofs only[go_sem];refine CO.intro h3 ?_;unfold rowSt at hS;have h4:=z2d (σ++[Z6,rob b q3,.box [mlV m1,mlV m2,Bo any,Fl lo,Fl hi,.nils]]) (σ.length+1) b q3 4 (by decide) (g1 _ _ _ _) i3 hb
 rw[s1]at h4;have i4:=z0g (numR 4) 0 b q3 i3;have hn4:=z2v (most:=4) b q3;generalize runR (numR 4) 0 b q3=w4 at h4 i4 hS hn4;obtain⟨n,q4⟩:=w4;simp only at h4 i4 hS hn4;simp -implicitDefEqProofs only[go_sem,List.append_assoc,List.length_append,g0,g1,g2,s0,s1,s2];refine CO.intro h4 ?_;simp -implicitDefEqProofs only[go_sem]
 refine Go.Ab.L.count n (fun i=>mkE 44 [(2,.ptr σ.length 0),(5,.ptr (σ.length+1) 0),(6,.ptr (σ.length+2) 0),(19,UN n),(20,UN i)])
  (fun i=>σ++Z6::rob b (itSt (runR (textR 12) ⟨#[]⟩ b) q4 i).2::.box [mlV m1,mlV m2,Bo any,Fl lo,Fl hi,txC (σ.length+3) (itSt (runR (textR 12) ⟨#[]⟩ b) q4 i).1]::txS (itSt (runR (textR 12) ⟨#[]⟩ b) q4 i).1) ?_ ?_ rfl rfl
 · intro i hin J hJ;have hit:=z2f (z0g (textR 12) ⟨#[]⟩ b) q4 i4 i;have hlen:=z32 (runR (textR 12) ⟨#[]⟩ b) q4 i;simp only[itSt]at hJ;generalize itSt (runR (textR 12) ⟨#[]⟩ b) q4 i=c at hJ hit hlen⊢;obtain⟨l,q⟩:=c;simp only at hJ hit hlen⊢;have d0:decide ((i:Int)<n)=true:=dec_lt hin;have w0:=z1y (n:=i+1) (by omega)
   have e0:((i:Int)+1)=((i+1:Nat):Int):=rfl;have h5:=z34 (σ++Z6::rob b q::.box [mlV m1,mlV m2,Bo any,Fl lo,Fl hi,txC (σ.length+3) l]::txS l) (σ.length+1) b q 12 (by decide) (g1 _ _ _ _) hit hb
   rw[s1]at h5;generalize runR (textR 12) ⟨#[]⟩ b q=w5 at h5 hJ;obtain⟨s,q5⟩:=w5;simp only at h5 hJ;rw[zcI _ (zaf l s),zcJ (zaf l s),z7h]at hJ;rw[List.length_append,List.length_singleton]at hJ
   cases hem:l.isEmpty with
   |true =>
    have hle:l=[]:=List.isEmpty_iff.1 hem;subst hle;unfold txC txS at h5⊢;simp only[List.isEmpty_nil,if_true]at h5⊢;simp -implicitDefEqProofs only[mkE,go_sem,d0,g0,g1,g2,s0,s1,s2];refine CD.intro h5 ?_;have p32:((1:Nat)≤2^32)=True:=eq_true (by decide)
    simp -implicitDefEqProofs only[go_sem,g0,g1,g2,s0,s1,s2,w0,e0,p32,List.length_append,List.append_assoc,List.length_cons,List.length_nil];exact hJ
   |false =>
    rw[zcI _ hem,zcJ hem]at h5⊢;have hll:l.length+1≤4294967296:=by omega
    simp -implicitDefEqProofs only[mkE,go_sem,d0,g0,g1,g2,s0,s1,s2];refine CD.intro h5 ?_;simp -implicitDefEqProofs only[go_sem,g0,g1,g2,g3,s0,s1,s2,s3,w0,e0,z0F,hll,List.length_singleton];exact hJ
 · intro J;have hit:=z2f (z0g (textR 12) ⟨#[]⟩ b) q4 i4 n;have hlen:=z32 (runR (textR 12) ⟨#[]⟩ b) q4 n;generalize itSt (runR (textR 12) ⟨#[]⟩ b) q4 n=c at hS hit hlen⊢;obtain⟨l,q⟩:=c;simp only at hS hit hlen⊢;have d0:decide ((n:Int)<n)=false:=by simp
   have hru:=fun s=>z1V s (mkRu (m1,m2,(any,lo,hi),l))
   generalize ruIs (mkRu (m1,m2,(any,lo,hi),l))=ok at hru hS
   cases hem:l.isEmpty with
   |true =>
    have hle:l=[]:=List.isEmpty_iff.1 hem;subst hle;unfold txC txS;simp only[List.isEmpty_nil,if_true];have h6:=z0b (σ++[Z6,rob b q,.box [mlV m1,mlV m2,Bo any,Fl lo,Fl hi,.sl 1 (txs [])]]) (σ.length+1) b q ok (g1 _ _ _ _) hit hb;rw[s1]at h6;generalize took q 0 ok=qe at h6 hS;have h7:=z35 (σ++[Z6,rob b qe,.box [mlV m1,mlV m2,Bo any,Fl lo,Fl hi,.sl 1 (txs [])]]) (σ.length+1) b qe (g1 _ _ _ _);simp -implicitDefEqProofs only[mkE,go_sem,d0,z3d,g0,g1,g2,g3,s0,s1,s2,s3];refine CO.intro (hru _) ?_;simp -implicitDefEqProofs only[go_sem];refine CO.intro h6 ?_;simp -implicitDefEqProofs only[go_sem];refine CO.intro h7 ?_
    cases hr:ruR b with
    |none =>
     have hb2:=hS.2 hr;obtain⟨qa,qb⟩:=qe;simp only at hb2;subst hb2;simp -implicitDefEqProofs only[go_sem,g0,g1,g2,g3,s0,s1,s2,s3];exact tr_ (σ':=σ) (ex:=[_,_,_]) rfl (by unfold readV;exact z1k (z4e _)) hbel
    |some p =>
     obtain⟨M,t⟩:=p;have hb2:=hS.1 M t hr;simp only[Prod.mk.injEq]at hb2;obtain⟨rfl,rfl⟩:=hb2;simp -implicitDefEqProofs only[go_sem,g0,g1,g2,g3,s0,s1,s2,s3];exact tr_ (σ':=σ) (ex:=[_,_,_]) rfl (by unfold readV;exact z1k (z9d _ _)) hbel
   |false =>
    rw[zcI _ hem,zcJ hem];have ne32:(σ.length+3≠σ.length+2)=True:=eq_true (by omega)
    have h6:=z0b (σ++[Z6,rob b q,.box [mlV m1,mlV m2,Bo any,Fl lo,Fl hi,.sl 1 (txs l)],.dead]) (σ.length+1) b q ok (g1 _ _ _ _) hit hb;rw[s1]at h6;generalize took q 0 ok=qe at h6 hS;have h7:=z35 (σ++[Z6,rob b qe,.box [mlV m1,mlV m2,Bo any,Fl lo,Fl hi,.sl 1 (txs l)],.dead]) (σ.length+1) b qe (g1 _ _ _ _);simp -implicitDefEqProofs only[mkE,go_sem,d0,z0F,ne32,g0,g1,g2,g3,s0,s1,s2,s3];refine CO.intro (hru _) ?_;simp -implicitDefEqProofs only[go_sem];refine CO.intro h6 ?_;simp -implicitDefEqProofs only[go_sem];refine CO.intro h7 ?_
    cases hr:ruR b with
    |none =>
     have hb2:=hS.2 hr;obtain⟨qa,qb⟩:=qe;simp only at hb2;subst hb2;simp -implicitDefEqProofs only[go_sem,g0,g1,g2,g3,s0,s1,s2,s3];exact tr_ (σ':=σ) (ex:=[_,_,_,_]) rfl (by unfold readV;exact z1k (z4e _)) hbel
    |some p =>
     obtain⟨M,t⟩:=p;have hb2:=hS.1 M t hr;simp only[Prod.mk.injEq]at hb2;obtain⟨rfl,rfl⟩:=hb2;simp -implicitDefEqProofs only[go_sem,g0,g1,g2,g3,s0,s1,s2,s3];exact tr_ (σ':=σ) (ex:=[_,_,_,_]) rfl (by unfold readV;exact z1k (z9d _ _)) hbel
theorem z6G (b:Byt) (hb:b.length≤50000):Ans Tryz.prog 17 [.sl 1 (byv b)] σ (readV (ruR b) b ruV (ruV noRu)) σ:=by
 refine(z9e σ b hb).subR ?_;unfold readV
 cases ruR b with
 |none=>exact .tup (.cons z7k (.refl _))
 |some p=>exact .refl _
end
end Go.Proofs.YtmkmhhjkdaklbaaGreat
namespace Go.Proofs.YtmkmhhjkdaklbaaGreat
open Go Go.Ab
set_option maxRecDepth 100000
def c45:ACode :=
 (sq_ [pr_ 2 (.allocm z19_),
 pr_ 3 mf_]
 (sq_ [mv_ 5 0,
 c1_ 6 54 5,
 mv_ 4 6]
 (sq_ [mv_ 7 4,
 c1_ 8 103 7,
 mv_ 9 4,
 mv_ 10 0,
 cl_ 11 104 [(.tmp 8),(.tmp 9),(.tmp 10)],
 pr_ 12 (ex_ 0 11),
 pr_ 13 (ex_ 1 11),
 st_ (so_ 19 2 12),
 mv_ 3 13]
 .ret)))
def o45:List Tmp:=[2]
def r45:List RV:=[.cell 2 19 true,.tmp 3]
theorem t45:Text Tryz.prog 45 o45 c45 r45 14:=.mk_ Tryz.f45 rfl
def c86:ACode :=
 (sq_ [pr_ 2 mf_]
 (sq_ [mv_ 3 0,
 pr_ 4 (.lens (.tmp 3)),
 pr_ 5 (bk_ .geq 4 .i64 4),
 mv_ 6 5,
 gp_ 7 6 true (mo_ 0),
 gp_ 8 6 true (.lens (.tmp 7)),
 gp_ 9 6 true (bk_ .leq 8 .i64 16),
 pr_ 10 (pa_ 6 9),
 mv_ 2 10]
 .ret))
def o86:List Tmp:=[]
def r86:List RV:=[.tmp 2]
theorem t86:Text Tryz.prog 86 o86 c86 r86 11:=.mk_ Tryz.f86 rfl
def c87:ACode :=
 (sq_ [pr_ 1 (.boxr (.tmp 0)),
 pr_ 2 mf_]
 (sq_ [pr_ 6 (fa_ 1 1),
 pr_ 7 (lf_ 1 6),
 c1_ 8 90 7,
 mv_ 5 8,
 pr_ 9 (ex_ 0 5),
 pr_ 10 (ex_ 1 5),
 mv_ 3 9,
 mv_ 4 10]
 (sq_ [mv_ 11 4,
 mv_ 12 11,
 gp_ 13 12 true (lt_ 19 1),
 gp_ 14 12 true (mo_ 3),
 gc_ 15 12 true 125 [(.tmp 13),(.tmp 14)],
 pr_ 16 (pa_ 12 15),
 mv_ 17 16,
 gp_ 18 17 true (lt_ 19 1),
 gp_ 19 17 true (mo_ 3),
 gc_ 20 17 true 126 [(.tmp 18),(.tmp 19)],
 pr_ 21 (pa_ 17 20),
 mv_ 2 21]
 .ret)))
def o87:List Tmp:=[]
def r87:List RV:=[.tmp 2]
theorem t87:Text Tryz.prog 87 o87 c87 r87 22:=.mk_ Tryz.f87 rfl
def c90:ACode :=
 (sq_ [pr_ 2 (mi_ .i64 0),
 pr_ 3 mf_]
 (.seq (sq_ [mv_ 4 0]
 (.block 0 (.seq (sq_ [pr_ 6 (bk_ .eql 4 .i64 1),
 mv_ 5 6]
 (.cond (.tmp 5)
 .skip
 (sq_ [pr_ 7 (bk_ .eql 4 .i64 14),
 mv_ 5 7]
 (.cond (.tmp 5)
 .skip
 (sq_ [pr_ 8 (bk_ .eql 4 .i64 16),
 mv_ 5 8]
 (.cond (.tmp 5)
 .skip
 (.ops [pr_ 9 (bk_ .eql 4 .i64 17),
 mv_ 5 9])))))))
 (.cond (.tmp 5)
 (sq_ [pr_ 2 (mi_ .i64 0),
 pr_ 3 mt_]
 .ret)
 (.seq (sq_ [pr_ 11 (bk_ .eql 4 .i64 2),
 mv_ 10 11]
 (.cond (.tmp 10)
 .skip
 (sq_ [pr_ 12 (bk_ .eql 4 .i64 7),
 mv_ 10 12]
 (.cond (.tmp 10)
 .skip
 (sq_ [pr_ 13 (bk_ .eql 4 .i64 10),
 mv_ 10 13]
 (.cond (.tmp 10)
 .skip
 (sq_ [pr_ 14 (bk_ .eql 4 .i64 12),
 mv_ 10 14]
 (.cond (.tmp 10)
 .skip
 (.ops [pr_ 15 (bk_ .eql 4 .i64 15),
 mv_ 10 15])))))))))
 (.cond (.tmp 10)
 (sq_ [pr_ 2 (mi_ .i64 1),
 pr_ 3 mt_]
 .ret)
 (.seq (sq_ [pr_ 17 (bk_ .eql 4 .i64 3),
 mv_ 16 17]
 (.cond (.tmp 16)
 .skip
 (.ops [pr_ 18 (bk_ .eql 4 .i64 4),
 mv_ 16 18])))
 (.cond (.tmp 16)
 (sq_ [pr_ 2 (mi_ .i64 3),
 pr_ 3 mt_]
 .ret)
 (sq_ [pr_ 20 (bk_ .eql 4 .i64 5),
 mv_ 19 20]
 (.cond (.tmp 19)
 (sq_ [pr_ 2 (mi_ .i64 116),
 pr_ 3 mt_]
 .ret)
 (sq_ [pr_ 22 (bk_ .eql 4 .i64 6),
 mv_ 21 22]
 (.cond (.tmp 21)
 (sq_ [pr_ 2 (mi_ .i64 117),
 pr_ 3 mt_]
 .ret)
 (sq_ [pr_ 24 (bk_ .eql 4 .i64 8),
 mv_ 23 24]
 (.cond (.tmp 23)
 (sq_ [pr_ 2 (mi_ .i64 8),
 pr_ 3 mt_]
 .ret)
 (sq_ [pr_ 26 (bk_ .eql 4 .i64 9),
 mv_ 25 26]
 (.cond (.tmp 25)
 (sq_ [pr_ 2 (mi_ .i64 128),
 pr_ 3 mt_]
 .ret)
 (sq_ [pr_ 28 (bk_ .eql 4 .i64 11),
 mv_ 27 28]
 (.cond (.tmp 27)
 (sq_ [pr_ 2 (mi_ .i64 768),
 pr_ 3 mt_]
 .ret)
 (sq_ [pr_ 30 (bk_ .eql 4 .i64 13),
 mv_ 29 30]
 (.cond (.tmp 29)
 (sq_ [pr_ 2 (mi_ .i64 16),
 pr_ 3 mt_]
 .ret)
 .skip))))))))))))))))))))
 (sq_ [pr_ 2 (mi_ .i64 0),
 pr_ 3 mf_]
 .ret)))
def o90:List Tmp:=[]
def r90:List RV:=[.tmp 2,.tmp 3]
theorem t90:Text Tryz.prog 90 o90 c90 r90 31:=.mk_ Tryz.f90 rfl
def c103:ACode :=
 (sq_ [pr_ 2 (.allocm z19_)]
 (sq_ [mv_ 8 0,
 c1_ 9 83 8,
 pr_ 10 (.convi .i64 (.tmp 9)),
 pr_ 11 (.build z19_ [(1,1,(.tmp 10))]),
 pr_ 3 (.allocm z19_),
 st_ (so_ 19 3 11)]
 (sq_ [pr_ 13 (fa_ 1 3),
 pr_ 14 (lf_ 1 13),
 c1_ 15 90 14,
 mv_ 12 15,
 pr_ 16 (ex_ 0 12),
 pr_ 17 (ex_ 1 12),
 mv_ 4 16,
 mv_ 5 17]
 (sq_ [mv_ 18 0,
 mv_ 19 5,
 cl_ 20 61 [(.tmp 18),(.tmp 19)]]
 (.seq (sq_ [mv_ 21 4,
 pr_ 22 (bk_ .and 21 .i64 1),
 pr_ 23 (bk_ .gtr 22 .i64 0)]
 (.cond (.tmp 23)
 (.ops [mv_ 24 0,
 cl_ 25 59 [(.tmp 24),(.const (.int .u64 2147483647))],
 pr_ 26 (.convi .i64 (.tmp 25)),
 pr_ 27 (fa_ 2 3),
 st_ (so_ 1 27 26)])
 .skip))
 (.seq (sq_ [mv_ 28 4,
 pr_ 29 (bk_ .and 28 .i64 2),
 pr_ 30 (bk_ .gtr 29 .i64 0)]
 (.cond (.tmp 30)
 (.ops [mv_ 31 0,
 cl_ 32 60 [(.tmp 31),(.const (.int .i64 16))],
 pr_ 33 (fa_ 3 3),
 st_ (so_ 1 33 32)])
 .skip))
 (.seq (sq_ [mv_ 34 4,
 pr_ 35 (bk_ .and 34 .i64 4),
 pr_ 36 (bk_ .gtr 35 .i64 0)]
 (.cond (.tmp 36)
 (.ops [mv_ 37 0,
 cl_ 38 59 [(.tmp 37),(.const (.int .u64 1099511627776))],
 mv_ 39 0,
 cl_ 40 59 [(.tmp 39),(.const (.int .u64 1099511627776))],
 pr_ 41 (fa_ 4 3),
 st_ (so_ 1 41 38),
 pr_ 42 (fa_ 5 3),
 st_ (so_ 1 42 40)])
 .skip))
 (.seq (sq_ [mv_ 43 4,
 pr_ 44 (bk_ .and 43 .i64 8),
 pr_ 45 (bk_ .gtr 44 .i64 0)]
 (.cond (.tmp 45)
 (.ops [mv_ 46 0,
 c1_ 47 83 46,
 pr_ 48 (.convi .i64 (.tmp 47)),
 pr_ 49 (fa_ 6 3),
 st_ (so_ 1 49 48)])
 .skip))
 (.seq (sq_ [mv_ 50 4,
 pr_ 51 (bk_ .and 50 .i64 16),
 pr_ 52 (bk_ .gtr 51 .i64 0)]
 (.cond (.tmp 52)
 (.ops [mv_ 53 0,
 cl_ 54 55 [(.tmp 53),(.func 56)],
 pr_ 55 (fa_ 7 3),
 st_ (so_ 1 55 54)])
 .skip))
 (.seq (sq_ [mv_ 56 4,
 pr_ 57 (bk_ .and 56 .i64 64),
 pr_ 58 (bk_ .gtr 57 .i64 0)]
 (.cond (.tmp 58)
 (.ops [mv_ 59 0,
 cl_ 60 57 [(.tmp 59),(.func 58)],
 pr_ 61 (fa_ 8 3),
 st_ (so_ 3 61 60)])
 .skip))
 (.seq (sq_ [mv_ 62 4,
 pr_ 63 (bk_ .and 62 .i64 128),
 pr_ 64 (bk_ .gtr 63 .i64 0)]
 (.cond (.tmp 64)
 (.ops [mv_ 65 0,
 cl_ 66 136 [(.tmp 65),(.func 17)],
 pr_ 67 (fa_ 11 3),
 st_ (so_ 6 67 66)])
 .skip))
 (.seq (sq_ [mv_ 68 4,
 pr_ 69 (bk_ .and 68 .i64 256),
 pr_ 70 (bk_ .gtr 69 .i64 0)]
 (.cond (.tmp 70)
 (.ops [mv_ 71 0,
 cl_ 72 137 [(.tmp 71),(.func 138)],
 pr_ 73 (fa_ 17 3),
 st_ (so_ 1 73 72)])
 .skip))
 (.seq (sq_ [mv_ 74 4,
 pr_ 75 (bk_ .and 74 .i64 512),
 pr_ 76 (bk_ .gtr 75 .i64 0)]
 (.cond (.tmp 76)
 (sq_ [mv_ 78 0,
 c1_ 79 140 78,
 c1_ 80 139 79,
 mv_ 77 80,
 pr_ 81 (ex_ 0 77),
 pr_ 82 (ex_ 1 77),
 mv_ 6 81,
 mv_ 7 82]
 (sq_ [mv_ 83 0,
 mv_ 84 7,
 cl_ 85 61 [(.tmp 83),(.tmp 84)]]
 (.ops [mv_ 86 6,
 pr_ 87 (fa_ 18 3),
 st_ (so_ 1 87 86)])))
 .skip))
 (sq_ [mv_ 88 0,
 pr_ 89 (lt_ 19 3),
 c1_ 90 87 89,
 cl_ 91 61 [(.tmp 88),(.tmp 90)]]
 (sq_ [pr_ 92 (lt_ 19 3),
 st_ (so_ 19 2 92)]
 .ret)))))))))))))))
def o103:List Tmp:=[2,3]
def r103:List RV:=[.cell 2 19 true]
theorem t103:Text Tryz.prog 103 o103 c103 r103 93:=.mk_ Tryz.f103 rfl
def c104:ACode :=
 (sq_ [pr_ 3 (.boxr (.tmp 0)),
 pr_ 6 (.allocm z19_),
 pr_ 7 mf_]
 (.seq (sq_ [mv_ 11 1,
 c1_ 12 62 11,
 mv_ 10 12,
 pr_ 13 (ex_ 0 10),
 pr_ 14 (ex_ 1 10),
 mv_ 8 13,
 mv_ 9 14]
 (sq_ [mv_ 15 9,
 pr_ 16 (no_ 15),
 mv_ 17 16,
 gp_ 18 17 false (mo_ 8),
 gp_ 19 17 false (mo_ 2),
 gp_ 20 17 false (.lenv (.tmp 19)),
 gp_ 21 17 false (bt_ .neq 18 20),
 pr_ 22 (po_ 17 21)]
 (.cond (.tmp 22)
 (sq_ [pr_ 23 (.build z19_ []),
 st_ (so_ 19 6 23),
 pr_ 7 mf_]
 .ret)
 .skip)))
 (sq_ [pr_ 24 (lt_ 19 3),
 st_ (so_ 19 6 24),
 pr_ 7 mt_]
 .ret)))
def o104:List Tmp:=[6]
def r104:List RV:=[.cell 6 19 true,.tmp 7]
theorem t104:Text Tryz.prog 104 o104 c104 r104 25:=.mk_ Tryz.f104 rfl
def c125:ACode :=
 (sq_ [pr_ 2 (.boxr (.tmp 0)),
 pr_ 4 mf_]
 (sq_ [mv_ 5 1,
 pr_ 6 (bk_ .and 5 .i64 1),
 pr_ 7 (bk_ .gtr 6 .i64 0),
 mv_ 8 7,
 gp_ 9 8 false (fa_ 2 2),
 gp_ 10 8 false (lf_ 1 9),
 gp_ 11 8 false (bk_ .eql 10 .i64 0),
 pr_ 12 (po_ 8 11),
 mv_ 13 12,
 gp_ 14 13 true (mo_ 1),
 gp_ 15 13 true (bk_ .and 14 .i64 2),
 gp_ 16 13 true (bk_ .gtr 15 .i64 0),
 gp_ 17 13 true (mo_ 16),
 gp_ 18 17 false (fa_ 3 2),
 gp_ 19 17 false (lf_ 1 18),
 gp_ 20 17 false (.bin false .eql (.tmp 19) (.const (.string (ByteArray.mk #[])))),
 gp_ 21 13 true (po_ 17 20),
 pr_ 22 (pa_ 13 21),
 mv_ 23 22,
 gp_ 24 23 true (mo_ 1),
 gp_ 25 23 true (bk_ .and 24 .i64 4),
 gp_ 26 23 true (bk_ .gtr 25 .i64 0),
 gp_ 27 23 true (mo_ 26),
 gp_ 28 27 false (fa_ 4 2),
 gp_ 29 27 false (lf_ 1 28),
 gp_ 30 27 false (bk_ .eql 29 .u64 0),
 gp_ 31 27 false (mo_ 30),
 gp_ 32 31 true (fa_ 5 2),
 gp_ 33 31 true (lf_ 1 32),
 gp_ 34 31 true (bk_ .eql 33 .u64 0),
 gp_ 35 27 false (pa_ 31 34),
 gp_ 36 23 true (po_ 27 35),
 pr_ 37 (pa_ 23 36),
 mv_ 38 37,
 gp_ 39 38 true (mo_ 1),
 gp_ 40 38 true (bk_ .and 39 .i64 8),
 gp_ 41 38 true (bk_ .gtr 40 .i64 0),
 gp_ 42 38 true (mo_ 41),
 gp_ 43 42 false (fa_ 6 2),
 gp_ 44 42 false (lf_ 1 43),
 gp_ 45 42 false (bk_ .eql 44 .i64 0),
 gp_ 46 38 true (po_ 42 45),
 pr_ 47 (pa_ 38 46),
 mv_ 48 47,
 gp_ 49 48 true (mo_ 1),
 gp_ 50 48 true (bk_ .and 49 .i64 16),
 gp_ 51 48 true (bk_ .gtr 50 .i64 0),
 gp_ 52 48 true (mo_ 51),
 gp_ 53 52 false (fa_ 7 2),
 gp_ 54 52 false (lf_ 1 53),
 gp_ 55 52 false (.lenv (.tmp 54)),
 gp_ 56 52 false (bk_ .eql 55 .i64 0),
 gp_ 57 48 true (po_ 52 56),
 pr_ 58 (pa_ 48 57),
 mv_ 59 58,
 gp_ 60 59 true (mo_ 1),
 gp_ 61 59 true (bk_ .and 60 .i64 64),
 gp_ 62 59 true (bk_ .gtr 61 .i64 0),
 gp_ 63 59 true (mo_ 62),
 gp_ 64 63 false (fa_ 8 2),
 gp_ 65 63 false (lt_ 3 64),
 gc_ 66 63 false 153 [(.tmp 65)],
 gp_ 67 59 true (po_ 63 66),
 pr_ 68 (pa_ 59 67),
 mv_ 69 68,
 gp_ 70 69 true (mo_ 1),
 gp_ 71 69 true (bk_ .and 70 .i64 128),
 gp_ 72 69 true (bk_ .gtr 71 .i64 0),
 gp_ 73 69 true (mo_ 72),
 gp_ 74 73 false (fa_ 11 2),
 gp_ 75 73 false (lt_ 6 74),
 gc_ 76 73 false 154 [(.tmp 75)],
 gp_ 77 69 true (po_ 73 76),
 pr_ 78 (pa_ 69 77),
 mv_ 79 78,
 gp_ 80 79 true (mo_ 1),
 gp_ 81 79 true (bk_ .and 80 .i64 256),
 gp_ 82 79 true (bk_ .gtr 81 .i64 0),
 gp_ 83 79 true (mo_ 82),
 gp_ 84 83 false (fa_ 17 2),
 gp_ 85 83 false (lf_ 1 84),
 gp_ 86 83 false (.lenv (.tmp 85)),
 gp_ 87 83 false (bk_ .eql 86 .i64 0),
 gp_ 88 79 true (po_ 83 87),
 pr_ 89 (pa_ 79 88),
 mv_ 90 89,
 gp_ 91 90 true (mo_ 1),
 gp_ 92 90 true (bk_ .and 91 .i64 512),
 gp_ 93 90 true (bk_ .gtr 92 .i64 0),
 gp_ 94 90 true (mo_ 93),
 gp_ 95 94 false (fa_ 18 2),
 gp_ 96 94 false (lf_ 1 95),
 gc_ 97 94 false 155 [(.tmp 96)],
 gp_ 98 90 true (po_ 94 97),
 pr_ 99 (pa_ 90 98),
 mv_ 4 99]
 .ret))
def o125:List Tmp:=[]
def r125:List RV:=[.tmp 4]
theorem t125:Text Tryz.prog 125 o125 c125 r125 100:=.mk_ Tryz.f125 rfl
def c126:ACode :=
 (sq_ [pr_ 2 (.boxr (.tmp 0)),
 pr_ 4 mf_]
 (sq_ [pr_ 5 (fa_ 2 2),
 pr_ 6 (lf_ 1 5),
 pr_ 7 (bk_ .geq 6 .i64 0),
 mv_ 8 7,
 gp_ 9 8 true (fa_ 2 2),
 gp_ 10 8 true (lf_ 1 9),
 gp_ 11 8 true (bk_ .leq 10 .i64 2147483647),
 pr_ 12 (pa_ 8 11),
 mv_ 13 12,
 gp_ 14 13 true (mo_ 1),
 gp_ 15 13 true (bk_ .and 14 .i64 2),
 gp_ 16 13 true (bk_ .eql 15 .i64 0),
 gp_ 17 13 true (mo_ 16),
 gp_ 18 17 false (fa_ 3 2),
 gp_ 19 17 false (lf_ 1 18),
 gc_ 20 17 false 86 [(.tmp 19)],
 gp_ 21 13 true (po_ 17 20),
 pr_ 22 (pa_ 13 21),
 mv_ 23 22,
 gp_ 24 23 true (fa_ 4 2),
 gp_ 25 23 true (lf_ 1 24),
 gp_ 26 23 true (bk_ .leq 25 .u64 1099511627776),
 pr_ 27 (pa_ 23 26),
 mv_ 28 27,
 gp_ 29 28 true (fa_ 5 2),
 gp_ 30 28 true (lf_ 1 29),
 gp_ 31 28 true (bk_ .leq 30 .u64 1099511627776),
 pr_ 32 (pa_ 28 31),
 mv_ 33 32,
 gp_ 34 33 true (fa_ 6 2),
 gp_ 35 33 true (lf_ 1 34),
 gp_ 36 33 true (bk_ .geq 35 .i64 0),
 pr_ 37 (pa_ 33 36),
 mv_ 38 37,
 gp_ 39 38 true (fa_ 6 2),
 gp_ 40 38 true (lf_ 1 39),
 gp_ 41 38 true (bk_ .leq 40 .i64 3),
 pr_ 42 (pa_ 38 41),
 mv_ 43 42,
 gp_ 44 43 true (fa_ 7 2),
 gp_ 45 43 true (lf_ 1 44),
 gc_ 46 43 true 106 [(.tmp 45)],
 pr_ 47 (pa_ 43 46),
 mv_ 48 47,
 gp_ 49 48 true (mo_ 1),
 gp_ 50 48 true (bk_ .and 49 .i64 32),
 gp_ 51 48 true (bk_ .eql 50 .i64 0),
 gp_ 52 48 true (mo_ 51),
 gp_ 53 52 false (fa_ 7 2),
 gp_ 54 52 false (lf_ 1 53),
 gp_ 55 52 false (.lenv (.tmp 54)),
 gp_ 56 52 false (bk_ .gtr 55 .i64 0),
 gp_ 57 48 true (po_ 52 56),
 pr_ 58 (pa_ 48 57),
 mv_ 59 58,
 gp_ 60 59 true (mo_ 1),
 gp_ 61 59 true (bk_ .and 60 .i64 64),
 gp_ 62 59 true (bk_ .eql 61 .i64 0),
 gp_ 63 59 true (mo_ 62),
 gp_ 64 63 false (fa_ 8 2),
 gp_ 65 63 false (lt_ 3 64),
 gc_ 66 63 false 107 [(.tmp 65)],
 gp_ 67 59 true (po_ 63 66),
 pr_ 68 (pa_ 59 67),
 mv_ 69 68,
 gp_ 70 69 true (mo_ 1),
 gp_ 71 69 true (bk_ .and 70 .i64 128),
 gp_ 72 69 true (bk_ .eql 71 .i64 0),
 gp_ 73 69 true (mo_ 72),
 gp_ 74 73 false (fa_ 11 2),
 gp_ 75 73 false (lt_ 6 74),
 gc_ 76 73 false 51 [(.tmp 75)],
 gp_ 77 69 true (po_ 73 76),
 pr_ 78 (pa_ 69 77),
 mv_ 79 78,
 gp_ 80 79 true (mo_ 1),
 gp_ 81 79 true (bk_ .and 80 .i64 256),
 gp_ 82 79 true (bk_ .eql 81 .i64 0),
 gp_ 83 79 true (mo_ 82),
 gp_ 84 83 false (fa_ 17 2),
 gp_ 85 83 false (lf_ 1 84),
 gc_ 86 83 false 131 [(.tmp 85)],
 gp_ 87 79 true (po_ 83 86),
 pr_ 88 (pa_ 79 87),
 mv_ 4 88]
 .ret))
def o126:List Tmp:=[]
def r126:List RV:=[.tmp 4]
theorem t126:Text Tryz.prog 126 o126 c126 r126 89:=.mk_ Tryz.f126 rfl
def c131:ACode :=
 (sq_ [pr_ 2 mf_]
 (.seq (sq_ [mv_ 5 0,
 pr_ 6 (.lenv (.tmp 5)),
 pr_ 7 (bk_ .lss 6 .i64 1),
 mv_ 8 7,
 gp_ 9 8 false (mo_ 0),
 gp_ 10 8 false (.lenv (.tmp 9)),
 gp_ 11 8 false (bk_ .gtr 10 .i64 6),
 pr_ 12 (po_ 8 11)]
 (.cond (.tmp 12)
 (sq_ [pr_ 2 mf_]
 .ret)
 .skip))
 (.seq (sq_ [mv_ 13 0,
 pr_ 14 (.lenv (.tmp 13)),
 pr_ 15 (mi_ .i64 0)]
 (.block 0 (.loop [1,2,3,4,5,6,7,8,9,10,11,12,16,17,18,19,20,21,22,23,24,25,26,27,28,29,30,31,32,33,34,35,36,37,38,39,40,41,42,43,44,45] (sq_ [pr_ 16 (bt_ .lss 15 14)]
 (.seq (.cond (.tmp 16)
 .skip
 (.exit 0))
 (.seq (.block 1 (sq_ [mv_ 17 15,
 pr_ 18 (.iadrs 2 (.tmp 13) (.tmp 15)),
 pr_ 19 (lt_ 2 18),
 pr_ 4 (.allocm [.pl (.string .empty),.pl (.string .empty)]),
 mv_ 3 17,
 st_ (so_ 2 4 19)]
 (.seq (.after (.after (.draw [⟨pr_ 20 (fa_ 0 4),[],false,0,0⟩,
 ⟨pr_ 21 (lf_ 1 20),[0],false,0,0⟩,
 ⟨c1_ 22 108 21,[0,1],true,0,0⟩,
 ⟨pr_ 23 (no_ 22),[0,1,2],false,1,1⟩,
 ⟨mv_ 24 23,[0,1,2,3],false,1,1⟩,
 ⟨gp_ 25 24 false (fa_ 1 4),[0,1,2,3,4],false,1,1⟩,
 ⟨gp_ 26 24 false (lf_ 1 25),(List.range 6),false,1,1⟩,
 ⟨gc_ 27 24 false 157 [(.tmp 26)],(List.range 7),true,0,0⟩,
 ⟨gp_ 28 24 false (no_ 27),(List.range 8),false,2,2⟩,
 ⟨pr_ 29 (po_ 24 28),(List.range 9),false,2,2⟩,
 ⟨mv_ 30 29,(List.range 10),false,2,2⟩,
 ⟨gp_ 31 30 false (mo_ 3),(List.range 11),false,2,2⟩,
 ⟨gp_ 32 30 false (bk_ .gtr 31 .i64 0),(List.range 12),false,2,2⟩,
 ⟨gp_ 33 30 false (mo_ 32),(List.range 13),false,2,2⟩,
 ⟨gp_ 34 33 true (fa_ 0 4),(List.range 14),false,2,2⟩,
 ⟨gp_ 35 33 true (lf_ 1 34),(List.range 15),false,2,2⟩,
 ⟨gp_ 36 33 true (mo_ 0),(List.range 14),false,2,2⟩,
 ⟨gp_ 37 33 true (mo_ 3),(List.range 14),false,2,2⟩,
 ⟨gp_ 38 33 true (bk_ .sub 37 .i64 1),[0,1,2,3,4,5,6,7,8,9,10,11,12,13,17],false,2,2⟩,
 ⟨gp_ 39 33 true (.iadrs 2 (.tmp 36) (.tmp 38)),[0,1,2,3,4,5,6,7,8,9,10,11,12,13,16,17,18],false,2,2⟩,
 ⟨gp_ 40 33 true (fa_ 0 39),[0,1,2,3,4,5,6,7,8,9,10,11,12,13,16,17,18,19],false,2,2⟩,
 ⟨gp_ 41 33 true (lf_ 1 40),[0,1,2,3,4,5,6,7,8,9,10,11,12,13,16,17,18,19,20],false,2,2⟩,
 ⟨gp_ 42 33 true (bt_ .leq 35 41),(List.range 22),false,2,2⟩,
 ⟨gp_ 43 30 false (pa_ 33 42),(List.range 23),false,2,2⟩,
 ⟨pr_ 44 (po_ 30 43),(List.range 24),false,2,2⟩]) (.clear [4,20,25,34])) (.keep 0))
 (.cond (.tmp 44)
 (sq_ [pr_ 2 mf_]
 .ret)
 .skip))))
 (.ops [pr_ 45 (bk_ .add 15 .i64 1),
 mv_ 15 45])))))))
 (sq_ [pr_ 2 mt_]
 .ret))))
def o131:List Tmp:=[]
def r131:List RV:=[.tmp 2]
theorem t131:Text Tryz.prog 131 o131 c131 r131 46:=.mk_ Tryz.f131 rfl
def c136:ACode :=
 (sq_ [pr_ 4 (.allocm [.nils,.nils,.pl (.bool false),.pl (.float .f64 0),.pl (.float .f64 0),.nils])]
 (sq_ [mv_ 10 1,
 mv_ 11 0,
 c1_ 12 112 11,
 ⟨some 13,none,.call (.tmp 10) [(.tmp 12)]⟩,
 mv_ 9 13,
 pr_ 14 (ex_ 0 9),
 pr_ 15 (ex_ 1 9),
 pr_ 16 (ex_ 2 9),
 ⟨some 5,none,.fresh 6 5 (.tmp 14)⟩,
 mv_ 6 15,
 mv_ 7 16]
 (.seq (sq_ [mv_ 17 0,
 mv_ 18 6,
 mv_ 19 7,
 cl_ 20 113 [(.tmp 17),(.tmp 18),(.tmp 19)],
 pr_ 21 (no_ 20)]
 (.cond (.tmp 21)
 (sq_ [pr_ 8 (.allocm [.nils,.nils,.pl (.bool false),.pl (.float .f64 0),.pl (.float .f64 0),.nils])]
 (sq_ [pr_ 22 (lt_ 6 8),
 st_ (so_ 6 4 22)]
 .ret))
 .skip))
 (sq_ [pr_ 23 (lt_ 6 5),
 st_ (so_ 6 4 23)]
 .ret))))
def o136:List Tmp:=[4]
def r136:List RV:=[.cell 4 6 true]
theorem t136:Text Tryz.prog 136 o136 c136 r136 24:=.mk_ Tryz.f136 rfl
def c137:ACode :=
 (sq_ [pr_ 4 (.mov (.const (.slice none 0 0)))]
 (sq_ [mv_ 10 1,
 mv_ 11 0,
 c1_ 12 112 11,
 ⟨some 13,none,.call (.tmp 10) [(.tmp 12)]⟩,
 mv_ 9 13,
 pr_ 14 (ex_ 0 9),
 pr_ 15 (ex_ 1 9),
 pr_ 16 (ex_ 2 9),
 mv_ 5 14,
 mv_ 6 15,
 mv_ 7 16]
 (.seq (sq_ [mv_ 17 0,
 mv_ 18 6,
 mv_ 19 7,
 cl_ 20 113 [(.tmp 17),(.tmp 18),(.tmp 19)],
 pr_ 21 (no_ 20)]
 (.cond (.tmp 21)
 (sq_ [pr_ 8 (.mov (.const (.slice none 0 0)))]
 (sq_ [mv_ 22 8,
 mv_ 4 22]
 .ret))
 .skip))
 (sq_ [mv_ 23 5,
 mv_ 4 23]
 .ret))))
def o137:List Tmp:=[]
def r137:List RV:=[.tmp 4]
theorem t137:Text Tryz.prog 137 o137 c137 r137 24:=.mk_ Tryz.f137 rfl
def c138:ACode :=
 (sq_ [pr_ 2 (.mov (.const (.slice none 0 0))),
 pr_ 3 (mi_ .i64 0),
 pr_ 4 mf_]
 (sq_ [mv_ 9 0,
 c1_ 10 54 9,
 mv_ 5 10]
 (.seq (.after (.ops [pr_ 6 (.mov (.const (.slice none 0 0)))]) (.own 6 2))
 (.seq (sq_ [mv_ 11 5,
 cl_ 12 59 [(.tmp 11),(.const (.int .u64 6))],
 pr_ 13 (mi_ .u64 0)]
 (.block 0 (.loop [0,1,2,3,4,7,8,9,10,11,14,15,16,17,18,19,20,21,22,23,24,25,26,27,28,29,30,31,32,33,34,35,36] (sq_ [pr_ 14 (bt_ .lss 13 12)]
 (.seq (.cond (.tmp 14)
 .skip
 (.exit 0))
 (.seq (.block 1 (.ops [mv_ 15 6,
 mv_ 16 5,
 cl_ 17 60 [(.tmp 16),(.const (.int .i64 12))],
 mv_ 18 5,
 cl_ 19 60 [(.tmp 18),(.const (.int .i64 24))],
 pr_ 20 (.build [.pl (.string .empty),.pl (.string .empty)] [(0,1,(.tmp 17)),(1,1,(.tmp 19))]),
 pr_ 21 (.bsl false 2 true 1 [.pl (.string .empty),.pl (.string .empty)] [(0,2,(.tmp 20))]),
 pr_ 22 (.app 2 (.tmp 15) (.tmp 21)),
 mv_ 6 22]))
 (.ops [pr_ 23 (bk_ .add 13 .u64 1),
 mv_ 13 23])))))))
 (.seq (.ghost (.shut 6) (.ops [mv_ 24 5,
 mv_ 25 6,
 c1_ 26 131 25,
 cl_ 27 61 [(.tmp 24),(.tmp 26)]]))
 (sq_ [mv_ 29 5,
 c1_ 30 62 29,
 mv_ 28 30,
 pr_ 31 (ex_ 0 28),
 pr_ 32 (ex_ 1 28),
 mv_ 7 31,
 mv_ 8 32]
 (.seq (sq_ [mv_ 33 8,
 pr_ 34 (no_ 33)]
 (.cond (.tmp 34)
 (sq_ [pr_ 2 (.mov (.const (.slice none 0 0))),
 pr_ 3 (mi_ .i64 0),
 pr_ 4 mf_]
 (.ghost (.shut 2) .ret))
 .skip))
 (sq_ [mv_ 35 6,
 mv_ 36 7,
 mv_ 2 35,
 mv_ 3 36,
 pr_ 4 mt_]
 (.ghost (.shut 2) .ret)))))))))
def o138:List Tmp:=[]
def r138:List RV:=[.tmp 2,.tmp 3,.tmp 4]
theorem t138:Text Tryz.prog 138 o138 c138 r138 37:=.mk_ Tryz.f138 rfl
def c153:ACode :=
 (sq_ [pr_ 1 (.boxr (.tmp 0)),
 pr_ 2 mf_]
 (sq_ [pr_ 3 (fa_ 0 1),
 pr_ 4 (lf_ 1 3),
 pr_ 5 (no_ 4),
 mv_ 6 5,
 gp_ 7 6 true (fa_ 1 1),
 gp_ 8 6 true (lf_ 1 7),
 gc_ 9 6 true 155 [(.tmp 8)],
 pr_ 10 (pa_ 6 9),
 mv_ 11 10,
 gp_ 12 11 true (fa_ 2 1),
 gp_ 13 11 true (lf_ 1 12),
 gc_ 14 11 true 155 [(.tmp 13)],
 pr_ 15 (pa_ 11 14),
 mv_ 2 15]
 .ret))
def o153:List Tmp:=[]
def r153:List RV:=[.tmp 2]
theorem t153:Text Tryz.prog 153 o153 c153 r153 16:=.mk_ Tryz.f153 rfl
def c154:ACode :=
 (sq_ [pr_ 1 (.boxr (.tmp 0)),
 pr_ 2 mf_]
 (sq_ [pr_ 3 (fa_ 0 1),
 pr_ 4 (lf_ 1 3),
 pr_ 5 (.lenv (.tmp 4)),
 pr_ 6 (bk_ .eql 5 .i64 0),
 mv_ 7 6,
 gp_ 8 7 true (fa_ 1 1),
 gp_ 9 7 true (lf_ 1 8),
 gp_ 10 7 true (.lenv (.tmp 9)),
 gp_ 11 7 true (bk_ .eql 10 .i64 0),
 pr_ 12 (pa_ 7 11),
 mv_ 13 12,
 gp_ 14 13 true (fa_ 5 1),
 gp_ 15 13 true (lf_ 1 14),
 gp_ 16 13 true (.lenv (.tmp 15)),
 gp_ 17 13 true (bk_ .eql 16 .i64 0),
 pr_ 18 (pa_ 13 17),
 mv_ 19 18,
 gp_ 20 19 true (fa_ 2 1),
 gp_ 21 19 true (lt_ 3 20),
 gc_ 22 19 true 153 [(.tmp 21)],
 pr_ 23 (pa_ 19 22),
 mv_ 2 23]
 .ret))
def o154:List Tmp:=[]
def r154:List RV:=[.tmp 2]
theorem t154:Text Tryz.prog 154 o154 c154 r154 24:=.mk_ Tryz.f154 rfl
def c155:ACode :=
 (sq_ [pr_ 2 mf_]
 (sq_ [mv_ 3 0,
 c1_ 4 94 3,
 pr_ 5 (bk_ .eql 4 .u64 0),
 mv_ 2 5]
 .ret))
def o155:List Tmp:=[]
def r155:List RV:=[.tmp 2]
theorem t155:Text Tryz.prog 155 o155 c155 r155 6:=.mk_ Tryz.f155 rfl
def c157:ACode :=
 (sq_ [pr_ 2 mf_]
 (sq_ [mv_ 3 0,
 pr_ 4 (.lens (.tmp 3)),
 pr_ 5 (bk_ .geq 4 .i64 1),
 mv_ 6 5,
 gp_ 7 6 true (mo_ 0),
 gp_ 8 6 true (.lens (.tmp 7)),
 gp_ 9 6 true (bk_ .leq 8 .i64 24),
 pr_ 10 (pa_ 6 9),
 mv_ 2 10]
 .ret))
def o157:List Tmp:=[]
def r157:List RV:=[.tmp 2]
theorem t157:Text Tryz.prog 157 o157 c157 r157 11:=.mk_ Tryz.f157 rfl
end Go.Proofs.YtmkmhhjkdaklbaaGreat
namespace Go.Proofs.YtmkmhhjkdaklbaaGreat
open Go Go.Ab Go.Cod
set_option maxRecDepth 100000
abbrev noLb:Lab:=(⟨#[]⟩,⟨#[]⟩)
def valB (v:ByteArray):Bool:=decide (1≤v.size)&&decide (v.size≤24)
def labOk (L:List Lab) (i:Nat):Bool:=nameB (L.getD i noLb).1&&(valB (L.getD i noLb).2&& !(decide (0<i)&&leS (L.getD i noLb).1 (L.getD (i-1) noLb).1))
def setB (L:List Lab):Bool:=decide (1≤L.length)&&(decide (L.length≤6)&&(List.range L.length).all (labOk L))
theorem lvs_D (L:List Lab) (i:Nat) (h:i<L.length):(lvs L)[i]?=some (.agg [Sx (L.getD i noLb).1,Sx (L.getD i noLb).2]):=by
 have:=z4q L i h;rw[this,List.getD_eq_getElem?_getD,List.getElem?_eq_getElem h];rfl
theorem z7l (n:Nat) (a b:ByteArray):∀y∈([Sx a,Sx b]:List AV),Bel n y:=by
 intro y hy;simp only[List.mem_cons,List.not_mem_nil,or_false]at hy;rcases hy with rfl|rfl<;>exact .pl _
theorem z0s (n:Nat) (L:List Lab):Bel n (.sl 2 (lvs L)):=by
 refine .sl 2 _ fun i hi=>?_
 have:∀y∈lvs L,Bel n y:=by
  intro y hy;simp only[lvs,List.mem_map]at hy;obtain⟨x,_,rfl⟩:=hy;exact .agg _ fun i hi=>z7l n x.1 x.2 _ (List.getElem_mem hi)
 exact this _ (List.getElem_mem hi)
theorem zag (n:Nat) (L:List Lab):Bel n (.sl 2 (lvs L))=True:=eq_true (z0s n L)
theorem BL_lb (n:Nat) (a b:ByteArray):Bel n (.agg [Sx a,Sx b])=True:=eq_true (.agg _ fun i hi=>z7l n a b _ (List.getElem_mem hi))
theorem BL_r2 (n:Nat) (a b:ByteArray):Bel n (.rp [Sx a,Sx b])=True:=eq_true (.rp _ fun i hi=>z7l n a b _ (List.getElem_mem hi))
theorem BL_r1 (n:Nat) (b:ByteArray):Bel n (.rp [Sx b])=True:=eq_true (.rp _ fun i hi=>by
 have:i=0:=by simp at hi;omega
 subst this;exact .pl _)
section
variable (σ:St)
theorem zfT (v:ByteArray):Ans Tryz.prog 157 [Sx v] σ (Bo (valB v)) σ:=by
 have d1:decide ((1:Int)≤(v.size:Nat))=decide (1≤v.size):=intle 1 v.size;have d2:decide (((v.size:Nat):Int)≤24)=decide (v.size≤24):=intle v.size 24;refine Ans.of_run t157 ?_;unfold valB
 cases h:decide (1≤v.size) with
 |false =>
  simp -implicitDefEqProofs only[c157,r157,go_sem,d1,h];exact Fini.ret rfl
 |true =>
  simp -implicitDefEqProofs only[c157,r157,go_sem,d1,d2,h];exact Fini.ret rfl
theorem z1Z (L:List Lab):Ans Tryz.prog 131 [.sl 2 (lvs L)] σ (Bo (setB L)) σ:=by
 have e1:decide ((L.length:Int)<1)= !decide (1≤L.length):=by
  by_cases h:1≤L.length
  · rw[decide_eq_true h,decide_eq_false (by omega)];rfl
  · rw[decide_eq_false h,decide_eq_true (by omega)];rfl
 have e2:decide ((6:Int)<L.length)= !decide (L.length≤6):=by
  by_cases h:L.length≤6
  · rw[decide_eq_true h,decide_eq_false (by omega)];rfl
  · rw[decide_eq_false h,decide_eq_true (by omega)];rfl
 refine Ans.of_run' t131 (fun hbel hba=>?_)
 have le1:(σ.length≤σ.length+1)=True:=eq_true (by omega)
 have hb0:(∀o∈σ,BelO σ.length o)=True:=eq_true hbel;have htk:∀x:Ob,(σ++[x]).take σ.length=σ:=fun x=>List.take_left' rfl
 unfold setB
 cases h1:decide (1≤L.length) with
 |false =>
  simp -implicitDefEqProofs only[c131,r131,go_sem,z0i,e1,h1];exact Fini.ret rfl
 |true =>
 cases h2:decide (L.length≤6) with
 |false =>
  simp -implicitDefEqProofs only[c131,r131,go_sem,z0i,e1,e2,h1,h2];exact Fini.ret rfl
 |true =>
 have hl6:L.length≤6:=of_decide_eq_true h2;simp -implicitDefEqProofs only[c131,r131,go_sem,z0i,e1,e2,h1,h2];refine Go.Ab.L.scan L.length (labOk L) (fun i=>mkE 46 [(0,.sl 2 (lvs L)),(13,.sl 2 (lvs L)),(14,I L.length),(15,I i)]) (fun _=>σ) ?_ ?_ rfl rfl
 · intro i hi hp J hJ;have hx:=lvs_D L i hi;have hF:labOk L i=false→(List.range L.length).all (labOk L)=false:=fun h=>List.all_eq_false.2 ⟨i,List.mem_range.2 hi,by rw[h];decide⟩
   have hin:=wrap_succ (i:=i) (by omega)
   have d0:decide ((0:Int)<i)=decide (0<i):=by rw[Bool.eq_iff_iff];simp
   have hO:labOk L i=(nameB (L.getD i noLb).1&&(valB (L.getD i noLb).2&& !(decide (0<i)&&leS (L.getD i noLb).1 (L.getD (i-1) noLb).1))):=rfl;rw[hO]at hJ hF;generalize L.getD i noLb=x at hJ hF hx;obtain⟨nm,v⟩:=x;simp only at hJ hF hx;have n1:=fun s=>z5v s nm
   have n2:=fun s=>zfT s v
   simp -implicitDefEqProofs only[mkE,go_sem,z00,z0i,z0c hi,dec_lt hi,hx,g0,s0]
   first|refine CD.intro (n1 _) ?_|refine CS.intro n1 ?_
   cases hb1:nameB nm with
   |false =>
    rw[hb1]at hF;rw[hF rfl];simp -implicitDefEqProofs only[go_sem,z00,g0,s0,le1,B_pl,B_any,z2o,B_tup,B_osl,B_ptr,B_sl0,zag,BL_lb,BL_r2,BL_r1,htk,Nat.add_zero,hb0,List.length_append];exact Fini.ret rfl
   |true =>
    rw[hb1]at hF hJ;simp -implicitDefEqProofs only[go_sem,z00,g0,s0]
    first|refine CD.intro (n2 _) ?_|refine CS.intro n2 ?_
    cases hb2:valB v with
    |false =>
     rw[hb2]at hF;rw[hF rfl];simp -implicitDefEqProofs only[go_sem,z00,g0,s0,le1,B_pl,B_any,z2o,B_tup,B_osl,B_ptr,B_sl0,zag,BL_lb,BL_r2,BL_r1,htk,Nat.add_zero,hb0,List.length_append];exact Fini.ret rfl
    |true =>
     rw[hb2]at hF hJ;by_cases hz:i=0
     · subst hz;have hgo:=hJ rfl;have w01:IntKind.i64.wrap 1=1:=rfl;simp -implicitDefEqProofs only[go_sem,z00,d0,hin,w01,g0,s0,le1,B_pl,B_any,z2o,B_tup,B_osl,B_ptr,B_sl0,zag,BL_lb,BL_r2,BL_r1,htk,Nat.add_zero,hb0,List.length_append,Int.natCast_zero];exact hgo
     · have hpos:decide (0<i)=true:=decide_eq_true (by omega)
       have hx1:=lvs_D L (i-1) (by omega)
       have w1:IntKind.i64.wrap ((i:Int)-1)=((i-1:Nat):Int):=by rw[wrapN (by omega) (by omega)];omega
       have hlt1:(((i-1:Nat):Int)<L.length)=True:=by simp;omega
       rw[hpos]at hJ hF;generalize L.getD (i-1) noLb=x1 at hJ hF hx1;obtain⟨nm1,v1⟩:=x1;simp only at hJ hF hx1;have hle:(Op.bytesLess nm.toList nm1.toList||nm.toList==nm1.toList)=leS nm nm1:=rfl;simp -implicitDefEqProofs only[go_sem,z00,d0,hpos,w1,z0i,hlt1,hx1,hle,g0,s0,hin,g0,s0,le1,B_pl,B_any,z2o,B_tup,B_osl,B_ptr,B_sl0,zag,BL_lb,BL_r2,BL_r1,htk,Nat.add_zero,hb0,List.length_append]
       cases h7:leS nm nm1 with
       |true =>
        rw[h7]at hF;rw[hF rfl];simp -implicitDefEqProofs only[go_sem];exact Fini.ret rfl
       |false =>
        rw[h7]at hJ;have hgo:=hJ rfl;simp -implicitDefEqProofs only[go_sem,hin];exact hgo
 · intro hp J;have hd:decide ((L.length:Int)<L.length)=false:=by simp
   simp -implicitDefEqProofs only[mkE,go_sem,z0i,hd];refine Fini.ret' rfl (z0Y ?_);exact(List.all_eq_true.2 fun i hi=>hp i (List.mem_range.1 hi)).symm
end
def labR:Rd Lab:=seqR (textR 12) (textR 24)
def setR:Rd (List Lab):=onlyR (rowR 6 labR) setB
def putLb (x:Lab):Byt:=txtB x.1++txtB x.2
def z3E (L:List Lab):Byt:=z2p putLb L
theorem lab_fits:Fits labR putLb (fun x=>x.1.size≤12∧x.2.size≤24):=z0H (z1L (by decide)) (z1L (by decide))
theorem zeg:EndsR labR:=lab_fits.ends
theorem z4x {L:List Lab} (h:setB L=true):L.length≤6∧∀x∈L,x.1.size≤12∧x.2.size≤24:=by
 unfold setB at h;simp only[Bool.and_eq_true,decide_eq_true_eq]at h;refine⟨h.2.1,fun x hx=>?_⟩
 obtain⟨i,hi,rfl⟩:=List.getElem_of_mem hx;have h2:=List.all_eq_true.1 h.2.2 i (List.mem_range.2 hi);unfold labOk valB at h2;simp only[Bool.and_eq_true,decide_eq_true_eq]at h2;have e:L.getD i noLb=L[i]:=by rw[List.getD_eq_getElem?_getD,List.getElem?_eq_getElem hi];rfl
 rw[e]at h2;exact⟨z6F h2.1,h2.2.1.2⟩
theorem set_fits:Fits setR z3E (fun L=>setB L=true) :=
 (z3m (z70 (by decide) lab_fits) setB).weaken fun L=>⟨fun h=>h.2,fun h=>⟨z4x h,h⟩⟩
theorem ends_set:EndsR setR:=set_fits.ends
def labS (b:Byt):Nat×Bool→Lab×(Nat×Bool):=seqSt (runR (textR 12) ⟨#[]⟩ b) (runR (textR 24) ⟨#[]⟩ b)
theorem z5Q (b:Byt):StepsR b labR (labS b):=z0y (z0h b _ _) (z0h b _ _) (z27 12)
def setS (b:Byt):Nat×Bool→List Lab×(Nat×Bool):=z0J (rowSt 6 b (labS b)) setB
theorem zcK (b:Byt):StepsR b setR (setS b):=z17 (z5m (z5Q b) zeg 6) _
theorem zcL (L:List Lab) (x:Lab):lvs L++[lv x]=lvs (L++[x]):=by simp[lvs]
abbrev lsV (L:List Lab):AV:=.sl 2 (lvs L)
theorem zb8 (σ:St) (b:Byt) (hb:b.length≤50000):Ans Tryz.prog 138 [.sl 1 (byv b)] σ (readV (setR b) b lsV .nils) σ:=by
 have hS:=(zcK b).top;refine Ans.of_run' t138 (fun hbel _=>?_)
 simp -implicitDefEqProofs only[c138,r138,go_sem];refine CO.intro (z4t σ b) ?_;simp -implicitDefEqProofs only[go_sem,List.append_assoc,List.length_append];generalize hq1:runR (numR 6) 0 b (0,false)=q1;have hin0:Inb b (0,false):=Nat.zero_le _;have hn:=z2d (σ++[rob b (0,false),.row 2 []]) σ.length b (0,false) 6 (by decide) (g0 _ _ _) hin0 hb
 rw[hq1,s0]at hn;refine CO.intro hn ?_;have hn5:q1.1≤6:=by rw[←hq1];exact z2v b _
 have hin1:Inb b q1.2:=by rw[←hq1];exact z0g _ _ _ _ hin0
 simp -implicitDefEqProofs only[go_sem];refine Go.Ab.L.count q1.1 (fun i=>mkE 37 [(5,.ptr σ.length 0),(6,.osl (σ.length+1) i),(12,UN q1.1),(13,UN i)]) (fun i=>σ++[rob b (itSt (labS b) q1.2 i).2,.row 2 (lvs (itSt (labS b) q1.2 i).1)]) ?_ ?_ rfl rfl
 · intro i hi J hJ;have hitI:=z2f (z5Q b).inb q1.2 hin1 i;have hlen:=z32 (labS b) q1.2 i;simp only[itSt]at hJ;generalize itSt (labS b) q1.2 i=c at hJ hitI hlen⊢;obtain⟨l,q⟩:=c;simp only at hJ hitI hlen⊢;have d0:decide ((i:Int)<q1.1)=true:=dec_lt hi;have w0:=z1y (n:=i+1) (by omega)
   have e0:((i:Int)+1)=((i+1:Nat):Int):=rfl;unfold labS seqSt at hJ;simp only at hJ;simp -implicitDefEqProofs only[mkE,go_sem,d0];have h2:=z34 (σ++[rob b q,.row 2 (lvs l)]) σ.length b q 12 (by decide) (g0 _ _ _) hitI hb
   have hi3:=z0g (textR 12) ⟨#[]⟩ b q hitI;generalize runR (textR 12) ⟨#[]⟩ b q=r2 at h2 hi3 hJ;rw[s0]at h2;refine CO.intro h2 ?_;have h3:=z34 (σ++[rob b r2.2,.row 2 (lvs l)]) σ.length b r2.2 24 (by decide) (g0 _ _ _) hi3 hb
   generalize runR (textR 24) ⟨#[]⟩ b r2.2=r3 at h3 hJ;rw[s0]at h3;simp -implicitDefEqProofs only[go_sem];refine CO.intro h3 ?_;have hl:(lvs l).length=i:=by rw[z0i,hlen]
   have hle:i+1≤4294967296:=by omega
   have hsn:=zcL l (r2.1,r3.1);simp -implicitDefEqProofs only[go_sem,g1,s1,hl,hle,List.length_singleton,e0,w0];rw[←hsn]at hJ;exact hJ
 · intro J;have hitI:=z2f (z5Q b).inb q1.2 hin1 q1.1;have hlen:=z32 (labS b) q1.2 q1.1
   have hL:setS b (0,false)=((itSt (labS b) q1.2 q1.1).1,took (itSt (labS b) q1.2 q1.1).2 0 (setB (itSt (labS b) q1.2 q1.1).1)):=by
    unfold setS z0J rowSt;rw[hq1]
   rw[hL]at hS;generalize itSt (labS b) q1.2 q1.1=c at hS hitI hlen⊢;obtain⟨l,q⟩:=c;simp only at hS hitI hlen⊢;have hl:(lvs l).length=q1.1:=by rw[z0i,hlen]
   have d0:decide ((q1.1:Int)<q1.1)=false:=by simp
   simp -implicitDefEqProofs only[mkE,go_sem,d0,g1,s1,hl];refine CO.intro (z1Z _ l) ?_;have h2:=z0b (σ++[rob b q,.dead]) σ.length b q (setB l) (g0 _ _ _) hitI hb;rw[s0]at h2;simp -implicitDefEqProofs only[go_sem];refine CO.intro h2 ?_;have h3:=z35 (σ++[rob b (took q 0 (setB l)),.dead]) σ.length b (took q 0 (setB l)) (g0 _ _ _);simp -implicitDefEqProofs only[go_sem];refine CO.intro h3 ?_;have hbm:Bel σ.length (.sl 2 (lvs l)):=z0s _ _
   cases hr:setR b with
   |none =>
    have hb2:=hS.2 hr;rw[hb2];simp -implicitDefEqProofs only[go_sem];exact Fini.trim2 (σ':=σ) rfl rfl (Nat.le_refl _) (by unfold readV;exact z1k .nils) hbel
   |some p =>
    obtain⟨M,t⟩:=p;have hb2:=hS.1 M t hr;simp only[Prod.mk.injEq]at hb2;obtain⟨rfl,hb2⟩:=hb2;rw[hb2];simp -implicitDefEqProofs only[go_sem];refine Fini.trim2 (σ':=σ) rfl rfl (Nat.le_refl _) ?_ hbel;unfold readV;exact z1k hbm
theorem z8i (σ:St) (b:Byt) (hb:b.length≤50000):Ans Tryz.prog 138 [.sl 1 (byv b)] σ (readV (setR b) b lsV (lsV [])) σ:=by
 refine(zb8 σ b hb).subR ?_;unfold readV
 cases setR b with
 |none=>exact .tup (.cons (.nils 2) (.refl _))
 |some p=>exact .refl _
section
variable (σ:St) (p:Nat) (b:Byt) (q:Nat×Bool)
theorem zgS (h:σ[p]?=some (rob b q)) (hq:Inb b q) (hb:b.length≤50000):Ans Tryz.prog 137 [.ptr p 0,.fn 138 [] []] σ (lsV (runR setR [] b q).1) (σ.set p (rob b (runR setR [] b q).2)):=by
 obtain⟨a,bad⟩:=q;have hq:a≤b.length:=hq;have hl:(b.drop a).length≤50000:=by rw[List.length_drop];omega
 cases hr:setR (b.drop a) with
 |none =>
  have hrd:=z8i σ (b.drop a) hl;rw[z3z hr]at hrd
  have e:runR setR [] b (a,bad)=([],(a,true)):=by
   cases bad
   · exact z16 hr
   · exact z0I _ _ _ _
  have e2:took (a,bad) 0 false=(a,true):=by cases bad<;>rfl
  have ht:=z13 σ p b (a,bad) 0 false h (by simp only;omega)
  rw[e2]at ht;rw[e]
  have:Ans Tryz.prog 137 [.ptr p 0,.fn 138 [] []] σ .nils (σ.set p (rob b (a,true))):=by
   refine Ans.of_run t137 ?_;simp -implicitDefEqProofs only[c137,r137,go_sem];refine CO.intro (z12 σ p b (a,bad) h hq) ?_;simp -implicitDefEqProofs only[go_sem];refine CO.intro hrd ?_;simp -implicitDefEqProofs only[go_sem];refine CO.intro ht ?_;simp -implicitDefEqProofs only[go_sem];exact Fini.ret rfl
  exact this.subR (.nils 2)
 |some x =>
  obtain⟨x,t⟩:=x;have hrd:=z8i σ (b.drop a) hl;rw[z3A hr]at hrd;have hdr:=ends_set.drop hq hr;have ht:=z13 σ p b (a,bad) ((b.drop a).length-t.length) true h (by simp only[List.length_drop];omega)
  cases bad with
  |true =>
   have e2:took (a,true) ((b.drop a).length-t.length) true=(a,true):=rfl;rw[e2]at ht;rw[z0I]
   have:Ans Tryz.prog 137 [.ptr p 0,.fn 138 [] []] σ .nils (σ.set p (rob b (a,true))):=by
    refine Ans.of_run t137 ?_;simp -implicitDefEqProofs only[c137,r137,go_sem];refine CO.intro (z12 σ p b (a,true) h hq) ?_;simp -implicitDefEqProofs only[go_sem];refine CO.intro hrd ?_;simp -implicitDefEqProofs only[go_sem];refine CO.intro ht ?_;simp -implicitDefEqProofs only[go_sem];exact Fini.ret rfl
   exact this.subR (.nils 2)
  |false =>
   have e2:took (a,false) ((b.drop a).length-t.length) true=(b.length-t.length,false):=by
    simp only[took,Bool.false_or,Bool.not_true,Bool.false_eq_true,if_false,List.length_drop];congr 1;omega
   rw[e2]at ht;rw[z0P hr];refine Ans.of_run t137 ?_;simp -implicitDefEqProofs only[c137,r137,go_sem];refine CO.intro (z12 σ p b (a,false) h hq) ?_;simp -implicitDefEqProofs only[go_sem];refine CO.intro hrd ?_;simp -implicitDefEqProofs only[go_sem];refine CO.intro ht ?_;simp -implicitDefEqProofs only[go_sem];exact Fini.ret rfl
theorem zgT (h:σ[p]?=some (rob b q)) (hq:Inb b q) (hb:b.length≤50000):Ans Tryz.prog 136 [.ptr p 0,.fn 17 [] []] σ (ruV (runR ruR noRu b q).1) (σ.set p (rob b (runR ruR noRu b q).2)):=by
 obtain⟨a,bad⟩:=q;have hq:a≤b.length:=hq;have hl:(b.drop a).length≤50000:=by rw[List.length_drop];omega
 have hp:p<σ.length:=(List.getElem?_eq_some_iff.1 h).1;have hz:∀ob,(σ++[ob])[p]?=some (rob b (a,bad)):=fun ob=>by rw[List.getElem?_append_left hp];exact h
 have hst:∀ob X,(σ++[ob]).set p X=σ.set p X++[ob]:=fun ob X=>by rw[List.set_append_left _ _ hp]
 have hlen:∀X,(σ.set p X).length=σ.length:=fun X=>List.length_set
 have gx:∀(X:Ob) (o:Ob) (ex:St),(σ.set p X++o::ex)[σ.length]?=some o:=fun X o ex=>by rw[←hlen X];exact g0 _ _ _
 have sx:∀(X:Ob) (o u:Ob) (ex:St),(σ.set p X++o::ex).set σ.length u=σ.set p X++u::ex:=fun X o u ex=>by rw[←hlen X];exact s0 _ _ _ _
 have gx1:∀(X:Ob) (o o2:Ob) (ex:St),(σ.set p X++o::o2::ex)[σ.length+1]?=some o2:=fun X o o2 ex=>by rw[←hlen X];exact g1 _ _ _ _
 have hbo:∀(hbel:∀o∈σ,BelO σ.length o) (q:Nat×Bool),∀o∈σ.set p (rob b q),BelO (σ.set p (rob b q)).length o:=fun hbel q=>by
  rw[hlen]
  exact z1P hbel (fun c hc=>by
   simp only[List.mem_cons,List.not_mem_nil,or_false]at hc;rcases hc with rfl|rfl|rfl
   · exact z1F _ _
   · exact .pl _
   · exact .pl _)
 cases hr:ruR (b.drop a) with
 |none =>
  have hrd:=fun s=>z6G s (b.drop a) hl
  simp only[z3z hr]at hrd
  have e:runR ruR noRu b (a,bad)=(noRu,(a,true)):=by
   cases bad
   · exact z16 hr
   · exact z0I _ _ _ _
  have e2:took (a,bad) 0 false=(a,true):=by cases bad<;>rfl
  have ht:=fun ob=>z13 (σ++[ob]) p b (a,bad) 0 false (hz ob) (by simp only;omega)
  simp only[e2,hst]at ht;rw[e]
  have:Ans Tryz.prog 136 [.ptr p 0,.fn 17 [] []] σ noRuV (σ.set p (rob b (a,true))):=by
   refine Ans.of_run' t136 (fun hbel _=>?_)
   simp -implicitDefEqProofs only[c136,r136,go_sem];refine CO.intro (z12 _ p b (a,bad) (hz _) hq) ?_;simp -implicitDefEqProofs only[go_sem];refine CO.intro (hrd _) ?_;simp -implicitDefEqProofs only[go_sem,ruV];refine CO.intro (ht _) ?_;simp -implicitDefEqProofs only[go_sem,gx,sx,gx1,List.append_assoc,List.length_append,hlen];exact Fini.trim2 (σ':=σ.set p (rob b (a,true))) (ex:=[_,_]) (by simp -implicitDefEqProofs only[go_sem,resA,z02,rvA,oneOf,gx]<;>rfl) rfl (by rw[hlen];exact Nat.le_refl _) (z4e _) (hbo hbel _)
  exact this.subR z7k
 |some x =>
  obtain⟨x,t⟩:=x;have hrd:=fun s=>z6G s (b.drop a) hl
  simp only[z3A hr]at hrd;have hdr:=ends_ru.drop hq hr;have ht:=fun ob=>z13 (σ++[ob]) p b (a,bad) ((b.drop a).length-t.length) true (hz ob) (by simp only[List.length_drop];omega)
  simp only[hst]at ht
  cases bad with
  |true =>
   have e2:took (a,true) ((b.drop a).length-t.length) true=(a,true):=rfl;rw[e2]at ht;rw[z0I]
   have:Ans Tryz.prog 136 [.ptr p 0,.fn 17 [] []] σ noRuV (σ.set p (rob b (a,true))):=by
    refine Ans.of_run' t136 (fun hbel _=>?_)
    simp -implicitDefEqProofs only[c136,r136,go_sem];refine CO.intro (z12 _ p b (a,true) (hz _) hq) ?_;simp -implicitDefEqProofs only[go_sem];refine CO.intro (hrd _) ?_;simp -implicitDefEqProofs only[go_sem,ruV];refine CO.intro (ht _) ?_;simp -implicitDefEqProofs only[go_sem,gx,sx,gx1,List.append_assoc,List.length_append,hlen];exact Fini.trim2 (σ':=σ.set p (rob b (a,true))) (ex:=[_,_]) (by simp -implicitDefEqProofs only[go_sem,resA,z02,rvA,oneOf,gx]<;>rfl) rfl (by rw[hlen];exact Nat.le_refl _) (z4e _) (hbo hbel _)
   exact this.subR z7k
  |false =>
   have e2:took (a,false) ((b.drop a).length-t.length) true=(b.length-t.length,false):=by
    simp only[took,Bool.false_or,Bool.not_true,Bool.false_eq_true,if_false,List.length_drop];congr 1;omega
   rw[e2]at ht;rw[z0P hr];refine Ans.of_run' t136 (fun hbel _=>?_)
   simp -implicitDefEqProofs only[c136,r136,go_sem];refine CO.intro (z12 _ p b (a,false) (hz _) hq) ?_;simp -implicitDefEqProofs only[go_sem];refine CO.intro (hrd _) ?_;simp -implicitDefEqProofs only[go_sem,ruV];refine CO.intro (ht _) ?_;simp -implicitDefEqProofs only[go_sem,gx,sx,gx1,List.append_assoc,List.length_append,hlen];exact Fini.trim2 (σ':=σ.set p (rob b (b.length-t.length,false))) (ex:=[_]) (by simp -implicitDefEqProofs only[go_sem,resA,z02,rvA,oneOf,gx]<;>rfl) rfl (by rw[hlen];exact Nat.le_refl _) (z9d _ x) (hbo hbel _)
end
structure ReM where
 tok:ByteArray
 op:Int
 id:Int
 txt:ByteArray
 st:Nat
 en:Nat
 sta:Int
 mt:List Mtr
 any:Bool
 lo:Nat
 hi:Nat
 ru:RuM
 ls:List Lab
 val:Nat
def reC (r:ReM):List AV:=[Sx r.tok,I r.op,I r.id,Sx r.txt,UN r.st,UN r.en,I r.sta,mlV r.mt,Bo r.any,Fl r.lo,Fl r.hi,mlV r.ru.src,mlV r.ru.tgt,Bo r.ru.any,Fl r.ru.lo,Fl r.ru.hi,.sl 1 (txs r.ru.eq),lsV r.ls,Fl r.val]
def reV (r:ReM):AV:=.agg (reC r)
def fTab:List Int:=[0,1,3,3,116,117,1,8,128,1,768,1,16,0,1,0,0]
def fOf (op:Int):Int×Bool:=if 1≤op∧op≤17 then(fTab.getD (op.toNat-1) 0,true) else(0,false)
theorem ops17 (op:Int):op=1∨op=2∨op=3∨op=4∨op=5∨op=6∨op=7∨op=8∨op=9∨op=10∨op=11∨op=12∨op=13∨op=14∨op=15∨op=16∨op=17∨(op<1∨17<op):=by omega
theorem zcM {op:Int} (h:op<1∨17<op):fOf op=(0,false):=by unfold fOf;rw[if_neg (by omega)]
theorem neI {op k:Int} (h:op≠k):(op==k)=false:=by simpa using h
def zF (n:Nat):Bool:=((bitsF n:Nat):Int)==0
def noBd (x:Bnd):Bool:=!x.1&&(zF x.2.1&&zF x.2.2)
def emI (n:Nat):Bool:=((n:Nat):Int)==0
def noRl (r:RuM):Bool:=emI r.src.length&&(emI r.tgt.length&&(emI r.eq.length&&noBd (r.any,r.lo,r.hi)))
def tokB (s:ByteArray):Bool:=decide (4≤s.size)&&decide (s.size≤16)
section
variable (σ:St)
theorem z1d (op:Int):Ans Tryz.prog 90 [I op] σ (.tup [I (fOf op).1,Bo (fOf op).2]) σ:=by
 refine Ans.of_run t90 ?_;rcases ops17 op with rfl|rfl|rfl|rfl|rfl|rfl|rfl|rfl|rfl|rfl|rfl|rfl|rfl|rfl|rfl|rfl|rfl|h
 all_goals first
  |(rw[zcM h]
    simp -implicitDefEqProofs only[c90,r90,go_sem,neI (op:=op) (k:=1) (by omega),neI (op:=op) (k:=2) (by omega),neI (op:=op) (k:=3) (by omega),neI (op:=op) (k:=4) (by omega),neI (op:=op) (k:=5) (by omega),neI (op:=op) (k:=6) (by omega),neI (op:=op) (k:=7) (by omega),neI (op:=op) (k:=8) (by omega),neI (op:=op) (k:=9) (by omega),neI (op:=op) (k:=10) (by omega),neI (op:=op) (k:=11) (by omega),neI (op:=op) (k:=12) (by omega),neI (op:=op) (k:=13) (by omega),neI (op:=op) (k:=14) (by omega),neI (op:=op) (k:=15) (by omega),neI (op:=op) (k:=16) (by omega),neI (op:=op) (k:=17) (by omega)]
    exact Fini.ret rfl)
  |(simp -implicitDefEqProofs only[c90,r90,go_sem]
    exact Fini.ret rfl)
theorem z1b (n:Nat):Ans Tryz.prog 155 [Fl n] σ (Bo (zF n)) σ:=by
 refine Ans.of_run t155 ?_;simp -implicitDefEqProofs only[c155,r155,go_sem];refine CO.intro (z4W σ n) ?_;simp -implicitDefEqProofs only[go_sem];exact Fini.ret rfl
theorem z1e (x:Bnd):Ans Tryz.prog 153 [bandV x] σ (Bo (noBd x)) σ:=by
 obtain⟨a,lo,hi⟩:=x;refine Ans.of_run t153 ?_;unfold bandV noBd;simp only
 cases a with
 |true =>
  simp -implicitDefEqProofs only[c153,r153,go_sem];exact Fini.ret rfl
 |false =>
  simp -implicitDefEqProofs only[c153,r153,go_sem];refine CO.intro (z1b σ lo) ?_
  cases zF lo with
  |false =>
   simp -implicitDefEqProofs only[go_sem];exact Fini.ret rfl
  |true =>
   simp -implicitDefEqProofs only[go_sem];refine CO.intro (z1b σ hi) ?_;simp -implicitDefEqProofs only[go_sem];exact Fini.ret rfl
theorem z1p (r:RuM):Ans Tryz.prog 154 [ruV r] σ (Bo (noRl r)) σ:=by
 have hb:=z1e σ (r.any,r.lo,r.hi);refine Ans.of_run t154 ?_;unfold ruV noRl emI;unfold bandV at hb
 cases h1:(((r.src.length:Nat):Int)==0) with
 |false =>
  simp -implicitDefEqProofs only[c154,r154,go_sem,z0r,h1];exact Fini.ret rfl
 |true =>
 cases h2:(((r.tgt.length:Nat):Int)==0) with
 |false =>
  simp -implicitDefEqProofs only[c154,r154,go_sem,z0r,h1,h2];exact Fini.ret rfl
 |true =>
 cases h3:(((r.eq.length:Nat):Int)==0) with
 |false =>
  simp -implicitDefEqProofs only[c154,r154,go_sem,z0r,z0F,h1,h2,h3];exact Fini.ret rfl
 |true =>
  simp -implicitDefEqProofs only[c154,r154,go_sem,z0r,z0F,h1,h2,h3];refine CO.intro hb ?_;simp -implicitDefEqProofs only[go_sem];exact Fini.ret rfl
theorem z3e (s:ByteArray):Ans Tryz.prog 86 [Sx s] σ (Bo (tokB s)) σ:=by
 have d1:decide ((4:Int)≤(s.size:Nat))=decide (4≤s.size):=intle 4 s.size;have d2:decide (((s.size:Nat):Int)≤16)=decide (s.size≤16):=intle s.size 16;refine Ans.of_run t86 ?_;unfold tokB
 cases h:decide (4≤s.size) with
 |false =>
  simp -implicitDefEqProofs only[c86,r86,go_sem,d1,h];exact Fini.ret rfl
 |true =>
  simp -implicitDefEqProofs only[c86,r86,go_sem,d1,d2,h];exact Fini.ret rfl
end
def andI (a b:Int):Int:=IntKind.i64.wrap ((BitVec.ofInt 64 a &&& BitVec.ofInt 64 b).toNat:Int)
def hasF (f k:Int):Bool:=decide (0<andI f k)
def emS (s:ByteArray):Bool:=s.toList==(⟨#[]⟩:ByteArray).toList
def emU (n:Nat):Bool:=(n:Int)==0
def idR (n:Int):Bool:=decide (0≤n)&&decide (n≤2147483647)
def clkB (n:Nat):Bool:=decide ((n:Int)≤1099511627776)
def staR (n:Int):Bool:=decide (0≤n)&&decide (n≤3)
def zeroB (r:ReM) (f:Int):Bool :=
 (hasF f 1||r.id==0)&&((hasF f 2||emS r.txt)&&((hasF f 4||(emU r.st&&emU r.en))&&((hasF f 8||r.sta==0)&&((hasF f 16||emI r.mt.length)&&((hasF f 64||noBd (r.any,r.lo,r.hi))&&((hasF f 128||noRl r.ru)&&((hasF f 256||emI r.ls.length)&&(hasF f 512||zF r.val))))))))
def z0a (r:ReM) (f:Int):Bool :=
 idR r.id&&((!hasF f 2||tokB r.txt)&&(clkB r.st&&(clkB r.en&&(staR r.sta&&(listB r.mt&&((!hasF f 32|| !emI r.mt.length)&&((!hasF f 64||mayB r.any r.lo r.hi)&&((!hasF f 128||ruIs r.ru)&&(!hasF f 256||setB r.ls)))))))))
def mayR (r:ReM):Bool:=(fOf r.op).2&&(zeroB r (fOf r.op).1&&z0a r (fOf r.op).1)
theorem z4K (n:Nat):decide ((0:Int)<n)= !emI n:=by
 unfold emI;rw[Bool.eq_iff_iff];simp only[decide_eq_true_eq,Bool.not_eq_true',beq_eq_false_iff_ne];omega
theorem z5R (op:Int):(fOf op).1∈[0,1,3,116,117,8,128,768,16]:=by
 rcases ops17 op with rfl|rfl|rfl|rfl|rfl|rfl|rfl|rfl|rfl|rfl|rfl|rfl|rfl|rfl|rfl|rfl|rfl|h
 all_goals first|(rw[zcM h];decide)|decide
abbrev aI (f k:Int):Int:=IntKind.i64.wrap (((@HAnd.hAnd (BitVec 64) (BitVec 64) (BitVec 64) (@instHAndOfAndOp (BitVec IntKind.i64.bits) (@BitVec.instAndOp IntKind.i64.bits)) (BitVec.ofInt 64 f) (BitVec.ofInt 64 k)).toNat:Nat):Int)
theorem an_0:aI 0 1=0∧aI 0 2=0∧aI 0 4=0∧aI 0 8=0∧aI 0 16=0∧aI 0 32=0∧aI 0 64=0∧aI 0 128=0∧aI 0 256=0∧aI 0 512=0:=by decide +kernel
theorem hs_0:hasF 0 1=false∧hasF 0 2=false∧hasF 0 4=false∧hasF 0 8=false∧hasF 0 16=false∧hasF 0 32=false∧hasF 0 64=false∧hasF 0 128=false∧hasF 0 256=false∧hasF 0 512=false:=by decide +kernel
theorem an_1:aI 1 1=1∧aI 1 2=0∧aI 1 4=0∧aI 1 8=0∧aI 1 16=0∧aI 1 32=0∧aI 1 64=0∧aI 1 128=0∧aI 1 256=0∧aI 1 512=0:=by decide +kernel
theorem hs_1:hasF 1 1=true∧hasF 1 2=false∧hasF 1 4=false∧hasF 1 8=false∧hasF 1 16=false∧hasF 1 32=false∧hasF 1 64=false∧hasF 1 128=false∧hasF 1 256=false∧hasF 1 512=false:=by decide +kernel
theorem an_3:aI 3 1=1∧aI 3 2=2∧aI 3 4=0∧aI 3 8=0∧aI 3 16=0∧aI 3 32=0∧aI 3 64=0∧aI 3 128=0∧aI 3 256=0∧aI 3 512=0:=by decide +kernel
theorem hs_3:hasF 3 1=true∧hasF 3 2=true∧hasF 3 4=false∧hasF 3 8=false∧hasF 3 16=false∧hasF 3 32=false∧hasF 3 64=false∧hasF 3 128=false∧hasF 3 256=false∧hasF 3 512=false:=by decide +kernel
theorem zgU:aI 116 1=0∧aI 116 2=0∧aI 116 4=4∧aI 116 8=0∧aI 116 16=16∧aI 116 32=32∧aI 116 64=64∧aI 116 128=0∧aI 116 256=0∧aI 116 512=0:=by decide +kernel
theorem z5S:hasF 116 1=false∧hasF 116 2=false∧hasF 116 4=true∧hasF 116 8=false∧hasF 116 16=true∧hasF 116 32=true∧hasF 116 64=true∧hasF 116 128=false∧hasF 116 256=false∧hasF 116 512=false:=by decide +kernel
theorem zgV:aI 117 1=1∧aI 117 2=0∧aI 117 4=4∧aI 117 8=0∧aI 117 16=16∧aI 117 32=32∧aI 117 64=64∧aI 117 128=0∧aI 117 256=0∧aI 117 512=0:=by decide +kernel
theorem z5T:hasF 117 1=true∧hasF 117 2=false∧hasF 117 4=true∧hasF 117 8=false∧hasF 117 16=true∧hasF 117 32=true∧hasF 117 64=true∧hasF 117 128=false∧hasF 117 256=false∧hasF 117 512=false:=by decide +kernel
theorem an_8:aI 8 1=0∧aI 8 2=0∧aI 8 4=0∧aI 8 8=8∧aI 8 16=0∧aI 8 32=0∧aI 8 64=0∧aI 8 128=0∧aI 8 256=0∧aI 8 512=0:=by decide +kernel
theorem hs_8:hasF 8 1=false∧hasF 8 2=false∧hasF 8 4=false∧hasF 8 8=true∧hasF 8 16=false∧hasF 8 32=false∧hasF 8 64=false∧hasF 8 128=false∧hasF 8 256=false∧hasF 8 512=false:=by decide +kernel
theorem zgW:aI 128 1=0∧aI 128 2=0∧aI 128 4=0∧aI 128 8=0∧aI 128 16=0∧aI 128 32=0∧aI 128 64=0∧aI 128 128=128∧aI 128 256=0∧aI 128 512=0:=by decide +kernel
theorem hs_128:hasF 128 1=false∧hasF 128 2=false∧hasF 128 4=false∧hasF 128 8=false∧hasF 128 16=false∧hasF 128 32=false∧hasF 128 64=false∧hasF 128 128=true∧hasF 128 256=false∧hasF 128 512=false:=by decide +kernel
theorem zgX:aI 768 1=0∧aI 768 2=0∧aI 768 4=0∧aI 768 8=0∧aI 768 16=0∧aI 768 32=0∧aI 768 64=0∧aI 768 128=0∧aI 768 256=256∧aI 768 512=512:=by decide +kernel
theorem hs_768:hasF 768 1=false∧hasF 768 2=false∧hasF 768 4=false∧hasF 768 8=false∧hasF 768 16=false∧hasF 768 32=false∧hasF 768 64=false∧hasF 768 128=false∧hasF 768 256=true∧hasF 768 512=true:=by decide +kernel
theorem an_16:aI 16 1=0∧aI 16 2=0∧aI 16 4=0∧aI 16 8=0∧aI 16 16=16∧aI 16 32=0∧aI 16 64=0∧aI 16 128=0∧aI 16 256=0∧aI 16 512=0:=by decide +kernel
theorem hs_16:hasF 16 1=false∧hasF 16 2=false∧hasF 16 4=false∧hasF 16 8=false∧hasF 16 16=true∧hasF 16 32=false∧hasF 16 64=false∧hasF 16 128=false∧hasF 16 256=false∧hasF 16 512=false:=by decide +kernel
attribute [go_sem] z0r z0i z0F an_0 an_1 an_3 zgU zgV an_8 zgW zgX an_16
section
variable (σ:St)
set_option maxHeartbeats 4000000 in
theorem zgY (r:ReM):Ans Tryz.prog 125 [reV r,I 0] σ (Bo (zeroB r 0)) σ:=by
 obtain⟨tok,op,id,txt,st,en,sta,mt,any,lo,hi,⟨src,tgt,ra,rl,rh,eq⟩,ls,val⟩:=r;have b1:=z1e σ (any,lo,hi);have b2:=z1p σ ⟨src,tgt,ra,rl,rh,eq⟩;have b3:=z1b σ val;unfold bandV at b1;unfold ruV at b2;refine Ans.of_run t125 ?_;unfold reV reC zeroB;simp only[hs_0,Bool.true_or,Bool.false_or,Bool.true_and];unfold emS;unfold emU;unfold emI
 cases h0:(id==0) with
 |false =>
  simp -implicitDefEqProofs only[c125,r125,go_sem,h0];exact Fini.ret rfl
 |true =>
 cases h1:(txt.toList==(⟨#[]⟩:ByteArray).toList) with
 |false =>
  simp -implicitDefEqProofs only[c125,r125,go_sem,h0,h1];exact Fini.ret rfl
 |true =>
 cases h2:(((st:Nat):Int)==0) with
 |false =>
  simp -implicitDefEqProofs only[c125,r125,go_sem,h0,h1,h2];exact Fini.ret rfl
 |true =>
 cases h3:(((en:Nat):Int)==0) with
 |false =>
  simp -implicitDefEqProofs only[c125,r125,go_sem,h0,h1,h2,h3];exact Fini.ret rfl
 |true =>
 cases h4:(sta==0) with
 |false =>
  simp -implicitDefEqProofs only[c125,r125,go_sem,h0,h1,h2,h3,h4];exact Fini.ret rfl
 |true =>
 cases h5:(((mt.length:Nat):Int)==0) with
 |false =>
  simp -implicitDefEqProofs only[c125,r125,go_sem,h0,h1,h2,h3,h4,h5];exact Fini.ret rfl
 |true =>
 simp -implicitDefEqProofs only[c125,r125,go_sem,h0,h1,h2,h3,h4,h5];refine CO.intro b1 ?_
 cases h6:noBd (any,lo,hi) with
 |false =>
  simp -implicitDefEqProofs only[go_sem];exact Fini.ret rfl
 |true =>
 simp -implicitDefEqProofs only[go_sem];refine CO.intro b2 ?_
 cases h7:noRl ⟨src,tgt,ra,rl,rh,eq⟩ with
 |false =>
  simp -implicitDefEqProofs only[go_sem];exact Fini.ret rfl
 |true =>
 cases h8:(((ls.length:Nat):Int)==0) with
 |false =>
  simp -implicitDefEqProofs only[go_sem,h8];exact Fini.ret rfl
 |true =>
 simp -implicitDefEqProofs only[go_sem,h8];refine CO.intro b3 ?_
 cases h9:zF val with
 |false =>
  simp -implicitDefEqProofs only[go_sem];exact Fini.ret rfl
 |true =>
 simp -implicitDefEqProofs only[go_sem];exact Fini.ret rfl
set_option maxHeartbeats 4000000 in
theorem zfU (r:ReM):Ans Tryz.prog 126 [reV r,I 0] σ (Bo (z0a r 0)) σ:=by
 obtain⟨tok,op,id,txt,st,en,sta,mt,any,lo,hi,⟨src,tgt,ra,rl,rh,eq⟩,ls,val⟩:=r;have b0:=z3e σ txt;have b1:=z1E σ mt;have b2:=z1Q σ any lo hi;have b3:=z1V σ ⟨src,tgt,ra,rl,rh,eq⟩;have b4:=z1Z σ ls;unfold ruV at b3;refine Ans.of_run t126 ?_;unfold reV reC z0a idR staR clkB;simp only[hs_0,Bool.not_true,Bool.not_false,Bool.true_or,Bool.false_or,Bool.true_and,Bool.and_assoc]
 cases h0:decide (0≤id) with
 |false =>
  simp -implicitDefEqProofs only[c126,r126,go_sem,h0];exact Fini.ret rfl
 |true =>
 cases h1:decide (id≤2147483647) with
 |false =>
  simp -implicitDefEqProofs only[c126,r126,go_sem,h0,h1];exact Fini.ret rfl
 |true =>
 cases h2:decide (((st:Nat):Int)≤1099511627776) with
 |false =>
  simp -implicitDefEqProofs only[c126,r126,go_sem,h0,h1,h2];exact Fini.ret rfl
 |true =>
 cases h3:decide (((en:Nat):Int)≤1099511627776) with
 |false =>
  simp -implicitDefEqProofs only[c126,r126,go_sem,h0,h1,h2,h3];exact Fini.ret rfl
 |true =>
 cases h4:decide (0≤sta) with
 |false =>
  simp -implicitDefEqProofs only[c126,r126,go_sem,h0,h1,h2,h3,h4];exact Fini.ret rfl
 |true =>
 cases h5:decide (sta≤3) with
 |false =>
  simp -implicitDefEqProofs only[c126,r126,go_sem,h0,h1,h2,h3,h4,h5];exact Fini.ret rfl
 |true =>
 simp -implicitDefEqProofs only[c126,r126,go_sem,h0,h1,h2,h3,h4,h5];refine CO.intro b1 ?_
 cases h6:listB mt with
 |false =>
  simp -implicitDefEqProofs only[go_sem,];exact Fini.ret rfl
 |true =>
 simp -implicitDefEqProofs only[go_sem];exact Fini.ret rfl
set_option maxHeartbeats 4000000 in
theorem zgZ (r:ReM):Ans Tryz.prog 125 [reV r,I 1] σ (Bo (zeroB r 1)) σ:=by
 obtain⟨tok,op,id,txt,st,en,sta,mt,any,lo,hi,⟨src,tgt,ra,rl,rh,eq⟩,ls,val⟩:=r;have b1:=z1e σ (any,lo,hi);have b2:=z1p σ ⟨src,tgt,ra,rl,rh,eq⟩;have b3:=z1b σ val;unfold bandV at b1;unfold ruV at b2;refine Ans.of_run t125 ?_;unfold reV reC zeroB;simp only[hs_1,Bool.true_or,Bool.false_or,Bool.true_and];unfold emS;unfold emU;unfold emI
 cases h0:(txt.toList==(⟨#[]⟩:ByteArray).toList) with
 |false =>
  simp -implicitDefEqProofs only[c125,r125,go_sem,h0];exact Fini.ret rfl
 |true =>
 cases h1:(((st:Nat):Int)==0) with
 |false =>
  simp -implicitDefEqProofs only[c125,r125,go_sem,h0,h1];exact Fini.ret rfl
 |true =>
 cases h2:(((en:Nat):Int)==0) with
 |false =>
  simp -implicitDefEqProofs only[c125,r125,go_sem,h0,h1,h2];exact Fini.ret rfl
 |true =>
 cases h3:(sta==0) with
 |false =>
  simp -implicitDefEqProofs only[c125,r125,go_sem,h0,h1,h2,h3];exact Fini.ret rfl
 |true =>
 cases h4:(((mt.length:Nat):Int)==0) with
 |false =>
  simp -implicitDefEqProofs only[c125,r125,go_sem,h0,h1,h2,h3,h4];exact Fini.ret rfl
 |true =>
 simp -implicitDefEqProofs only[c125,r125,go_sem,h0,h1,h2,h3,h4];refine CO.intro b1 ?_
 cases h5:noBd (any,lo,hi) with
 |false =>
  simp -implicitDefEqProofs only[go_sem];exact Fini.ret rfl
 |true =>
 simp -implicitDefEqProofs only[go_sem];refine CO.intro b2 ?_
 cases h6:noRl ⟨src,tgt,ra,rl,rh,eq⟩ with
 |false =>
  simp -implicitDefEqProofs only[go_sem];exact Fini.ret rfl
 |true =>
 cases h7:(((ls.length:Nat):Int)==0) with
 |false =>
  simp -implicitDefEqProofs only[go_sem,h7];exact Fini.ret rfl
 |true =>
 simp -implicitDefEqProofs only[go_sem,h7];refine CO.intro b3 ?_
 cases h8:zF val with
 |false =>
  simp -implicitDefEqProofs only[go_sem];exact Fini.ret rfl
 |true =>
 simp -implicitDefEqProofs only[go_sem];exact Fini.ret rfl
set_option maxHeartbeats 4000000 in
theorem zfV (r:ReM):Ans Tryz.prog 126 [reV r,I 1] σ (Bo (z0a r 1)) σ:=by
 obtain⟨tok,op,id,txt,st,en,sta,mt,any,lo,hi,⟨src,tgt,ra,rl,rh,eq⟩,ls,val⟩:=r;have b0:=z3e σ txt;have b1:=z1E σ mt;have b2:=z1Q σ any lo hi;have b3:=z1V σ ⟨src,tgt,ra,rl,rh,eq⟩;have b4:=z1Z σ ls;unfold ruV at b3;refine Ans.of_run t126 ?_;unfold reV reC z0a idR staR clkB;simp only[hs_1,Bool.not_true,Bool.not_false,Bool.true_or,Bool.false_or,Bool.true_and,Bool.and_assoc]
 cases h0:decide (0≤id) with
 |false =>
  simp -implicitDefEqProofs only[c126,r126,go_sem,h0];exact Fini.ret rfl
 |true =>
 cases h1:decide (id≤2147483647) with
 |false =>
  simp -implicitDefEqProofs only[c126,r126,go_sem,h0,h1];exact Fini.ret rfl
 |true =>
 cases h2:decide (((st:Nat):Int)≤1099511627776) with
 |false =>
  simp -implicitDefEqProofs only[c126,r126,go_sem,h0,h1,h2];exact Fini.ret rfl
 |true =>
 cases h3:decide (((en:Nat):Int)≤1099511627776) with
 |false =>
  simp -implicitDefEqProofs only[c126,r126,go_sem,h0,h1,h2,h3];exact Fini.ret rfl
 |true =>
 cases h4:decide (0≤sta) with
 |false =>
  simp -implicitDefEqProofs only[c126,r126,go_sem,h0,h1,h2,h3,h4];exact Fini.ret rfl
 |true =>
 cases h5:decide (sta≤3) with
 |false =>
  simp -implicitDefEqProofs only[c126,r126,go_sem,h0,h1,h2,h3,h4,h5];exact Fini.ret rfl
 |true =>
 simp -implicitDefEqProofs only[c126,r126,go_sem,h0,h1,h2,h3,h4,h5];refine CO.intro b1 ?_
 cases h6:listB mt with
 |false =>
  simp -implicitDefEqProofs only[go_sem,];exact Fini.ret rfl
 |true =>
 simp -implicitDefEqProofs only[go_sem];exact Fini.ret rfl
set_option maxHeartbeats 4000000 in
theorem zh0 (r:ReM):Ans Tryz.prog 125 [reV r,I 3] σ (Bo (zeroB r 3)) σ:=by
 obtain⟨tok,op,id,txt,st,en,sta,mt,any,lo,hi,⟨src,tgt,ra,rl,rh,eq⟩,ls,val⟩:=r;have b1:=z1e σ (any,lo,hi);have b2:=z1p σ ⟨src,tgt,ra,rl,rh,eq⟩;have b3:=z1b σ val;unfold bandV at b1;unfold ruV at b2;refine Ans.of_run t125 ?_;unfold reV reC zeroB;simp only[hs_3,Bool.true_or,Bool.false_or,Bool.true_and];unfold emU;unfold emI
 cases h0:(((st:Nat):Int)==0) with
 |false =>
  simp -implicitDefEqProofs only[c125,r125,go_sem,h0];exact Fini.ret rfl
 |true =>
 cases h1:(((en:Nat):Int)==0) with
 |false =>
  simp -implicitDefEqProofs only[c125,r125,go_sem,h0,h1];exact Fini.ret rfl
 |true =>
 cases h2:(sta==0) with
 |false =>
  simp -implicitDefEqProofs only[c125,r125,go_sem,h0,h1,h2];exact Fini.ret rfl
 |true =>
 cases h3:(((mt.length:Nat):Int)==0) with
 |false =>
  simp -implicitDefEqProofs only[c125,r125,go_sem,h0,h1,h2,h3];exact Fini.ret rfl
 |true =>
 simp -implicitDefEqProofs only[c125,r125,go_sem,h0,h1,h2,h3];refine CO.intro b1 ?_
 cases h4:noBd (any,lo,hi) with
 |false =>
  simp -implicitDefEqProofs only[go_sem];exact Fini.ret rfl
 |true =>
 simp -implicitDefEqProofs only[go_sem];refine CO.intro b2 ?_
 cases h5:noRl ⟨src,tgt,ra,rl,rh,eq⟩ with
 |false =>
  simp -implicitDefEqProofs only[go_sem];exact Fini.ret rfl
 |true =>
 cases h6:(((ls.length:Nat):Int)==0) with
 |false =>
  simp -implicitDefEqProofs only[go_sem,h6];exact Fini.ret rfl
 |true =>
 simp -implicitDefEqProofs only[go_sem,h6];refine CO.intro b3 ?_
 cases h7:zF val with
 |false =>
  simp -implicitDefEqProofs only[go_sem];exact Fini.ret rfl
 |true =>
 simp -implicitDefEqProofs only[go_sem];exact Fini.ret rfl
set_option maxHeartbeats 4000000 in
theorem zfW (r:ReM):Ans Tryz.prog 126 [reV r,I 3] σ (Bo (z0a r 3)) σ:=by
 obtain⟨tok,op,id,txt,st,en,sta,mt,any,lo,hi,⟨src,tgt,ra,rl,rh,eq⟩,ls,val⟩:=r;have b0:=z3e σ txt;have b1:=z1E σ mt;have b2:=z1Q σ any lo hi;have b3:=z1V σ ⟨src,tgt,ra,rl,rh,eq⟩;have b4:=z1Z σ ls;unfold ruV at b3;refine Ans.of_run t126 ?_;unfold reV reC z0a idR staR clkB;simp only[hs_3,Bool.not_true,Bool.not_false,Bool.true_or,Bool.false_or,Bool.true_and,Bool.and_assoc]
 cases h0:decide (0≤id) with
 |false =>
  simp -implicitDefEqProofs only[c126,r126,go_sem,h0];exact Fini.ret rfl
 |true =>
 cases h1:decide (id≤2147483647) with
 |false =>
  simp -implicitDefEqProofs only[c126,r126,go_sem,h0,h1];exact Fini.ret rfl
 |true =>
 simp -implicitDefEqProofs only[c126,r126,go_sem,h0,h1];refine CO.intro b0 ?_
 cases h2:tokB txt with
 |false =>
  simp -implicitDefEqProofs only[go_sem,];exact Fini.ret rfl
 |true =>
 cases h3:decide (((st:Nat):Int)≤1099511627776) with
 |false =>
  simp -implicitDefEqProofs only[go_sem,h3];exact Fini.ret rfl
 |true =>
 cases h4:decide (((en:Nat):Int)≤1099511627776) with
 |false =>
  simp -implicitDefEqProofs only[go_sem,h3,h4];exact Fini.ret rfl
 |true =>
 cases h5:decide (0≤sta) with
 |false =>
  simp -implicitDefEqProofs only[go_sem,h3,h4,h5];exact Fini.ret rfl
 |true =>
 cases h6:decide (sta≤3) with
 |false =>
  simp -implicitDefEqProofs only[go_sem,h3,h4,h5,h6];exact Fini.ret rfl
 |true =>
 simp -implicitDefEqProofs only[go_sem,h3,h4,h5,h6];refine CO.intro b1 ?_
 cases h7:listB mt with
 |false =>
  simp -implicitDefEqProofs only[go_sem,];exact Fini.ret rfl
 |true =>
 simp -implicitDefEqProofs only[go_sem];exact Fini.ret rfl
end
section
variable (σ:St)
set_option maxHeartbeats 4000000 in
theorem zeh (r:ReM):Ans Tryz.prog 125 [reV r,I 116] σ (Bo (zeroB r 116)) σ:=by
 obtain⟨tok,op,id,txt,st,en,sta,mt,any,lo,hi,⟨src,tgt,ra,rl,rh,eq⟩,ls,val⟩:=r;have b1:=z1e σ (any,lo,hi);have b2:=z1p σ ⟨src,tgt,ra,rl,rh,eq⟩;have b3:=z1b σ val;unfold bandV at b1;unfold ruV at b2;refine Ans.of_run t125 ?_;unfold reV reC zeroB;simp only[z5S,Bool.true_or,Bool.false_or,Bool.true_and];unfold emS;unfold emI
 cases h0:(id==0) with
 |false =>
  simp -implicitDefEqProofs only[c125,r125,go_sem,h0];exact Fini.ret rfl
 |true =>
 cases h1:(txt.toList==(⟨#[]⟩:ByteArray).toList) with
 |false =>
  simp -implicitDefEqProofs only[c125,r125,go_sem,h0,h1];exact Fini.ret rfl
 |true =>
 cases h2:(sta==0) with
 |false =>
  simp -implicitDefEqProofs only[c125,r125,go_sem,h0,h1,h2];exact Fini.ret rfl
 |true =>
 simp -implicitDefEqProofs only[c125,r125,go_sem,h0,h1,h2];refine CO.intro b2 ?_
 cases h3:noRl ⟨src,tgt,ra,rl,rh,eq⟩ with
 |false =>
  simp -implicitDefEqProofs only[go_sem];exact Fini.ret rfl
 |true =>
 cases h4:(((ls.length:Nat):Int)==0) with
 |false =>
  simp -implicitDefEqProofs only[go_sem,h4];exact Fini.ret rfl
 |true =>
 simp -implicitDefEqProofs only[go_sem,h4];refine CO.intro b3 ?_
 cases h5:zF val with
 |false =>
  simp -implicitDefEqProofs only[go_sem];exact Fini.ret rfl
 |true =>
 simp -implicitDefEqProofs only[go_sem];exact Fini.ret rfl
set_option maxHeartbeats 4000000 in
theorem zcN (r:ReM):Ans Tryz.prog 126 [reV r,I 116] σ (Bo (z0a r 116)) σ:=by
 obtain⟨tok,op,id,txt,st,en,sta,mt,any,lo,hi,⟨src,tgt,ra,rl,rh,eq⟩,ls,val⟩:=r;have b0:=z3e σ txt;have b1:=z1E σ mt;have b2:=z1Q σ any lo hi;have b3:=z1V σ ⟨src,tgt,ra,rl,rh,eq⟩;have b4:=z1Z σ ls;unfold ruV at b3;refine Ans.of_run t126 ?_;unfold reV reC z0a idR staR clkB;simp only[z5S,Bool.not_true,Bool.not_false,Bool.true_or,Bool.false_or,Bool.true_and,Bool.and_assoc]
 cases h0:decide (0≤id) with
 |false =>
  simp -implicitDefEqProofs only[c126,r126,go_sem,h0];exact Fini.ret rfl
 |true =>
 cases h1:decide (id≤2147483647) with
 |false =>
  simp -implicitDefEqProofs only[c126,r126,go_sem,h0,h1];exact Fini.ret rfl
 |true =>
 cases h2:decide (((st:Nat):Int)≤1099511627776) with
 |false =>
  simp -implicitDefEqProofs only[c126,r126,go_sem,h0,h1,h2];exact Fini.ret rfl
 |true =>
 cases h3:decide (((en:Nat):Int)≤1099511627776) with
 |false =>
  simp -implicitDefEqProofs only[c126,r126,go_sem,h0,h1,h2,h3];exact Fini.ret rfl
 |true =>
 cases h4:decide (0≤sta) with
 |false =>
  simp -implicitDefEqProofs only[c126,r126,go_sem,h0,h1,h2,h3,h4];exact Fini.ret rfl
 |true =>
 cases h5:decide (sta≤3) with
 |false =>
  simp -implicitDefEqProofs only[c126,r126,go_sem,h0,h1,h2,h3,h4,h5];exact Fini.ret rfl
 |true =>
 simp -implicitDefEqProofs only[c126,r126,go_sem,h0,h1,h2,h3,h4,h5];refine CO.intro b1 ?_
 cases h6:listB mt with
 |false =>
  simp -implicitDefEqProofs only[go_sem,];exact Fini.ret rfl
 |true =>
 have hl:=z4K mt.length
 cases h7:(!emI mt.length) with
 |false =>
  rw[h7]at hl;simp -implicitDefEqProofs only[go_sem,hl];exact Fini.ret rfl
 |true =>
 rw[h7]at hl;simp -implicitDefEqProofs only[go_sem,hl];refine CO.intro b2 ?_
 cases h8:mayB any lo hi with
 |false =>
  simp -implicitDefEqProofs only[go_sem,];exact Fini.ret rfl
 |true =>
 simp -implicitDefEqProofs only[go_sem];exact Fini.ret rfl
set_option maxHeartbeats 4000000 in
theorem zei (r:ReM):Ans Tryz.prog 125 [reV r,I 117] σ (Bo (zeroB r 117)) σ:=by
 obtain⟨tok,op,id,txt,st,en,sta,mt,any,lo,hi,⟨src,tgt,ra,rl,rh,eq⟩,ls,val⟩:=r;have b1:=z1e σ (any,lo,hi);have b2:=z1p σ ⟨src,tgt,ra,rl,rh,eq⟩;have b3:=z1b σ val;unfold bandV at b1;unfold ruV at b2;refine Ans.of_run t125 ?_;unfold reV reC zeroB;simp only[z5T,Bool.true_or,Bool.false_or,Bool.true_and];unfold emS;unfold emI
 cases h0:(txt.toList==(⟨#[]⟩:ByteArray).toList) with
 |false =>
  simp -implicitDefEqProofs only[c125,r125,go_sem,h0];exact Fini.ret rfl
 |true =>
 cases h1:(sta==0) with
 |false =>
  simp -implicitDefEqProofs only[c125,r125,go_sem,h0,h1];exact Fini.ret rfl
 |true =>
 simp -implicitDefEqProofs only[c125,r125,go_sem,h0,h1];refine CO.intro b2 ?_
 cases h2:noRl ⟨src,tgt,ra,rl,rh,eq⟩ with
 |false =>
  simp -implicitDefEqProofs only[go_sem];exact Fini.ret rfl
 |true =>
 cases h3:(((ls.length:Nat):Int)==0) with
 |false =>
  simp -implicitDefEqProofs only[go_sem,h3];exact Fini.ret rfl
 |true =>
 simp -implicitDefEqProofs only[go_sem,h3];refine CO.intro b3 ?_
 cases h4:zF val with
 |false =>
  simp -implicitDefEqProofs only[go_sem];exact Fini.ret rfl
 |true =>
 simp -implicitDefEqProofs only[go_sem];exact Fini.ret rfl
set_option maxHeartbeats 4000000 in
theorem zcO (r:ReM):Ans Tryz.prog 126 [reV r,I 117] σ (Bo (z0a r 117)) σ:=by
 obtain⟨tok,op,id,txt,st,en,sta,mt,any,lo,hi,⟨src,tgt,ra,rl,rh,eq⟩,ls,val⟩:=r;have b0:=z3e σ txt;have b1:=z1E σ mt;have b2:=z1Q σ any lo hi;have b3:=z1V σ ⟨src,tgt,ra,rl,rh,eq⟩;have b4:=z1Z σ ls;unfold ruV at b3;refine Ans.of_run t126 ?_;unfold reV reC z0a idR staR clkB;simp only[z5T,Bool.not_true,Bool.not_false,Bool.true_or,Bool.false_or,Bool.true_and,Bool.and_assoc]
 cases h0:decide (0≤id) with
 |false =>
  simp -implicitDefEqProofs only[c126,r126,go_sem,h0];exact Fini.ret rfl
 |true =>
 cases h1:decide (id≤2147483647) with
 |false =>
  simp -implicitDefEqProofs only[c126,r126,go_sem,h0,h1];exact Fini.ret rfl
 |true =>
 cases h2:decide (((st:Nat):Int)≤1099511627776) with
 |false =>
  simp -implicitDefEqProofs only[c126,r126,go_sem,h0,h1,h2];exact Fini.ret rfl
 |true =>
 cases h3:decide (((en:Nat):Int)≤1099511627776) with
 |false =>
  simp -implicitDefEqProofs only[c126,r126,go_sem,h0,h1,h2,h3];exact Fini.ret rfl
 |true =>
 cases h4:decide (0≤sta) with
 |false =>
  simp -implicitDefEqProofs only[c126,r126,go_sem,h0,h1,h2,h3,h4];exact Fini.ret rfl
 |true =>
 cases h5:decide (sta≤3) with
 |false =>
  simp -implicitDefEqProofs only[c126,r126,go_sem,h0,h1,h2,h3,h4,h5];exact Fini.ret rfl
 |true =>
 simp -implicitDefEqProofs only[c126,r126,go_sem,h0,h1,h2,h3,h4,h5];refine CO.intro b1 ?_
 cases h6:listB mt with
 |false =>
  simp -implicitDefEqProofs only[go_sem,];exact Fini.ret rfl
 |true =>
 have hl:=z4K mt.length
 cases h7:(!emI mt.length) with
 |false =>
  rw[h7]at hl;simp -implicitDefEqProofs only[go_sem,hl];exact Fini.ret rfl
 |true =>
 rw[h7]at hl;simp -implicitDefEqProofs only[go_sem,hl];refine CO.intro b2 ?_
 cases h8:mayB any lo hi with
 |false =>
  simp -implicitDefEqProofs only[go_sem,];exact Fini.ret rfl
 |true =>
 simp -implicitDefEqProofs only[go_sem];exact Fini.ret rfl
end
section
variable (σ:St)
set_option maxHeartbeats 4000000 in
theorem zh1 (r:ReM):Ans Tryz.prog 125 [reV r,I 8] σ (Bo (zeroB r 8)) σ:=by
 obtain⟨tok,op,id,txt,st,en,sta,mt,any,lo,hi,⟨src,tgt,ra,rl,rh,eq⟩,ls,val⟩:=r;have b1:=z1e σ (any,lo,hi);have b2:=z1p σ ⟨src,tgt,ra,rl,rh,eq⟩;have b3:=z1b σ val;unfold bandV at b1;unfold ruV at b2;refine Ans.of_run t125 ?_;unfold reV reC zeroB;simp only[hs_8,Bool.true_or,Bool.false_or,Bool.true_and];unfold emS;unfold emU;unfold emI
 cases h0:(id==0) with
 |false =>
  simp -implicitDefEqProofs only[c125,r125,go_sem,h0];exact Fini.ret rfl
 |true =>
 cases h1:(txt.toList==(⟨#[]⟩:ByteArray).toList) with
 |false =>
  simp -implicitDefEqProofs only[c125,r125,go_sem,h0,h1];exact Fini.ret rfl
 |true =>
 cases h2:(((st:Nat):Int)==0) with
 |false =>
  simp -implicitDefEqProofs only[c125,r125,go_sem,h0,h1,h2];exact Fini.ret rfl
 |true =>
 cases h3:(((en:Nat):Int)==0) with
 |false =>
  simp -implicitDefEqProofs only[c125,r125,go_sem,h0,h1,h2,h3];exact Fini.ret rfl
 |true =>
 cases h4:(((mt.length:Nat):Int)==0) with
 |false =>
  simp -implicitDefEqProofs only[c125,r125,go_sem,h0,h1,h2,h3,h4];exact Fini.ret rfl
 |true =>
 simp -implicitDefEqProofs only[c125,r125,go_sem,h0,h1,h2,h3,h4];refine CO.intro b1 ?_
 cases h5:noBd (any,lo,hi) with
 |false =>
  simp -implicitDefEqProofs only[go_sem];exact Fini.ret rfl
 |true =>
 simp -implicitDefEqProofs only[go_sem];refine CO.intro b2 ?_
 cases h6:noRl ⟨src,tgt,ra,rl,rh,eq⟩ with
 |false =>
  simp -implicitDefEqProofs only[go_sem];exact Fini.ret rfl
 |true =>
 cases h7:(((ls.length:Nat):Int)==0) with
 |false =>
  simp -implicitDefEqProofs only[go_sem,h7];exact Fini.ret rfl
 |true =>
 simp -implicitDefEqProofs only[go_sem,h7];refine CO.intro b3 ?_
 cases h8:zF val with
 |false =>
  simp -implicitDefEqProofs only[go_sem];exact Fini.ret rfl
 |true =>
 simp -implicitDefEqProofs only[go_sem];exact Fini.ret rfl
set_option maxHeartbeats 4000000 in
theorem zfX (r:ReM):Ans Tryz.prog 126 [reV r,I 8] σ (Bo (z0a r 8)) σ:=by
 obtain⟨tok,op,id,txt,st,en,sta,mt,any,lo,hi,⟨src,tgt,ra,rl,rh,eq⟩,ls,val⟩:=r;have b0:=z3e σ txt;have b1:=z1E σ mt;have b2:=z1Q σ any lo hi;have b3:=z1V σ ⟨src,tgt,ra,rl,rh,eq⟩;have b4:=z1Z σ ls;unfold ruV at b3;refine Ans.of_run t126 ?_;unfold reV reC z0a idR staR clkB;simp only[hs_8,Bool.not_true,Bool.not_false,Bool.true_or,Bool.false_or,Bool.true_and,Bool.and_assoc]
 cases h0:decide (0≤id) with
 |false =>
  simp -implicitDefEqProofs only[c126,r126,go_sem,h0];exact Fini.ret rfl
 |true =>
 cases h1:decide (id≤2147483647) with
 |false =>
  simp -implicitDefEqProofs only[c126,r126,go_sem,h0,h1];exact Fini.ret rfl
 |true =>
 cases h2:decide (((st:Nat):Int)≤1099511627776) with
 |false =>
  simp -implicitDefEqProofs only[c126,r126,go_sem,h0,h1,h2];exact Fini.ret rfl
 |true =>
 cases h3:decide (((en:Nat):Int)≤1099511627776) with
 |false =>
  simp -implicitDefEqProofs only[c126,r126,go_sem,h0,h1,h2,h3];exact Fini.ret rfl
 |true =>
 cases h4:decide (0≤sta) with
 |false =>
  simp -implicitDefEqProofs only[c126,r126,go_sem,h0,h1,h2,h3,h4];exact Fini.ret rfl
 |true =>
 cases h5:decide (sta≤3) with
 |false =>
  simp -implicitDefEqProofs only[c126,r126,go_sem,h0,h1,h2,h3,h4,h5];exact Fini.ret rfl
 |true =>
 simp -implicitDefEqProofs only[c126,r126,go_sem,h0,h1,h2,h3,h4,h5];refine CO.intro b1 ?_
 cases h6:listB mt with
 |false =>
  simp -implicitDefEqProofs only[go_sem,];exact Fini.ret rfl
 |true =>
 simp -implicitDefEqProofs only[go_sem];exact Fini.ret rfl
set_option maxHeartbeats 4000000 in
theorem zej (r:ReM):Ans Tryz.prog 125 [reV r,I 128] σ (Bo (zeroB r 128)) σ:=by
 obtain⟨tok,op,id,txt,st,en,sta,mt,any,lo,hi,⟨src,tgt,ra,rl,rh,eq⟩,ls,val⟩:=r;have b1:=z1e σ (any,lo,hi);have b2:=z1p σ ⟨src,tgt,ra,rl,rh,eq⟩;have b3:=z1b σ val;unfold bandV at b1;unfold ruV at b2;refine Ans.of_run t125 ?_;unfold reV reC zeroB;simp only[hs_128,Bool.true_or,Bool.false_or,Bool.true_and];unfold emS;unfold emU;unfold emI
 cases h0:(id==0) with
 |false =>
  simp -implicitDefEqProofs only[c125,r125,go_sem,h0];exact Fini.ret rfl
 |true =>
 cases h1:(txt.toList==(⟨#[]⟩:ByteArray).toList) with
 |false =>
  simp -implicitDefEqProofs only[c125,r125,go_sem,h0,h1];exact Fini.ret rfl
 |true =>
 cases h2:(((st:Nat):Int)==0) with
 |false =>
  simp -implicitDefEqProofs only[c125,r125,go_sem,h0,h1,h2];exact Fini.ret rfl
 |true =>
 cases h3:(((en:Nat):Int)==0) with
 |false =>
  simp -implicitDefEqProofs only[c125,r125,go_sem,h0,h1,h2,h3];exact Fini.ret rfl
 |true =>
 cases h4:(sta==0) with
 |false =>
  simp -implicitDefEqProofs only[c125,r125,go_sem,h0,h1,h2,h3,h4];exact Fini.ret rfl
 |true =>
 cases h5:(((mt.length:Nat):Int)==0) with
 |false =>
  simp -implicitDefEqProofs only[c125,r125,go_sem,h0,h1,h2,h3,h4,h5];exact Fini.ret rfl
 |true =>
 simp -implicitDefEqProofs only[c125,r125,go_sem,h0,h1,h2,h3,h4,h5];refine CO.intro b1 ?_
 cases h6:noBd (any,lo,hi) with
 |false =>
  simp -implicitDefEqProofs only[go_sem];exact Fini.ret rfl
 |true =>
 cases h7:(((ls.length:Nat):Int)==0) with
 |false =>
  simp -implicitDefEqProofs only[go_sem,h7];exact Fini.ret rfl
 |true =>
 simp -implicitDefEqProofs only[go_sem,h7];refine CO.intro b3 ?_
 cases h8:zF val with
 |false =>
  simp -implicitDefEqProofs only[go_sem];exact Fini.ret rfl
 |true =>
 simp -implicitDefEqProofs only[go_sem];exact Fini.ret rfl
set_option maxHeartbeats 4000000 in
theorem zcP (r:ReM):Ans Tryz.prog 126 [reV r,I 128] σ (Bo (z0a r 128)) σ:=by
 obtain⟨tok,op,id,txt,st,en,sta,mt,any,lo,hi,⟨src,tgt,ra,rl,rh,eq⟩,ls,val⟩:=r;have b0:=z3e σ txt;have b1:=z1E σ mt;have b2:=z1Q σ any lo hi;have b3:=z1V σ ⟨src,tgt,ra,rl,rh,eq⟩;have b4:=z1Z σ ls;unfold ruV at b3;refine Ans.of_run t126 ?_;unfold reV reC z0a idR staR clkB;simp only[hs_128,Bool.not_true,Bool.not_false,Bool.true_or,Bool.false_or,Bool.true_and,Bool.and_assoc]
 cases h0:decide (0≤id) with
 |false =>
  simp -implicitDefEqProofs only[c126,r126,go_sem,h0];exact Fini.ret rfl
 |true =>
 cases h1:decide (id≤2147483647) with
 |false =>
  simp -implicitDefEqProofs only[c126,r126,go_sem,h0,h1];exact Fini.ret rfl
 |true =>
 cases h2:decide (((st:Nat):Int)≤1099511627776) with
 |false =>
  simp -implicitDefEqProofs only[c126,r126,go_sem,h0,h1,h2];exact Fini.ret rfl
 |true =>
 cases h3:decide (((en:Nat):Int)≤1099511627776) with
 |false =>
  simp -implicitDefEqProofs only[c126,r126,go_sem,h0,h1,h2,h3];exact Fini.ret rfl
 |true =>
 cases h4:decide (0≤sta) with
 |false =>
  simp -implicitDefEqProofs only[c126,r126,go_sem,h0,h1,h2,h3,h4];exact Fini.ret rfl
 |true =>
 cases h5:decide (sta≤3) with
 |false =>
  simp -implicitDefEqProofs only[c126,r126,go_sem,h0,h1,h2,h3,h4,h5];exact Fini.ret rfl
 |true =>
 simp -implicitDefEqProofs only[c126,r126,go_sem,h0,h1,h2,h3,h4,h5];refine CO.intro b1 ?_
 cases h6:listB mt with
 |false =>
  simp -implicitDefEqProofs only[go_sem,];exact Fini.ret rfl
 |true =>
 simp -implicitDefEqProofs only[go_sem];refine CO.intro b3 ?_
 cases h7:ruIs ⟨src,tgt,ra,rl,rh,eq⟩ with
 |false =>
  simp -implicitDefEqProofs only[go_sem,];exact Fini.ret rfl
 |true =>
 simp -implicitDefEqProofs only[go_sem];exact Fini.ret rfl
end
end Go.Proofs.YtmkmhhjkdaklbaaGreat
