/- Rules read out of bytes, by the program. No condition. -/
import Derived.Test.YteakobbdgehlgaaGreatDoorKRc6H
import Derived.Test.YteakobbdgehlgaaGreatDoorRows
import Derived.Test.YteakobbdgehlgaaGreatDoorKXPDoc2H
import Derived.Test.YteakobbdgehlgaaGreatDoorAbArgH
import Derived.Test.YteakobbdgehlgaaGreatDoorKXMr2H
import Derived.Test.YteakobbdgehlgaaGreatDoorKXVi3H
import Derived.Test.YteakobbdgehlgaaGreatDoorKXPPar6H
import Derived.Test.YteakobbdgehlgaaGreatDoorKShA1H
import Derived.Test.YteakobbdgehlgaaGreatDoorAbGloH
set_option linter.unusedSimpArgs false
set_option linter.unusedVariables false
set_option linter.unusedSectionVars false
namespace Go.Proofs.YteakobbdgehlgaaGreatDoor
open Go Go.Ab Go.Cod
set_option maxRecDepth 100000
theorem g3 (σ:St) (x y z u:Ob) (ex:St):(σ++x::y::z::u::ex)[σ.length+3]?=some u:=by rw[List.getElem?_append_right (by simp)];simp
theorem s3 (σ:St) (x y z u v:Ob) (ex:St):(σ++x::y::z::u::ex).set (σ.length+3) v=σ++x::y::z::v::ex:=by rw[List.set_append_right _ _ (by simp)];simp
def txC (n:Nat) (e:List ByteArray):AV:=if e.isEmpty then .nils else .osl n e.length
def txS (e:List ByteArray):St:=if e.isEmpty then[] else[.row 1 (txs e)]
theorem zd3 (n:Nat) {e:List ByteArray} (h:e.isEmpty=false):txC n e=.osl n e.length:=by unfold txC;rw[h];rfl
theorem zd4 {e:List ByteArray} (h:e.isEmpty=false):txS e=[.row 1 (txs e)]:=by unfold txS;rw[h];rfl
theorem zav (e:List ByteArray) (s:ByteArray):(e++[s]).isEmpty=false:=by cases e<;>rfl
theorem z9t (n:Nat) (r:RuM):Bel n (ruV r):=.agg _ fun i hi=>by
 have:∀y∈([.sl 3 (mvs3 r.src),.sl 3 (mvs3 r.tgt),Bo r.any,Fl r.lo,Fl r.hi,.sl 1 (txs r.eq)]:List AV),Bel n y:=by
  intro y hy;simp only[List.mem_cons,List.not_mem_nil,or_false]at hy;rcases hy with rfl|rfl|rfl|rfl|rfl|rfl
  · exact z0q _ _
  · exact z0q _ _
  · exact .pl _
  · exact .pl _
  · exact .pl _
  · exact z0G _ _
 exact this _ (List.getElem_mem hi)
def noRu:RuM:=⟨[],[],false,0,0,[]⟩
abbrev Z6:Ob:=.box [.nils,.nils,Bo false,Fl 0,Fl 0,.nils]
def noRuV:AV:=.agg [.nils,.nils,Bo false,Fl 0,Fl 0,.nils]
theorem z7n:Sub noRuV (ruV noRu):=.agg (.cons (.nils 3) (.cons (.nils 3) (.cons (.refl _) (.cons (.refl _) (.cons (.refl _) (.cons (.nils 1) .nil))))))
theorem z4j (n:Nat):Bel n noRuV:=.agg _ fun i hi=>by
 have:∀y∈([.nils,.nils,Bo false,Fl 0,Fl 0,.nils]:List AV),Bel n y:=by
  intro y hy;simp only[List.mem_cons,List.not_mem_nil,or_false]at hy;rcases hy with rfl|rfl|rfl|rfl|rfl|rfl
  · exact .nils
  · exact .nils
  · exact .pl _
  · exact .pl _
  · exact .pl _
  · exact .nils
 exact this _ (List.getElem_mem hi)
section
variable (σ:St)
set_option maxHeartbeats 4000000 in
theorem z9u (b:Byt) (hb:b.length≤50000):Ans Tryz.prog 126 [.sl 1 (byv b)] σ (readV (ruR b) b ruV noRuV) σ:=by
 have hS:=(zev b).top;refine Ans.of_run' t126 (fun hbel _=>?_)
 simp -implicitDefEqProofs only[c126,r126,go_sem];refine CO.intro (new_ans _ b) ?_
 have hs2:∀q,ruS b q=(mkRu ((runR listR [] b q).1,(runR listR [] b (runR listR [] b q).2).1,(runR bandR (false,0,0) b (runR listR [] b (runR listR [] b q).2).2).1,(rowSt 4 b (runR (textR 12) ⟨#[]⟩ b) (runR bandR (false,0,0) b (runR listR [] b (runR listR [] b q).2).2).2).1),
   took (rowSt 4 b (runR (textR 12) ⟨#[]⟩ b) (runR bandR (false,0,0) b (runR listR [] b (runR listR [] b q).2).2).2).2 0 (ruIs (mkRu ((runR listR [] b q).1,(runR listR [] b (runR listR [] b q).2).1,(runR bandR (false,0,0) b (runR listR [] b (runR listR [] b q).2).2).1,(rowSt 4 b (runR (textR 12) ⟨#[]⟩ b) (runR bandR (false,0,0) b (runR listR [] b (runR listR [] b q).2).2).2).1)))):=fun q=>rfl
 rw[hs2]at hS;have h1:=z8j (σ++[Z6,rob b (0,false)]) (σ.length+1) b (0,false) (g1 _ _ _ _) (Inb0 b) hb;rw[s1]at h1;have i1:=z0h listR [] b (0,false) (Inb0 b);generalize runR listR [] b (0,false)=w1 at h1 i1 hS;obtain⟨m1,q1⟩:=w1;simp only at h1 i1 hS;have h2:=z8j (σ++[Z6,rob b q1]) (σ.length+1) b q1 (g1 _ _ _ _) i1 hb;rw[s1]at h2;have i2:=z0h listR [] b q1 i1;generalize runR listR [] b q1=w2 at h2 i2 hS;obtain⟨m2,q2⟩:=w2;simp only at h2 i2 hS;have h3:=zd2 (σ++[Z6,rob b q2]) (σ.length+1) b q2 (g1 _ _ _ _) i2 hb;rw[s1]at h3;have i3:=z0h bandR (false,0,0) b q2 i2;generalize runR bandR (false,0,0) b q2=w3 at h3 i3 hS;obtain⟨⟨any,lo,hi⟩,q3⟩:=w3;unfold bandV at h3;simp only at h3 i3 hS;simp -implicitDefEqProofs only[go_sem,List.append_assoc,List.length_append];refine CO.intro h1 ?_;simp -implicitDefEqProofs only[go_sem];refine CO.intro h2 ?_;simp -implicitDefEqProofs only[go_sem];refine CO.intro h3 ?_;unfold rowSt at hS;have h4:=z2G (σ++[Z6,rob b q3,.box [mlV m1,mlV m2,Bo any,Fl lo,Fl hi,.nils]]) (σ.length+1) b q3 4 (by decide) (g1 _ _ _ _) i3 hb
 rw[s1]at h4;have i4:=z0h (numR 4) 0 b q3 i3;have hn4:=z2I (most:=4) b q3;generalize runR (numR 4) 0 b q3=w4 at h4 i4 hS hn4;obtain⟨n,q4⟩:=w4;simp only at h4 i4 hS hn4;simp -implicitDefEqProofs only[go_sem,List.append_assoc,List.length_append,g0,g1,g2,s0,s1,s2];refine CO.intro h4 ?_;simp -implicitDefEqProofs only[go_sem]
 refine Go.Ab.L.count n (fun i=>mkE 44 [(2,.ptr σ.length 0),(5,.ptr (σ.length+1) 0),(6,.ptr (σ.length+2) 0),(19,UN n),(20,UN i)])
  (fun i=>σ++Z6::rob b (itSt (runR (textR 12) ⟨#[]⟩ b) q4 i).2::.box [mlV m1,mlV m2,Bo any,Fl lo,Fl hi,txC (σ.length+3) (itSt (runR (textR 12) ⟨#[]⟩ b) q4 i).1]::txS (itSt (runR (textR 12) ⟨#[]⟩ b) q4 i).1) ?_ ?_ rfl rfl
 · intro i hin J hJ;have hit:=z2c (z0h (textR 12) ⟨#[]⟩ b) q4 i4 i;have hlen:=z35 (runR (textR 12) ⟨#[]⟩ b) q4 i;simp only[itSt]at hJ;generalize itSt (runR (textR 12) ⟨#[]⟩ b) q4 i=c at hJ hit hlen⊢;obtain⟨l,q⟩:=c;simp only at hJ hit hlen⊢;have d0:decide ((i:Int)<n)=true:=dec_lt hin;have w0:=z1v (n:=i+1) (by omega)
   have e0:((i:Int)+1)=((i+1:Nat):Int):=rfl;have h5:=z3y (σ++Z6::rob b q::.box [mlV m1,mlV m2,Bo any,Fl lo,Fl hi,txC (σ.length+3) l]::txS l) (σ.length+1) b q 12 (by decide) (g1 _ _ _ _) hit hb
   rw[s1]at h5;generalize runR (textR 12) ⟨#[]⟩ b q=w5 at h5 hJ;obtain⟨s,q5⟩:=w5;simp only at h5 hJ;rw[zd3 _ (zav l s),zd4 (zav l s),z7k]at hJ;rw[List.length_append,List.length_singleton]at hJ
   cases hem:l.isEmpty with
   |true =>
    have hle:l=[]:=List.isEmpty_iff.1 hem;subst hle;unfold txC txS at h5⊢;simp only[List.isEmpty_nil,if_true]at h5⊢;simp -implicitDefEqProofs only[mkE,go_sem,d0,g0,g1,g2,s0,s1,s2];refine CD.intro h5 ?_;have p32:((1:Nat)≤2^32)=True:=eq_true (by decide)
    simp -implicitDefEqProofs only[go_sem,g0,g1,g2,s0,s1,s2,w0,e0,p32,List.length_append,List.append_assoc,List.length_cons,List.length_nil];exact hJ
   |false =>
    rw[zd3 _ hem,zd4 hem]at h5⊢;have hll:l.length+1≤4294967296:=by omega
    simp -implicitDefEqProofs only[mkE,go_sem,d0,g0,g1,g2,s0,s1,s2];refine CD.intro h5 ?_;simp -implicitDefEqProofs only[go_sem,g0,g1,g2,g3,s0,s1,s2,s3,w0,e0,z0L,hll,List.length_singleton];exact hJ
 · intro J;have hit:=z2c (z0h (textR 12) ⟨#[]⟩ b) q4 i4 n;have hlen:=z35 (runR (textR 12) ⟨#[]⟩ b) q4 n;generalize itSt (runR (textR 12) ⟨#[]⟩ b) q4 n=c at hS hit hlen⊢;obtain⟨l,q⟩:=c;simp only at hS hit hlen⊢;have d0:decide ((n:Int)<n)=false:=by simp
   have hru:=fun s=>z1X s (mkRu (m1,m2,(any,lo,hi),l))
   generalize ruIs (mkRu (m1,m2,(any,lo,hi),l))=ok at hru hS
   cases hem:l.isEmpty with
   |true =>
    have hle:l=[]:=List.isEmpty_iff.1 hem;subst hle;unfold txC txS;simp only[List.isEmpty_nil,if_true];have h6:=z0a (σ++[Z6,rob b q,.box [mlV m1,mlV m2,Bo any,Fl lo,Fl hi,.sl 1 (txs [])]]) (σ.length+1) b q ok (g1 _ _ _ _) hit hb;rw[s1]at h6;generalize took q 0 ok=qe at h6 hS;have h7:=z3p (σ++[Z6,rob b qe,.box [mlV m1,mlV m2,Bo any,Fl lo,Fl hi,.sl 1 (txs [])]]) (σ.length+1) b qe (g1 _ _ _ _);simp -implicitDefEqProofs only[mkE,go_sem,d0,z3d,g0,g1,g2,g3,s0,s1,s2,s3];refine CO.intro (hru _) ?_;simp -implicitDefEqProofs only[go_sem];refine CO.intro h6 ?_;simp -implicitDefEqProofs only[go_sem];refine CO.intro h7 ?_
    cases hr:ruR b with
    |none =>
     have hb2:=hS.2 hr;obtain⟨qa,qb⟩:=qe;simp only at hb2;subst hb2;simp -implicitDefEqProofs only[go_sem,g0,g1,g2,g3,s0,s1,s2,s3];exact Fini.trim2 (σ':=σ) (ex:=[_,_,_]) (by simp -implicitDefEqProofs only[go_sem,resA,z01,rvA,oneOf,g0];rfl) rfl (Nat.le_refl _) (by unfold readV;exact z1n (z4j _)) hbel
    |some p =>
     obtain⟨M,t⟩:=p;have hb2:=hS.1 M t hr;simp only[Prod.mk.injEq]at hb2;obtain⟨rfl,rfl⟩:=hb2;simp -implicitDefEqProofs only[go_sem,g0,g1,g2,g3,s0,s1,s2,s3];exact Fini.trim2 (σ':=σ) (ex:=[_,_,_]) (by simp -implicitDefEqProofs only[go_sem,resA,z01,rvA,oneOf,g0];rfl) rfl (Nat.le_refl _) (by unfold readV;exact z1n (z9t _ _)) hbel
   |false =>
    rw[zd3 _ hem,zd4 hem];have ne32:(σ.length+3≠σ.length+2)=True:=eq_true (by omega)
    have h6:=z0a (σ++[Z6,rob b q,.box [mlV m1,mlV m2,Bo any,Fl lo,Fl hi,.sl 1 (txs l)],.dead]) (σ.length+1) b q ok (g1 _ _ _ _) hit hb;rw[s1]at h6;generalize took q 0 ok=qe at h6 hS;have h7:=z3p (σ++[Z6,rob b qe,.box [mlV m1,mlV m2,Bo any,Fl lo,Fl hi,.sl 1 (txs l)],.dead]) (σ.length+1) b qe (g1 _ _ _ _);simp -implicitDefEqProofs only[mkE,go_sem,d0,z0L,ne32,g0,g1,g2,g3,s0,s1,s2,s3];refine CO.intro (hru _) ?_;simp -implicitDefEqProofs only[go_sem];refine CO.intro h6 ?_;simp -implicitDefEqProofs only[go_sem];refine CO.intro h7 ?_
    cases hr:ruR b with
    |none =>
     have hb2:=hS.2 hr;obtain⟨qa,qb⟩:=qe;simp only at hb2;subst hb2;simp -implicitDefEqProofs only[go_sem,g0,g1,g2,g3,s0,s1,s2,s3];exact Fini.trim2 (σ':=σ) (ex:=[_,_,_,_]) (by simp -implicitDefEqProofs only[go_sem,resA,z01,rvA,oneOf,g0];rfl) rfl (Nat.le_refl _) (by unfold readV;exact z1n (z4j _)) hbel
    |some p =>
     obtain⟨M,t⟩:=p;have hb2:=hS.1 M t hr;simp only[Prod.mk.injEq]at hb2;obtain⟨rfl,rfl⟩:=hb2;simp -implicitDefEqProofs only[go_sem,g0,g1,g2,g3,s0,s1,s2,s3];exact Fini.trim2 (σ':=σ) (ex:=[_,_,_,_]) (by simp -implicitDefEqProofs only[go_sem,resA,z01,rvA,oneOf,g0];rfl) rfl (Nat.le_refl _) (by unfold readV;exact z1n (z9t _ _)) hbel
theorem z6J (b:Byt) (hb:b.length≤50000):Ans Tryz.prog 126 [.sl 1 (byv b)] σ (readV (ruR b) b ruV (ruV noRu)) σ:=by
 refine(z9u σ b hb).subR ?_;unfold readV
 cases ruR b with
 |none=>exact .tup (.cons z7n (.refl _))
 |some p=>exact .refl _
end
end Go.Proofs.YteakobbdgehlgaaGreatDoor
namespace Go.Ab
open Go Go.ChangeShapes Go.WideShapes
theorem Reads.weak {P:Program} {t:TypeId} {f:Nat} {Q Q':List AV→Prop} (h:Reads P t f Q) (hq:∀xs,Q xs→∃ys,Q' ys∧Subs xs ys):Reads P t f Q':=by
 intro H enc W cs x hx;obtain⟨xs,h1,h2⟩:=h H enc W cs x hx;obtain⟨ys,h3,h4⟩:=hq xs h2;exact⟨ys,h4.reps h1,h3⟩
def zht:List AV→Prop:=fun xs=>∃n:Nat,xs=[.pl (.float .f64 n)]
theorem Reads.float {P:Program} {t:TypeId} (ht:P.underlying t=some (.float .f64)) (f:Nat):Reads P t f zht:=by
 intro H enc W cs x h
 have:∃n,cs=[.float .f64 n]:=by
  cases f with
  |zero=>simp[DataW.trod]at h
  |succ n =>
   unfold DataW.trod at h;rw[ht]at h;split at h<;>simp_all
 obtain⟨n,rfl⟩:=this;exact⟨_,z3b (.pl _),n,rfl⟩
def QSl (sz:Nat) (ag:Bool) (Q:List AV→Prop):List AV→Prop:=fun xs=>∃ys:List (List AV),(∀y∈ys,Q y)∧ys.length≤maxLen∧xs=[.sl sz (ys.map (wrapC ag))]
theorem QSlice.weak {sz:Nat} {ag:Bool} {Q:List AV→Prop} (xs:List AV) (h:QSlice sz ag Q xs):∃ys,QSl sz ag Q ys∧Subs xs ys:=by
 rcases h with rfl|⟨ys,h1,h2,rfl⟩
 · exact⟨_,⟨[],by simp,by simp,rfl⟩,.cons (.nils sz) .nil⟩
 · exact⟨_,⟨ys,h1,h2,rfl⟩,Subs.refl _⟩
end Go.Ab
namespace Go.Proofs.YteakobbdgehlgaaGreatDoor
open Go Go.Ab Go.ChangeShapes Go.WideShapes Go.ChangeAt Go.RowKit
set_option maxRecDepth 100000
def QMat:List AV→Prop:=fun xs=>∃d:Int×Int×Int,xs=[I d.1,I d.2.1,I d.2.2]
theorem zd5 (f:Nat):Reads Tryz.prog 162 f QMat:=by
 cases f with
 |zero=>exact Reads.zero
 |succ f =>
  have h:=Reads.struct (P:=Tryz.prog) (t:=162) (f:=f) (Qs:=[QInt .i64,QInt .i64,QInt .i64]) Tryz.underlying162 (by kernel_rfl) rfl (by
   intro p hp;simp only[List.zip_cons_cons,List.zip_nil_right,List.mem_cons,List.not_mem_nil,or_false]at hp;rcases hp with rfl|rfl|rfl
   · exact Reads.int Tryz.underlying3 f
   · exact Reads.int Tryz.underlying3 f
   · exact Reads.int Tryz.underlying3 f)
  refine h.mono fun xs hq=>?_
  obtain⟨_,b,rfl,⟨k,_,rfl⟩,_,d,rfl,⟨n,_,rfl⟩,_,_,rfl,⟨v,_,rfl⟩,rfl⟩:=hq;exact⟨(k,n,v),rfl⟩
theorem zaw:∀{ys:List (List AV)},(∀y∈ys,QMat y)→∃ds:List (Int×Int×Int),ds.length=ys.length∧ys.map (wrapC true)=ds.map dv
 |[],_=>⟨[],rfl,rfl⟩
 |y::ys,h=>by
  obtain⟨d,rfl⟩:=h y List.mem_cons_self;obtain⟨ds,hl,hns⟩:=zaw fun y hy=>h y (List.mem_cons_of_mem _ hy)
  exact⟨d::ds,by simp[hl],by rw[List.map_cons,hns];rfl⟩
theorem zd6:∀{ys:List (List AV)},(∀y∈ys,QInt .i64 y)→∃ns:List Int,ys.map (wrapC false)=ns.map I
 |[],_=>⟨[],rfl⟩
 |y::ys,h=>by
  obtain⟨n,_,rfl⟩:=h y List.mem_cons_self;obtain⟨ns,hns⟩:=zd6 fun y hy=>h y (List.mem_cons_of_mem _ hy)
  exact⟨n::ns,by rw[List.map_cons,hns];rfl⟩
def QMats:List AV→Prop:=fun xs=>∃ds:List (Int×Int×Int),ds.length≤9223372036854775807∧xs=[.sl 3 (ds.map dv)]
def QInts:List AV→Prop:=fun xs=>∃ns:List Int,xs=[.sl 1 (ns.map I)]
theorem z4C (f:Nat):Reads Tryz.prog 35 f QMats:=by
 cases f with
 |zero=>exact Reads.zero
 |succ f =>
  refine((Reads.slice (sz:=3) true Tryz.underlying35 (by kernel_rfl) (by decide) (zd5 f) (fun _ _ _=>rfl)).weak QSlice.weak).mono fun xs hq=>?_
  obtain⟨ys,h1,h2,rfl⟩:=hq;obtain⟨ds,hl,e⟩:=zaw h1;have hml:maxLen=9223372036854775807:=by decide
  exact⟨ds,by omega,by rw[e]⟩
theorem z6K (f:Nat):Reads Tryz.prog 36 f QInts:=by
 cases f with
 |zero=>exact Reads.zero
 |succ f =>
  refine((Reads.slice (sz:=1) false Tryz.underlying36 (by kernel_rfl) (by decide) (Reads.int Tryz.underlying3 f) (fun y hy _=>by obtain⟨n,_,rfl⟩:=hy;rfl)).weak QSlice.weak).mono fun xs hq=>?_
  obtain⟨ys,h1,h2,rfl⟩:=hq;obtain⟨ds,e⟩:=zd6 h1;exact⟨ds,by rw[e]⟩
structure RuD where
 ds:List (Int×Int×Int)
 es:List (Int×Int×Int)
 sel:Int
 lo:Nat
 hi:Nat
 ns:List Int
 hd:ds.length≤9223372036854775807
 he:es.length≤9223372036854775807
def duC (d:RuD):List AV:=[.sl 3 (d.ds.map dv),.sl 3 (d.es.map dv),I d.sel,Fl d.lo,Fl d.hi,.sl 1 (d.ns.map I)]
def duV (d:RuD):AV:=.agg (duC d)
section
variable {H:Type} {enc:TypeId×Value→H} {W:World} {base:Nat} {v:Value} {d:DataW H} {ps:List MemPlace}
theorem zgp (hv:Value.okWide Tryz.prog W .any base 3 v) (h:DataW.Trod enc Tryz.prog W 0 (fun _=>true) true 3 v d ps):∃n:Int,Rep noM noR W (I n) v:=by
 obtain⟨n,rfl⟩:=okWide_int Tryz.underlying3 hv;obtain⟨x,hx,m,hm,e⟩:=Reads.arg (P:=Tryz.prog) (t:=3) (fun f=>Reads.int Tryz.underlying3 f) rfl h
 simp only[List.cons.injEq,and_true]at e;subst e;exact⟨m,hx⟩
end
end Go.Proofs.YteakobbdgehlgaaGreatDoor
namespace Go.Proofs.YteakobbdgehlgaaGreatDoor
open Go Go.Ab Go.Cod
set_option maxRecDepth 100000
def z3U (d:RuD):RuM:=⟨mustL true (z0y d.ds []),mustL true (z0y d.es []),(z0Z d.sel d.lo d.hi).1,(z0Z d.sel d.lo d.hi).2.1,(z0Z d.sel d.lo d.hi).2.2,z3T d.ns⟩
theorem zeB (σ:St) (d:RuD):Ans Tryz.prog 89 [duV d] σ (ruV (z3U d)) σ :=
 zgo σ d.ds d.es d.sel d.lo d.hi d.ns (z0Z d.sel d.lo d.hi) _ _ (fun σ=>z3t σ true d.ds d.hd) (fun σ=>z3t σ true d.es d.he)
  (fun n=>z3S n _) (fun n=>z3S n _) (fun σ=>z7j σ _ _ _)
def subsL:List ByteArray→List (List ByteArray)
 |[]=>[[]]
 |x::xs=>subsL xs++(subsL xs).map fun l=>x::l
theorem z60:∀{l r:List ByteArray},l.Sublist r→l∈subsL r
 |_,_,.slnil=>by simp[subsL]
 |l,x::r,.cons _ h=>List.mem_append_left _ (z60 h)
 |x::l,_::r,.cons_cons _ h=>List.mem_append_right _ (List.mem_map.2 ⟨l,z60 h,rfl⟩)
theorem z7o (ns:List Int):∀(r e:List ByteArray),∃l,eqGo ns r e=e++l∧l.Sublist r
 |[],e=>⟨[],by simp[eqGo],.slnil⟩
 |s::r,e=>by
  rw[eqGo];split
  · cases hasN (ns.take 9) s with
    |true =>
     obtain⟨l,h1,h2⟩:=z7o ns r (e++[s]);exact⟨s::l,by rw[if_pos rfl,h1];simp,.cons_cons _ h2⟩
    |false =>
     obtain⟨l,h1,h2⟩:=z7o ns r e;exact⟨l,by rw[if_neg Bool.false_ne_true,h1],.cons _ h2⟩
  · exact⟨[],by simp,List.nil_sublist _⟩
theorem zax (ns:List Int):∀(r e:List ByteArray),e.length≤4→(eqGo ns r e).length≤4
 |[],e,h=>by simpa[eqGo] using h
 |s::r,e,h=>by
  rw[eqGo];split
  · refine zax ns r _ ?_;split
    · simp;omega
    · omega
  · exact h
theorem subs_ok:∀l∈subsL nm5,l.length≤4→eqB l=true:=by decide +kernel
theorem z9v (ns:List Int):(z3T ns).Sublist nm5:=by
 obtain⟨l,h1,h2⟩:=z7o ns nm5 [];unfold z3T;rw[h1];exact h2
theorem z9w (ns:List Int):(z3T ns).length≤4:=zax ns nm5 [] (by simp)
theorem zgq {e:List ByteArray} (ns:List Int) (h:e.Sublist (z3T ns)):eqB e=true :=
 subs_ok e (z60 (h.trans (z9v ns))) (by have:=h.length_le;have:=z9w ns;omega)
end Go.Proofs.YteakobbdgehlgaaGreatDoor
namespace Go.Proofs.YteakobbdgehlgaaGreatDoor
open Go Go.Ab Go.Cod Go.ChangeShapes Go.WideShapes Go.ChangeAt Go.RowKit
set_option maxRecDepth 100000
theorem wf8 {n:Int} (h:(Lit.int .u8 n).wf=true):0≤n∧n<256:=by
 simp[Lit.wf,IntKind.min,IntKind.max,IntKind.bits,IntKind.signed]at h;omega
theorem zd7:∀{ys:List (List AV)},(∀y∈ys,QInt .u8 y)→∃b:Byt,ys.map (wrapC false)=byv b
 |[],_=>⟨[],rfl⟩
 |y::ys,h=>by
  obtain⟨m,hm,rfl⟩:=h y List.mem_cons_self;obtain⟨b,hb⟩:=zd7 (ys:=ys) (fun z hz=>h z (List.mem_cons_of_mem _ hz))
  obtain⟨h0,h1⟩:=wf8 hm;obtain⟨n,rfl⟩:=Int.eq_ofNat_of_zero_le h0;refine⟨n.toUInt8::b,?_⟩;rw[List.map_cons,hb,z4W,←bc_of (show n<256 by omega)]
  rfl
end Go.Proofs.YteakobbdgehlgaaGreatDoor
namespace Go.Proofs.YteakobbdgehlgaaGreatDoor
open Go Go.Ab Go.Cod
set_option maxRecDepth 100000
theorem zeC:∀n∈names,nameB n=true:=by decide +kernel
theorem zgr:∀p∈pats,(z2n p).2=true:=by decide +kernel
theorem zeD:∀p∈vals8,p.size≤24:=by decide +kernel
theorem zgs {x:Mz} (h:MOK x):isB x.1 x.2.1 x.2.2=true:=by
 unfold isB;rw[zeC _ h.nm,Bool.true_and];have h1:=h.lo;have h4:=h.hi;by_cases h3:x.1<3
 · have hl:likeB x.1=false:=by unfold likeB;rw[Bool.or_eq_false_iff];exact⟨by simp;omega,by simp;omega⟩
   rw[hl];simp only[Bool.false_eq_true,if_false,Bool.and_eq_true,Bool.or_eq_true,beq_iff_eq,decide_eq_true_eq];exact⟨by omega,zeD _ (h.low h3)⟩
 · have hl:likeB x.1=true:=by unfold likeB;rw[Bool.or_eq_true];simp only[beq_iff_eq];omega
   rw[hl];simp only[if_true];exact zgr _ (h.high h3)
theorem zgt (x y:Mz):z2W x y=z3s x y:=by
 unfold z2W z3s;have:(x.1 != y.1)= !(x.1==y.1):=rfl;rw[this]
theorem zeE {M:List Mz} (h5:M.length≤5) (ho:∀y∈M,MOK y) (ha:Adj M):listB M=true:=by
 unfold listB;rw[decide_eq_true h5,Bool.true_and];refine List.all_eq_true.2 fun i hi=>?_
 have hi:=List.mem_range.1 hi;have e:M.getD i noM3=M[i]:=by rw[List.getD_eq_getElem?_getD,List.getElem?_eq_getElem hi];rfl
 unfold okL isM;rw[e,zgs (ho _ (List.getElem_mem hi)),Bool.true_and]
 cases i with
 |zero=>rfl
 |succ i =>
  have e2:M.getD (i+1-1) noM3=M[i]:=by rw[List.getD_eq_getElem?_getD,Nat.add_sub_cancel,List.getElem?_eq_getElem (by omega)];rfl
  rw[e2];have:=ha i M[i] M[i+1] (by simp) (by simp[hi])
  rw[zgt]at this;rw[this];simp
theorem z6L (ds:List (Int×Int×Int)):listB (z0y ds [])=true:=by
 obtain⟨h1,h2,h3⟩:=zcZ ds;exact zeE h1 h2 h3
end Go.Proofs.YteakobbdgehlgaaGreatDoor
namespace Go.Proofs.YteakobbdgehlgaaGreatDoor
open Go Go.Ab Go.Cod Ieee
set_option maxRecDepth 100000
theorem zhu (p q:Int) (h:(some (compare q p)==some Ordering.lt)=false):(some (compare p q)==some Ordering.lt||some (compare p q)==some Ordering.eq)=true:=by
 simp only[compare,compareOfLessAndEq]at h⊢;by_cases h1:q<p
 · rw[if_pos h1]at h;exact absurd h (by decide)
 · by_cases h2:p<q
   · rw[if_pos h2];rfl
   · have:p=q:=by omega
     rw[if_neg h2,if_pos this];rfl
theorem zgu (a b:Nat) (h1:nanF a=false) (h2:nanF b=false) (h3:ltF b a=false):leF a b=true:=by
 unfold nanF at h1 h2;unfold ltF at h3;unfold leF;unfold Format.order at *;generalize FloatKind.f64.format.read a=x at *;generalize FloatKind.f64.format.read b=y at *
 cases x with
 |nan s m=>simp[Datum.order]at h1
 |infinity s =>
  cases y with
  |nan t n=>simp[Datum.order]at h2
  |infinity t=>revert h3;cases s<;>cases t<;>decide
  |number t n j =>
   revert h3;cases s<;>simp[Datum.order]
 |number s m i =>
  cases y with
  |nan t n=>simp[Datum.order]at h2
  |infinity t =>
   revert h3;cases t<;>simp[Datum.order]
  |number t n j =>
   simp only[Datum.order]at h3⊢;rw[show min j i=min i j from Int.min_comm j i]at h3
   exact zhu _ _ h3
theorem z8m:bitsF 0=0:=by decide +kernel
theorem zay (sel:Int) (lo hi:Nat):mayB (z0Z sel lo hi).1 (z0Z sel lo hi).2.1 (z0Z sel lo hi).2.2=true:=by
 unfold z0Z;split
 · simp only[mayB,z8m];rfl
 · rename_i h
   have hn:nanF lo=false∧nanF hi=false:=by
    cases h1:nanF lo<;>cases h2:nanF hi<;>simp_all
   split
   · rename_i h3
     have:leF hi lo=true:=by
      unfold ltF at h3;unfold leF;rw[h3];rfl
     simpa[mayB] using this
   · rename_i h3;have:leF lo hi=true:=zgu lo hi hn.1 hn.2 (by simpa using h3)
     simpa[mayB] using this
theorem zeF:∀n∈names,n.size≤100000:=by decide +kernel
theorem z61 (ds:List (Int×Int×Int)):listB (mustL true (z0y ds []))=true∧((((mustL true (z0y ds [])).length:Nat):Int)==0)=false∧∀x∈mustL true (z0y ds []),x.2.1.size≤100000:=by
 have hd:listB [(1,⟨#[115,101,118]⟩,⟨#[97]⟩)]=true:=by decide +kernel
 cases hm:z0y ds [] with
 |nil =>
  refine⟨hd,by decide,fun x hx=>?_⟩
  have:x=(1,⟨#[115,101,118]⟩,⟨#[97]⟩):=by simpa[mustL] using hx
  subst this
  decide
 |cons y l =>
  have h:=z6L ds;obtain⟨_,h2,_⟩:=zcZ ds;rw[hm]at h h2;refine⟨h,by simp[mustL];omega,fun x hx=>?_⟩
  have hx':x∈y::l:=by simpa[mustL] using hx
  exact zeF _ (h2 x hx').nm
theorem zeG (d:RuD):ruIs (z3U d)=true:=by
 have h1:=z61 d.ds;have h2:=z61 d.es;have h3:=zay d.sel d.lo d.hi;have h4:=zgq d.ns (List.Sublist.refl _);unfold ruIs z3U;simp only;rw[h1.1,h1.2.1,h2.1,h2.2.1,h3,h4];rfl
end Go.Proofs.YteakobbdgehlgaaGreatDoor
namespace Go.Proofs.YteakobbdgehlgaaGreatDoor
open Go Go.Ab Go.Cod
set_option maxRecDepth 100000
section
variable (σ:St)
theorem z0O (a:Nat):Ans Tryz.prog 83 [Fl a] σ (UN (bitsF a)) σ:=by
 refine Ans.of_run t83 ?_;unfold bitsF;simp -implicitDefEqProofs only[c83,r83,go_sem,z53]
 cases nanF a with
 |true =>
  simp -implicitDefEqProofs only[go_sem];exact Fini.ret rfl
 |false =>
  simp -implicitDefEqProofs only[go_sem];refine CO.intro (z5S σ a) ?_;simp -implicitDefEqProofs only[go_sem];exact Fini.ret rfl
theorem z1Z (any:Bool) (lo hi:Nat):Ans Tryz.prog 107 [.agg [Bo any,Fl lo,Fl hi]] σ (Bo (mayB any lo hi)) σ:=by
 refine Ans.of_run t107 ?_;unfold mayB
 cases any with
 |true =>
  simp -implicitDefEqProofs only[c107,r107,go_sem];refine CO.intro (z0O σ lo) ?_
  cases h:(((bitsF lo:Nat):Int)==0) with
  |false =>
   simp -implicitDefEqProofs only[go_sem,h];exact Fini.ret rfl
  |true =>
   simp -implicitDefEqProofs only[go_sem,h];refine CO.intro (z0O σ hi) ?_;simp -implicitDefEqProofs only[go_sem,h];exact Fini.ret rfl
 |false =>
  simp -implicitDefEqProofs only[c107,r107,go_sem,zcN];exact Fini.ret rfl
structure RSm (r:RuM):Prop where
 src:∀x∈r.src,x.2.1.size≤100000
 tgt:∀x∈r.tgt,x.2.1.size≤100000
 eq:∀s∈r.eq,s.size≤100000
theorem z1D (r:RuM) (hr:RSm r):Ans Tryz.prog 108 [ruV r] σ (Bo (ruIs r)) σ:=by
 obtain⟨src,tgt,any,lo,hi,eq⟩:=r;obtain⟨hs,ht,he⟩:=hr;simp only at hs ht he;have d4:decide ((4:Int)<eq.length)=decide (4<eq.length):=decNN 4 _;refine Ans.of_run t108 ?_;unfold ruIs ruV;simp only
 cases h1:(((src.length:Nat):Int)==0) with
 |true =>
  simp -implicitDefEqProofs only[c108,r108,go_sem,z0r,h1];exact Fini.ret rfl
 |false =>
 cases h2:(((tgt.length:Nat):Int)==0) with
 |true =>
  simp -implicitDefEqProofs only[c108,r108,go_sem,z0r,h1,h2];exact Fini.ret rfl
 |false =>
 simp -implicitDefEqProofs only[c108,r108,go_sem,z0r,h1,h2];refine CO.intro (z1e σ src hs) ?_
 cases h3:listB src with
 |false =>
  simp -implicitDefEqProofs only[go_sem];exact Fini.ret rfl
 |true =>
 simp -implicitDefEqProofs only[go_sem];refine CO.intro (z1e σ tgt ht) ?_
 cases h4:listB tgt with
 |false =>
  simp -implicitDefEqProofs only[go_sem];exact Fini.ret rfl
 |true =>
 simp -implicitDefEqProofs only[go_sem];refine CO.intro (z1Z σ any lo hi) ?_
 cases h5:mayB any lo hi with
 |false =>
  simp -implicitDefEqProofs only[go_sem];exact Fini.ret rfl
 |true =>
 unfold eqB;by_cases h6:eq.length≤4
 · have x4:decide (4<eq.length)=false:=decide_eq_false (by omega)
   rw[decide_eq_true h6];simp -implicitDefEqProofs only[go_sem,z0L,d4,x4];refine Go.Ab.L.scan eq.length (eqOk eq) (fun i=>mkE 70 [(1,.rp [.sl 3 (mvs3 src),.sl 3 (mvs3 tgt),Bo any,Fl lo,Fl hi,.sl 1 (txs eq)]),(3,I i)]) (fun _=>σ) ?_ ?_ rfl rfl
   · intro i hi hp J hJ;have hx:=txs_D eq i hi
     have hsz:(eq.getD i ⟨#[]⟩).size≤100000:=by
      rw[List.getD_eq_getElem?_getD,List.getElem?_eq_getElem hi];exact he _ (List.getElem_mem hi)
     have hF:eqOk eq i=false→(List.range eq.length).all (eqOk eq)=false:=fun h=>List.all_eq_false.2 ⟨i,List.mem_range.2 hi,by rw[h];decide⟩
     have hin:=wrap_succ (i:=i) (by omega)
     have d0:decide ((0:Int)<i)=decide (0<i):=by rw[Bool.eq_iff_iff];simp
     have hO:eqOk eq i=(nameB (eq.getD i ⟨#[]⟩)&& !(decide (0<i)&&leS (eq.getD i ⟨#[]⟩) (eq.getD (i-1) ⟨#[]⟩))):=rfl;rw[hO]at hJ hF;have hnm:=fun σ=>z5Q σ (eq.getD i ⟨#[]⟩) hsz
     simp -implicitDefEqProofs only[mkE,go_sem,z0L,z0b hi,dec_lt hi,hx,z00]
     first|refine CD.intro (hnm _) ?_|refine CS.intro hnm ?_
     generalize eq.getD i ⟨#[]⟩=s at hJ hF hx
     cases hb:nameB s with
     |false =>
      rw[hb]at hF;rw[hF rfl];simp -implicitDefEqProofs only[go_sem];exact Fini.ret rfl
     |true =>
      rw[hb]at hJ hF;by_cases hz:i=0
      · subst hz;have hgo:=hJ rfl;simp -implicitDefEqProofs only[go_sem,d0,hin];exact hgo
      · have hpos:decide (0<i)=true:=decide_eq_true (by omega)
        have hx1:=txs_D eq (i-1) (by omega)
        have w1:IntKind.i64.wrap ((i:Int)-1)=((i-1:Nat):Int):=by rw[wrapN (by omega) (by omega)];omega
        have hlt1:(((i-1:Nat):Int)<eq.length)=True:=by simp;omega
        rw[hpos]at hJ hF;generalize eq.getD (i-1) ⟨#[]⟩=s1 at hJ hF hx1;have hle:(Op.bytesLess s.toList s1.toList||s.toList==s1.toList)=leS s s1:=rfl;simp -implicitDefEqProofs only[go_sem,d0,hpos,w1,z0L,hlt1,hx1,hx,z0b hi,hle]
        cases h7:leS s s1 with
        |true =>
         rw[h7]at hF;rw[hF rfl];simp -implicitDefEqProofs only[go_sem];exact Fini.ret rfl
        |false =>
         rw[h7]at hJ;have hgo:=hJ rfl;simp -implicitDefEqProofs only[go_sem,hin];exact hgo
   · intro hp J;have hd:decide ((eq.length:Int)<eq.length)=false:=by simp
     simp -implicitDefEqProofs only[mkE,go_sem,z0L,hd];refine Fini.ret' rfl (z15 ?_);exact(List.all_eq_true.2 fun i hi=>hp i (List.mem_range.1 hi)).symm
 · have x4:decide (4<eq.length)=true:=decide_eq_true (by omega)
   rw[decide_eq_false h6];simp -implicitDefEqProofs only[go_sem,z0L,d4,x4];exact Fini.ret rfl
end
section
variable (σ:St)
theorem z2a (n:Nat):Ans Tryz.prog 82 [UN n] σ (.sl 1 (byv (wrdB n))) σ:=by
 refine Ans.of_run' t82 (fun hbel _=>?_)
 have z8:Int.toNat 8=8:=rfl;simp -implicitDefEqProofs only[c82,r82,go_sem,mks8,z8,g0,s0,List.length_cons,List.length_nil];refine Go.Ab.L.count 8 (fun i=>mkE 21 [(0,UN n),(3,.osl σ.length 8),(4,I i)]) (fun i=>σ++[.row 1 (fillW n i)]) ?_ ?_ rfl rfl
 · intro i hi J hJ;have hl:=z4i n i (by omega)
   have d0:decide ((i:Int)<8)=true:=by simp;omega
   have w1:IntKind.i64.wrap (8*(i:Int))=((8*i:Nat):Int):=by rw[wrapN (by omega) (by omega)];push_cast;rfl
   have w2:IntKind.i64.wrap (56-((8*i:Nat):Int))=((56-8*i:Nat):Int):=by rw[wrapN (by omega) (by omega)];omega
   have w3:=z1v (n:=56-8*i) (by omega)
   have h3:=shrN n (56-8*i) (by omega)
   rw[Int.toNat_natCast]at h3;have hlt:((i:Int)<((8:Nat):Int))=True:=eq_true (by omega)
   have hget:(fillW n i)[i]?=some Zb:=z8f n i hi;have hin:=wrap_succ (i:=i) (by omega)
   have hset:(fillW n i).set i (.pl (.int .u8 ((n/2^(56-8*i)).toUInt8.toNat:Nat)))=fillW n (i+1):=z8e n i hi;simp -implicitDefEqProofs only[mkE,go_sem,d0,w1,w2,w3,h3,zfw,g0,s0,hl,hin,hset,hlt,hget];exact hJ
 · intro J;have hl:=z4i n 8 (by omega)
   have d0:decide (((8:Nat):Int)<8)=false:=by decide
   have e8:fillW n 8=byv (wrdB n):=by unfold fillW;rw[List.take_of_length_le (by rw[z05,wrdB_len];omega)];simp
   simp -implicitDefEqProofs only[mkE,go_sem,d0,g0,s0,hl,e8];exact Fini.trim2 (σ':=σ) rfl rfl (Nat.le_refl _) (z1x _ _) hbel
theorem z3F (x:Bnd):Ans Tryz.prog 79 [bandV x] σ (.sl 1 (byv (putBd x))) σ:=by
 obtain⟨any,lo,hi⟩:=x;refine Ans.of_run' t79 (fun hbel _=>?_)
 unfold bandV putBd
 cases any with
 |true =>
  simp -implicitDefEqProofs only[c79,r79,go_sem];exact Fini.ret rfl
 |false =>
  have i1:=fun s=>z0O s lo
  have i2:=fun s=>z0O s hi
  have i3:=fun s=>z2a s (bitsF lo)
  have i4:=fun s=>z2a s (bitsF hi)
  have l1:(wrdB (bitsF lo)).length=8:=rfl;have l2:(wrdB (bitsF hi)).length=8:=rfl;unfold putV;generalize wrdB (bitsF lo)=a at i3 l1⊢;generalize wrdB (bitsF hi)=c at i4 l2⊢;have p1:(1+8≤2^32)=True:=eq_true (by decide)
  have p2:(1+8+8≤2^32)=True:=eq_true (by decide)
  simp -implicitDefEqProofs only[c79,r79,go_sem,z00]
  first|refine CD.intro (i1 _) ?_|refine CS.intro i1 ?_
  simp -implicitDefEqProofs only[go_sem,z00]
  first|refine CD.intro (i3 _) ?_|refine CS.intro i3 ?_
  simp -implicitDefEqProofs only[go_sem,z00,g0,s0,z05,z0A,bc,l1,p1,List.length_cons,List.length_nil,List.length_append]
  first|refine CD.intro (i2 _) ?_|refine CS.intro i2 ?_
  simp -implicitDefEqProofs only[go_sem,z00]
  first|refine CD.intro (i4 _) ?_|refine CS.intro i4 ?_
  simp -implicitDefEqProofs only[go_sem,z00,g0,s0,z05,z0A,bc,l1,l2,p2,List.length_cons,List.length_nil,List.length_append];exact Fini.trim2 (σ':=σ) (ex:=[_]) (by rw[z4W,z0p];rfl) rfl (Nat.le_refl _) (z1x _ _) hbel
end
end Go.Proofs.YteakobbdgehlgaaGreatDoor
namespace Go.Proofs.YteakobbdgehlgaaGreatDoor.Sha
open Go Go.Ab Go.Cod
set_option maxRecDepth 100000
section
variable (σ:St)
theorem zd8 (w:Nat) (h:w<2^64):Ans Tryz.prog 82 [UN w] σ (.sl 1 (bv (wrdB w))) σ:=z2a σ w
theorem zd9:Ans Tryz.prog 73 [] σ (.agg (s8v firstS)) σ:=by
 refine Ans.of_run' t73 (fun hbel _=>?_)
 simp -implicitDefEqProofs only[c73,r73,go_sem,G0,S0];have ab:=z9T σ.length firstS.l;exact Fini.trim2 (σ':=σ) (ex:=[_]) (by simp -implicitDefEqProofs only[go_sem,resA,z01,rvA,oneOf,G0]<;>rfl) rfl (Nat.le_refl _) ab hbel
def rowD (b:List UInt8) (i:Nat):List UInt8:=b++(128::List.replicate i 0)
theorem z57 (b:List UInt8) (i:Nat):(rowD b i).length=b.length+1+i:=by
 unfold rowD;simp only[List.length_append,List.length_cons,List.length_replicate];omega
theorem z8n (b:List UInt8) (i:Nat):bv (rowD b i)++[Z8]=bv (rowD b (i+1)):=by
 have e:[Z8]=bv [0]:=rfl;rw[e,←z5p];unfold rowD;rw[List.append_assoc,List.cons_append,←List.replicate_succ']
theorem zaz (b:List UInt8):bv (rowD b (padZ b.length))++bv (wrdB (8*b.length))=bv (padB b):=by
 rw[←z5p];unfold rowD padB;rw[List.append_assoc,List.cons_append]
theorem zeH (b:List UInt8) (hb:b.length≤100000):Ans Tryz.prog 72 [.sl 1 (bv b)] σ (.sl 1 (bv (padB b))) σ:=by
 have hl:=z0C b;have hw:=fun s=>zd8 s (8*b.length) (by omega)
 have e0:(bv b).isEmpty=b.isEmpty:=by unfold bv;simp
 have e128:bv b++[AV.pl (.int .u8 128)]=bv (rowD b 0):=by
  have e:[AV.pl (.int .u8 128)]=bv [128]:=rfl;rw[e,←z5p];rfl
 have l1:b.length≤4294967296:=by omega
 have l2:b.length+1≤4294967296:=by omega
 refine Ans.of_run' t72 (fun hbel _=>?_)
 cases hbe:b.isEmpty with
 |true =>
  have hb0:b=[]:=by simpa using hbe
  have e1:(bv b).isEmpty=true:=by rw[hb0];rfl
  have k1:((1:Nat)≤2^32)=True:=eq_true (by decide)
  have e9:[AV.pl (.int .u8 128)]=bv (rowD b 0):=by rw[hb0];rfl
  have h1:AV.osl σ.length 1=AV.osl σ.length (b.length+1):=by rw[hb0];rfl
  simp -implicitDefEqProofs only[c72,r72,go_sem,e1,k1,z1Q];rw[e9,h1];refine Go.Ab.L.count (padZ b.length) (fun i=>mkE 22 [(0,.sl 1 (bv b)),(3,.osl σ.length (b.length+1+i))]) (fun i=>σ++[.row 1 (bv (rowD b i))]) ?_ ?_ rfl rfl
  · intro i hi J hJ;have hm:(((b.length+1+i:Nat):Int)).tmod 64=(((b.length+1+i)%64:Nat):Int):=rfl
    have hn:((((b.length+1+i)%64:Nat):Int) != 56)=true:=by
     have:=z6Z b.length i hi;simp;omega
    have hz:=z3M b.length;have r1:=z57 b i;have r2:=z0C (rowD b i);have r3:=z8n b i;have l3:(b.length+1+i+1≤2^32)=True:=eq_true (by omega)
    simp -implicitDefEqProofs only[mkE,go_sem,hm,hn,r1,r2,r3,l3,G0,S0];exact hJ
  · intro J;have hm:(((b.length+1+padZ b.length:Nat):Int)).tmod 64=(((b.length+1+padZ b.length)%64:Nat):Int):=rfl;rw[z6Y]at hm;have hn:(((56:Nat):Int) != 56)=false:=rfl;have hz:=z3M b.length
    have wd:IntKind.u64.wrap (IntKind.u64.wrap ((b.length:Nat):Int)*8)=((8*b.length:Nat):Int):=by
     have e:IntKind.u64.wrap ((b.length:Nat):Int)=((b.length:Nat):Int):=by simp only[IntKind.wrap,IntKind.bits,IntKind.signed];simp;omega
     rw[e];simp only[IntKind.wrap,IntKind.bits,IntKind.signed];simp;omega
    have r1:=z57 b (padZ b.length);have r2:=z0C (rowD b (padZ b.length));simp -implicitDefEqProofs only[mkE,go_sem,r1,r2,G0,S0,hm,hn,hl,wd];refine CO.intro (hw _) ?_;have r3:=zaz b;have r4:=z0C (wrdB (8*b.length));have r5:=wrdB_len (8*b.length);have l3:(b.length+1+padZ b.length+8≤2^32)=True:=eq_true (by omega)
    have r6:(bv (padB b)).length=b.length+1+padZ b.length+8:=by rw[←r3,List.length_append,r2,r1,r4,r5]
    simp -implicitDefEqProofs only[mkE,go_sem,z1Q,r1,r2,r3,r4,r5,r6,l3,G0,S0];exact Fini.trim2 (σ':=σ) (ex:=[_]) rfl rfl (Nat.le_refl _) (z2Z _ _) hbel
 |false =>
  have e1:(bv b).isEmpty=false:=by rw[e0,hbe]
  have k1:(b.length≤2^32)=True:=eq_true (by omega)
  have k2:(b.length+1≤2^32)=True:=eq_true (by omega)
  simp -implicitDefEqProofs only[c72,r72,go_sem,hl,e1,z1Q,k1,k2,G0,S0,e128];refine Go.Ab.L.count (padZ b.length) (fun i=>mkE 22 [(0,.sl 1 (bv b)),(3,.osl σ.length (b.length+1+i))]) (fun i=>σ++[.row 1 (bv (rowD b i))]) ?_ ?_ rfl rfl
  · intro i hi J hJ;have hm:(((b.length+1+i:Nat):Int)).tmod 64=(((b.length+1+i)%64:Nat):Int):=rfl
    have hn:((((b.length+1+i)%64:Nat):Int) != 56)=true:=by
     have:=z6Z b.length i hi;simp;omega
    have hz:=z3M b.length;have r1:=z57 b i;have r2:=z0C (rowD b i);have r3:=z8n b i;have l3:(b.length+1+i+1≤2^32)=True:=eq_true (by omega)
    simp -implicitDefEqProofs only[mkE,go_sem,hm,hn,r1,r2,r3,l3,G0,S0];exact hJ
  · intro J;have hm:(((b.length+1+padZ b.length:Nat):Int)).tmod 64=(((b.length+1+padZ b.length)%64:Nat):Int):=rfl;rw[z6Y]at hm;have hn:(((56:Nat):Int) != 56)=false:=rfl;have hz:=z3M b.length
    have wd:IntKind.u64.wrap (IntKind.u64.wrap ((b.length:Nat):Int)*8)=((8*b.length:Nat):Int):=by
     have e:IntKind.u64.wrap ((b.length:Nat):Int)=((b.length:Nat):Int):=by simp only[IntKind.wrap,IntKind.bits,IntKind.signed];simp;omega
     rw[e];simp only[IntKind.wrap,IntKind.bits,IntKind.signed];simp;omega
    have r1:=z57 b (padZ b.length);have r2:=z0C (rowD b (padZ b.length));simp -implicitDefEqProofs only[mkE,go_sem,r1,r2,G0,S0,hm,hn,hl,wd];refine CO.intro (hw _) ?_;have r3:=zaz b;have r4:=z0C (wrdB (8*b.length));have r5:=wrdB_len (8*b.length);have l3:(b.length+1+padZ b.length+8≤2^32)=True:=eq_true (by omega)
    have r6:(bv (padB b)).length=b.length+1+padZ b.length+8:=by rw[←r3,List.length_append,r2,r1,r4,r5]
    simp -implicitDefEqProofs only[mkE,go_sem,z1Q,r1,r2,r3,r4,r5,r6,l3,G0,S0];exact Fini.trim2 (σ':=σ) (ex:=[_]) rfl rfl (Nat.le_refl _) (z2Z _ _) hbel
end
section
variable (σ:St)
set_option maxHeartbeats 4000000 in
theorem zbq (h:S8) (b:List UInt8) (hb:b.length=64) (hG:∀ex,gloA (σ++ex) 1=some kV):Ans Tryz.prog 74 [.agg (s8v h),.agg (bv b)] σ (.agg (wv (z44 h b))) σ:=by
 have hl:=z0C b;have ha:=bv_all b;have htk:List.take 64 (bv b)=bv b:=List.take_of_length_le (by rw[hl];omega)
 have hz:([.pl (.int .u32 0),.pl (.int .u32 0),.pl (.int .u32 0),.pl (.int .u32 0),.pl (.int .u32 0),.pl (.int .u32 0),.pl (.int .u32 0),.pl (.int .u32 0),.pl (.int .u32 0),.pl (.int .u32 0),.pl (.int .u32 0),.pl (.int .u32 0),.pl (.int .u32 0),.pl (.int .u32 0),.pl (.int .u32 0),.pl (.int .u32 0),.pl (.int .u32 0),.pl (.int .u32 0),.pl (.int .u32 0),.pl (.int .u32 0),.pl (.int .u32 0),.pl (.int .u32 0),.pl (.int .u32 0),.pl (.int .u32 0),.pl (.int .u32 0),.pl (.int .u32 0),.pl (.int .u32 0),.pl (.int .u32 0),.pl (.int .u32 0),.pl (.int .u32 0),.pl (.int .u32 0),.pl (.int .u32 0),.pl (.int .u32 0),.pl (.int .u32 0),.pl (.int .u32 0),.pl (.int .u32 0),.pl (.int .u32 0),.pl (.int .u32 0),.pl (.int .u32 0),.pl (.int .u32 0),.pl (.int .u32 0),.pl (.int .u32 0),.pl (.int .u32 0),.pl (.int .u32 0),.pl (.int .u32 0),.pl (.int .u32 0),.pl (.int .u32 0),.pl (.int .u32 0),.pl (.int .u32 0),.pl (.int .u32 0),.pl (.int .u32 0),.pl (.int .u32 0),.pl (.int .u32 0),.pl (.int .u32 0),.pl (.int .u32 0),.pl (.int .u32 0),.pl (.int .u32 0),.pl (.int .u32 0),.pl (.int .u32 0),.pl (.int .u32 0),.pl (.int .u32 0),.pl (.int .u32 0),.pl (.int .u32 0),.pl (.int .u32 0)]:List AV)=wv (z0e b 0):=rfl;have hh8:s8v h=wv h.l:=rfl;have hA:(s8v h).all AV.one=true:=rfl;refine Ans.of_run' t74 (fun hbel _=>?_)
 simp -implicitDefEqProofs only[c74,r74,go_sem,hl,hb,ha,hA,List.append_assoc,List.cons_append,List.nil_append,List.length_append,List.length_cons,List.length_nil];rw[hz];clear hz;refine Go.Ab.L.count 64 (fun i=>mkE 189 [(2,.rp (s8v h)),(3,.rp (bv b)),(4,.ptr σ.length 0),(5,.ptr (σ.length+1) 0),(6,I i)]) (fun i=>σ++[.box [.pl (.int .u32 0),.pl (.int .u32 0),.pl (.int .u32 0),.pl (.int .u32 0),.pl (.int .u32 0),.pl (.int .u32 0),.pl (.int .u32 0),.pl (.int .u32 0)],.box (wv (z0e b i))]) ?_ ?_ rfl rfl
 · intro i hi J hJ;have hd0:decide ((i:Int)<64)=true:=decide_eq_true (by omega)
   have l4:((i:Int)<((64:Nat):Int))=True:=eq_true (by omega)
   have w1:=z1o b i;have l5:(i≤63)=True:=eq_true (by omega)
   have hp:=fun x=>z7P (w:=z0e b i) (i:=i) (by omega) x
   have p0:∀n:Nat,((0:Int)≤(n:Int))=True:=fun n=>eq_true (Int.natCast_nonneg _)
   have wi:IntKind.i64.wrap ((i:Int)+1)=((i+1:Nat):Int):=by rw[←z0P (n:=i+1) (by omega)];congr 1
   have hw:z0e b (i+1)=(z0e b i).set i (nextW b (z0e b i) i):=rfl;by_cases h16:i<16
   · have hd1:decide ((i:Int)<16)=true:=decide_eq_true (by omega)
     have e1:IntKind.i64.wrap (4*(i:Int))=((4*i:Nat):Int):=by rw[←z0P (n:=4*i) (by omega)];congr 1
     have e2:∀k:Nat,k<4→IntKind.i64.wrap (((4*i:Nat):Int)+(k:Int))=((4*i+k:Nat):Int):=fun k hk=>by rw[←z0P (n:=4*i+k) (by omega)];congr 1
     have f1:=e2 1 (by decide)
     have f2:=e2 2 (by decide)
     have f3:=e2 3 (by decide)
     have l0:(((4*i:Nat):Int)<((64:Nat):Int))=True:=eq_true (by omega)
     have l1:(((4*i+1:Nat):Int)<((64:Nat):Int))=True:=eq_true (by omega)
     have l2:(((4*i+2:Nat):Int)<((64:Nat):Int))=True:=eq_true (by omega)
     have l3:(((4*i+3:Nat):Int)<((64:Nat):Int))=True:=eq_true (by omega)
     have hh:∀k,k<64→(List.drop k (bv b)).head?=some (.pl (.int .u8 (((gB b k).toNat:Nat):Int))):=fun k hk=>by have:=zc5 (b:=b) (i:=k) (by omega);rwa [Nat.mul_one]at this
     have h0:=hh (4*i) (by omega)
     have h1:=hh (4*i+1) (by omega)
     have h2:=hh (4*i+2) (by omega)
     have h3:=hh (4*i+3) (by omega)
     have k1:((1:Nat):Int)=1:=rfl;have k2:((2:Nat):Int)=2:=rfl;have k3:((3:Nat):Int)=3:=rfl;rw[k1]at f1;rw[k2]at f2;rw[k3]at f3;have hn:nextW b (z0e b i) i=word4 (gB b (4*i)) (gB b (4*i+1)) (gB b (4*i+2)) (gB b (4*i+3)):=by unfold nextW;rw[if_pos h16]
     have v1:=V_shl (b32 (gB b (4*i))) 24 (by decide)
     have v2:=V_shl (b32 (gB b (4*i+1))) 16 (by decide)
     have v3:=V_shl (b32 (gB b (4*i+2))) 8 (by decide)
     have t24:Int.toNat 24=24:=rfl;have t16:Int.toNat 16=16:=rfl;have t8:Int.toNat 8=8:=rfl;simp -implicitDefEqProofs only[mkE,go_sem,t24,t16,t8,wi,e1,l5,hp,l4,w1,z1J,G1,S1,v1,v2,v3,Nat.mul_one,h0,h1,h2,h3,f1,f2,f3,hd0,hd1,l0,l1,l2,l3,p0,Int.toNat_natCast,z9R,V_or];unfold word4 at hn;rw[hw,hn]at hJ;exact hJ
   · have hd1:decide ((i:Int)<16)=false:=decide_eq_false (by omega)
     have e:∀m:Nat,m≤i→IntKind.i64.wrap ((i:Int)-(m:Int))=((i-m:Nat):Int):=fun m hm=>by rw[←z0P (n:=i-m) (by omega)];congr 1;omega
     have f1:=e 15 (by omega)
     have f2:=e 2 (by omega)
     have f3:=e 16 (by omega)
     have f4:=e 7 (by omega)
     have k1:((15:Nat):Int)=15:=rfl;have k2:((2:Nat):Int)=2:=rfl;have k3:((16:Nat):Int)=16:=rfl;have k4:((7:Nat):Int)=7:=rfl;rw[k1]at f1;rw[k2]at f2;rw[k3]at f3;rw[k4]at f4;have l:∀m:Nat,(((i-m:Nat):Int)<((64:Nat):Int))=True:=fun m=>eq_true (by omega)
     have hh:∀m:Nat,(List.drop (i-m) (wv (z0e b i))).head?=some (V32 (gW (z0e b i) (i-m))):=fun m=>by rw[List.head?_drop,z3E (by omega)]
     have hn:nextW b (z0e b i) i=gW (z0e b i) (i-16)+sg0 (gW (z0e b i) (i-15))+gW (z0e b i) (i-7)+sg1 (gW (z0e b i) (i-2)):=by unfold nextW;rw[if_neg (by omega)]
     rw[hw,hn]at hJ;unfold sg0 sg1 at hJ;have q7:∀(A:BitVec 32) s,Ans Tryz.prog 100 [V32 A,.pl (.int .u64 7)] s (V32 (ror A 7)) s:=fun A s=>turned_ans s A 7 (by decide) (by decide)
     have q18:∀(A:BitVec 32) s,Ans Tryz.prog 100 [V32 A,.pl (.int .u64 18)] s (V32 (ror A 18)) s:=fun A s=>turned_ans s A 18 (by decide) (by decide)
     have q17:∀(A:BitVec 32) s,Ans Tryz.prog 100 [V32 A,.pl (.int .u64 17)] s (V32 (ror A 17)) s:=fun A s=>turned_ans s A 17 (by decide) (by decide)
     have q19:∀(A:BitVec 32) s,Ans Tryz.prog 100 [V32 A,.pl (.int .u64 19)] s (V32 (ror A 19)) s:=fun A s=>turned_ans s A 19 (by decide) (by decide)
     have t3:Int.toNat 3=3:=rfl;have t10:Int.toNat 10=10:=rfl;have v3:=fun A=>V_shr A 3 (by decide)
     have v10:=fun A=>V_shr A 10 (by decide)
     simp -implicitDefEqProofs only[mkE,go_sem,hd0,hd1,f1,f2,f3,f4,l,p0,G1,S1,w1,z1J,hh,Nat.mul_one,Int.toNat_natCast,l4,l5,hp,wi];refine CO.intro (q7 _ _) ?_;simp -implicitDefEqProofs only[go_sem];refine CO.intro (q18 _ _) ?_;simp -implicitDefEqProofs only[go_sem,V_xor,t3,v3];refine CO.intro (q17 _ _) ?_;simp -implicitDefEqProofs only[go_sem];refine CO.intro (q19 _ _) ?_;simp -implicitDefEqProofs only[go_sem,V_xor,t10,v10,f3,f4,l,p0,G1,S1,w1,z1J,hh,Nat.mul_one,Int.toNat_natCast,l4,l5,hp,wi,V_add];exact hJ
 · intro J0;have hd0:decide (((64:Nat):Int)<64)=false:=rfl;have wl:=z1o b 64;have hr:z44 h b=addTo h.l (rounds (z0e b 64) h 64).l 8:=rfl;rw[hr];generalize z0e b 64=w at wl;have wa:=z7O w;simp -implicitDefEqProofs only[mkE,go_sem,hd0,z4x,z45,z70,List.append_assoc,List.cons_append,List.nil_append,List.length_append,List.length_cons,List.length_nil,G2,S2,List.drop_succ_cons,List.drop_zero,List.drop_nil,List.append_nil];refine Go.Ab.L.count 64 (fun i=>mkE 189 [(2,.rp (s8v h)),(4,.ptr σ.length 0),(5,.ptr (σ.length+1) 0),(11,.ptr (σ.length+2) 0),(12,I i)]) (fun i=>σ++[.box [.pl (.int .u32 0),.pl (.int .u32 0),.pl (.int .u32 0),.pl (.int .u32 0),.pl (.int .u32 0),.pl (.int .u32 0),.pl (.int .u32 0),.pl (.int .u32 0)],.box (wv w),.box (s8v (rounds w h i))]) ?_ ?_ rfl rfl
   · intro i hi J hJ;have hd:decide ((i:Int)<64)=true:=decide_eq_true (by omega)
     generalize hs:rounds w h i=s;have hw:rounds w h (i+1)=rnd (kW i) (gW w i) (rounds w h i):=rfl;rw[hw,hs]at hJ;have l0:((0:Int)<((8:Nat):Int))=True:=eq_true (by decide)
     have n0:Int.toNat 0=0:=rfl;have l1:((1:Int)<((8:Nat):Int))=True:=eq_true (by decide)
     have n1:Int.toNat 1=1:=rfl;have l2:((2:Int)<((8:Nat):Int))=True:=eq_true (by decide)
     have n2:Int.toNat 2=2:=rfl;have l3:((3:Int)<((8:Nat):Int))=True:=eq_true (by decide)
     have n3:Int.toNat 3=3:=rfl;have l4:((4:Int)<((8:Nat):Int))=True:=eq_true (by decide)
     have n4:Int.toNat 4=4:=rfl;have l5:((5:Int)<((8:Nat):Int))=True:=eq_true (by decide)
     have n5:Int.toNat 5=5:=rfl;have l6:((6:Int)<((8:Nat):Int))=True:=eq_true (by decide)
     have n6:Int.toNat 6=6:=rfl;have l7:((7:Int)<((8:Nat):Int))=True:=eq_true (by decide)
     have n7:Int.toNat 7=7:=rfl;have q6:∀(A:BitVec 32) s,Ans Tryz.prog 100 [V32 A,.pl (.int .u64 6)] s (V32 (ror A 6)) s:=fun A s=>turned_ans s A 6 (by decide) (by decide)
     have q11:∀(A:BitVec 32) s,Ans Tryz.prog 100 [V32 A,.pl (.int .u64 11)] s (V32 (ror A 11)) s:=fun A s=>turned_ans s A 11 (by decide) (by decide)
     have q25:∀(A:BitVec 32) s,Ans Tryz.prog 100 [V32 A,.pl (.int .u64 25)] s (V32 (ror A 25)) s:=fun A s=>turned_ans s A 25 (by decide) (by decide)
     have q2:∀(A:BitVec 32) s,Ans Tryz.prog 100 [V32 A,.pl (.int .u64 2)] s (V32 (ror A 2)) s:=fun A s=>turned_ans s A 2 (by decide) (by decide)
     have q13:∀(A:BitVec 32) s,Ans Tryz.prog 100 [V32 A,.pl (.int .u64 13)] s (V32 (ror A 13)) s:=fun A s=>turned_ans s A 13 (by decide) (by decide)
     have q22:∀(A:BitVec 32) s,Ans Tryz.prog 100 [V32 A,.pl (.int .u64 22)] s (V32 (ror A 22)) s:=fun A s=>turned_ans s A 22 (by decide) (by decide)
     have hm:(if IntKind.u32.signed=true then(-1:Int) else IntKind.u32.max)=4294967295:=rfl
     have hK:=fun ex=>hG ex
     have hkv:=zc6 hi;have l64:((i:Int)<((64:Nat):Int))=True:=eq_true (by omega)
     have p0:((0:Int)≤(i:Int))=True:=eq_true (Int.natCast_nonneg _);have hwi:(List.drop i (wv w)).head?=some (V32 (gW w i)):=by rw[List.head?_drop,z3E (by omega)]
     have wi:IntKind.i64.wrap ((i:Int)+1)=((i+1:Nat):Int):=by rw[←z0P (n:=i+1) (by omega)];congr 1
     unfold s8v;simp -implicitDefEqProofs only[mkE,go_sem,hd,G1,S1,G2,S2,l0,l1,l2,l3,l4,l5,l6,l7,n0,n1,n2,n3,n4,n5,n6,n7,Nat.mul_one,List.drop_succ_cons,List.drop_zero,List.head?_cons];refine CD.intro (q6 _ _) ?_;simp -implicitDefEqProofs only[go_sem];refine CD.intro (q11 _ _) ?_;simp -implicitDefEqProofs only[go_sem,V_xor];refine CD.intro (q25 _ _) ?_;simp -implicitDefEqProofs only[go_sem,V_xor,V_and,hm,V_not,V_add,G1,S1,G2,S2,l0,l1,l2,l3,l4,l5,l6,l7,n0,n1,n2,n3,n4,n5,n6,n7,Nat.mul_one,List.drop_succ_cons,List.drop_zero,List.head?_cons,l64,p0,hwi,hK,hkv,Int.toNat_natCast];refine CD.intro (q2 _ _) ?_;simp -implicitDefEqProofs only[go_sem];refine CD.intro (q13 _ _) ?_;simp -implicitDefEqProofs only[go_sem,V_xor];refine CD.intro (q22 _ _) ?_;simp -implicitDefEqProofs only[go_sem,V_xor,V_and,hm,V_not,V_add,G1,S1,G2,S2,l0,l1,l2,l3,l4,l5,l6,l7,n0,n1,n2,n3,n4,n5,n6,n7,Nat.mul_one,List.drop_succ_cons,List.drop_zero,List.head?_cons,l64,p0,wi,Int.toNat_natCast];unfold rnd t1W t2W s8v at hJ;exact hJ
   · intro J1;have hd1:decide (((64:Nat):Int)<64)=false:=rfl;generalize rounds w h 64=x;have hx8:s8v x=wv (addTo h.l x.l 0):=rfl;simp -implicitDefEqProofs only[mkE,go_sem,hd1];rw[hx8];refine Go.Ab.L.count 8 (fun j=>mkE 189 [(2,.rp (s8v h)),(4,.ptr σ.length 0),(11,.ptr (σ.length+2) 0),(17,I j)]) (fun j=>σ++[.box [.pl (.int .u32 0),.pl (.int .u32 0),.pl (.int .u32 0),.pl (.int .u32 0),.pl (.int .u32 0),.pl (.int .u32 0),.pl (.int .u32 0),.pl (.int .u32 0)],.box (wv w),.box (wv (addTo h.l x.l j))]) ?_ ?_ rfl rfl
     · intro j hj J hJ;have hd:decide ((j:Int)<8)=true:=decide_eq_true (by omega)
       have l8:((j:Int)<((8:Nat):Int))=True:=eq_true (by omega)
       have p0:((0:Int)≤(j:Int))=True:=eq_true (Int.natCast_nonneg _);have w1:=z2N h.l x.l rfl j;have h1:(List.drop j (wv (addTo h.l x.l j))).head?=some (V32 (gW (addTo h.l x.l j) j)):=by rw[List.head?_drop,z3E (by omega)]
       have h2:(List.drop j (wv h.l)).head?=some (V32 (gW h.l j)):=by rw[List.head?_drop,z3E (by show j<8;exact hj)]
       have li:(j≤7)=True:=eq_true (by omega)
       have hp:=fun y=>z7P (w:=addTo h.l x.l j) (i:=j) (by omega) y
       have wi:IntKind.i64.wrap ((j:Int)+1)=((j+1:Nat):Int):=by rw[←z0P (n:=j+1) (by omega)];congr 1
       have hw:addTo h.l x.l (j+1)=(addTo h.l x.l j).set j (gW (addTo h.l x.l j) j+gW h.l j):=rfl;rw[hw]at hJ;rw[hh8]at hJ⊢;simp -implicitDefEqProofs only[mkE,go_sem,hd,l8,p0,G1,S1,G2,S2,w1,z1J,h1,h2,Nat.mul_one,Int.toNat_natCast,V_add,li,hp,wi];exact hJ
     · intro J;have hd:decide (((8:Nat):Int)<8)=false:=rfl;have w1:=z2N h.l x.l rfl 8;have a1:=z7O (addTo h.l x.l 8);have k1:=z96 w1;have ab:=z9T σ.length (addTo h.l x.l 8);simp -implicitDefEqProofs only[mkE,go_sem,hd,G0,S0,G1,S1,G2,S2,w1,z1J,a1,k1,List.append_nil,List.drop_succ_cons,List.drop_zero,List.drop_nil];exact Fini.trim2 (σ':=σ) (ex:=[_,_,_]) (by simp -implicitDefEqProofs only[go_sem,resA,z01,rvA,oneOf,G0,w1,z1J,k1]<;>rfl) rfl (Nat.le_refl _) ab hbel
end
def zer64:List UInt8:=List.replicate 64 0
def blk (p:List UInt8) (i:Nat):List UInt8:=(p.drop (64*i)).take 64
def leftB (p:List UInt8) (i:Nat):St:=(List.range i).map fun k=>.box (bv (blk p k))
theorem z8o (p:List UInt8) (i:Nat):(leftB p i).length=i:=by simp[leftB]
theorem zbr (p:List UInt8) (i:Nat):leftB p i++[.box (bv (blk p i))]=leftB p (i+1):=by unfold leftB;rw[List.range_succ,List.map_append];rfl
section
variable (σ:St)
theorem GN (A B x:Ob) (L ex:St) (n:Nat) (h:L.length=n):(σ++A::B::(L++x::ex))[σ.length+(n+1+1)]?=some x:=by
 rw[List.getElem?_append_right (by omega),show σ.length+(n+1+1)-σ.length=n+2 by omega,List.getElem?_cons_succ,List.getElem?_cons_succ,List.getElem?_append_right (by omega),show n-L.length=0 by omega]
 rfl
theorem SN (A B x y:Ob) (L ex:St) (n:Nat) (h:L.length=n):(σ++A::B::(L++x::ex)).set (σ.length+(n+1+1)) y=σ++A::B::(L++y::ex):=by
 rw[List.set_append_right _ _ (by omega),show σ.length+(n+1+1)-σ.length=n+2 by omega,List.set_cons_succ,List.set_cons_succ,List.set_append_right _ _ (by omega),show n-L.length=0 by omega]
 rfl
set_option maxHeartbeats 4000000 in
theorem zaA (b:List UInt8) (hb:b.length≤100000) (hG:∀ex,gloA (σ++ex) 1=some kV):Ans Tryz.prog 42 [.sl 1 (bv b)] σ (.agg (bv (shaB b))) σ:=by
 have hp:=fun s=>zeH s b hb
 have hf:=fun s=>zd9 s
 have h64:=z9W b
 have hple:(padB b).length≤200000:=by
  have:=z3M b.length;unfold padB;simp only[List.length_append,List.length_cons,List.length_replicate,wrdB_len];omega
 unfold shaB;have hpl:(padB b).length=64*((padB b).length/64):=by omega
 generalize padB b=p at hp h64 hpl hple;generalize hn:p.length/64=n at hpl;have hr:=fun ex h bl (hbl:bl.length=64)=>zbq (σ++ex) h bl hbl (fun ex2=>by rw[List.append_assoc];exact hG _)
 have hzz:([.pl (.int .u8 0),.pl (.int .u8 0),.pl (.int .u8 0),.pl (.int .u8 0),.pl (.int .u8 0),.pl (.int .u8 0),.pl (.int .u8 0),.pl (.int .u8 0),.pl (.int .u8 0),.pl (.int .u8 0),.pl (.int .u8 0),.pl (.int .u8 0),.pl (.int .u8 0),.pl (.int .u8 0),.pl (.int .u8 0),.pl (.int .u8 0),.pl (.int .u8 0),.pl (.int .u8 0),.pl (.int .u8 0),.pl (.int .u8 0),.pl (.int .u8 0),.pl (.int .u8 0),.pl (.int .u8 0),.pl (.int .u8 0),.pl (.int .u8 0),.pl (.int .u8 0),.pl (.int .u8 0),.pl (.int .u8 0),.pl (.int .u8 0),.pl (.int .u8 0),.pl (.int .u8 0),.pl (.int .u8 0)]:List AV)=bv zer32:=rfl;refine Ans.of_run' t42 (fun hbel _=>?_)
 simp -implicitDefEqProofs only[c42,r42,go_sem,List.append_assoc,List.cons_append,List.nil_append,List.length_append,List.length_cons,List.length_nil,G0,S0,G1,S1];refine CO.intro (hp _) ?_;simp -implicitDefEqProofs only[go_sem];refine CO.intro (hf _) ?_;simp -implicitDefEqProofs only[go_sem,List.append_assoc,List.cons_append,List.nil_append,List.length_append,List.length_cons,List.length_nil,G0,S0,G1,S1,z4x,z70,List.drop_succ_cons,List.drop_zero,List.drop_nil,List.append_nil];refine Go.Ab.L.count n (fun i=>mkE 47 [(2,.ptr σ.length 0),(3,.sl 1 (bv p)),(4,.ptr (σ.length+1) 0),(5,I ((64*i:Nat):Int))]) (fun i=>σ++(.box (bv zer32)::.box (s8v (z2x p i))::leftB p i)) ?_ ?_ rfl rfl
 · intro i hi J hJ;have a1:IntKind.i64.wrap (((64*i:Nat):Int)+64)=((64*(i+1):Nat):Int):=by simp only[IntKind.wrap,IntKind.bits,IntKind.signed];simp;omega
   have hlb:=z0C p;have hd:decide (((64*(i+1):Nat):Int)≤(p.length:Nat))=true:=decide_eq_true (by omega)
   have hll:=z8o p i;have hbl:(blk p i).length=64:=by unfold blk;rw[List.length_take,List.length_drop];omega
   have hbv:=z0C (blk p i);have hall:=bv_all (blk p i);have hdt:List.drop (64*i) (List.take (64*(i+1)) (bv p))=bv (blk p i):=by rw[List.drop_take,zcd,zcc];unfold blk;congr 2;omega
   have hle:(((64*i:Nat):Int)≤((64*(i+1):Nat):Int)∧((64*(i+1):Nat):Int)≤(p.length:Nat))=True:=eq_true ⟨by omega,by omega⟩
   have p0:∀n:Nat,((0:Int)≤(n:Int))=True:=fun n=>eq_true (Int.natCast_nonneg _)
   have hz64:([.pl (.int .u8 0),.pl (.int .u8 0),.pl (.int .u8 0),.pl (.int .u8 0),.pl (.int .u8 0),.pl (.int .u8 0),.pl (.int .u8 0),.pl (.int .u8 0),.pl (.int .u8 0),.pl (.int .u8 0),.pl (.int .u8 0),.pl (.int .u8 0),.pl (.int .u8 0),.pl (.int .u8 0),.pl (.int .u8 0),.pl (.int .u8 0),.pl (.int .u8 0),.pl (.int .u8 0),.pl (.int .u8 0),.pl (.int .u8 0),.pl (.int .u8 0),.pl (.int .u8 0),.pl (.int .u8 0),.pl (.int .u8 0),.pl (.int .u8 0),.pl (.int .u8 0),.pl (.int .u8 0),.pl (.int .u8 0),.pl (.int .u8 0),.pl (.int .u8 0),.pl (.int .u8 0),.pl (.int .u8 0),.pl (.int .u8 0),.pl (.int .u8 0),.pl (.int .u8 0),.pl (.int .u8 0),.pl (.int .u8 0),.pl (.int .u8 0),.pl (.int .u8 0),.pl (.int .u8 0),.pl (.int .u8 0),.pl (.int .u8 0),.pl (.int .u8 0),.pl (.int .u8 0),.pl (.int .u8 0),.pl (.int .u8 0),.pl (.int .u8 0),.pl (.int .u8 0),.pl (.int .u8 0),.pl (.int .u8 0),.pl (.int .u8 0),.pl (.int .u8 0),.pl (.int .u8 0),.pl (.int .u8 0),.pl (.int .u8 0),.pl (.int .u8 0),.pl (.int .u8 0),.pl (.int .u8 0),.pl (.int .u8 0),.pl (.int .u8 0),.pl (.int .u8 0),.pl (.int .u8 0),.pl (.int .u8 0),.pl (.int .u8 0)]:List AV)=bv zer64:=rfl;have hzl:(bv zer64).length=64:=rfl;have hz1:List.take 0 (bv zer64)=[]:=rfl;have hz2:List.drop 64 (bv zer64)=[]:=rfl;have tk2:List.take 64 (bv (blk p i))=bv (blk p i):=List.take_of_length_le (by rw[hbv,hbl];exact Nat.le_refl _)
   have hmin:Nat.min 64 64=64:=rfl;have gn:=fun A B x L ex h=>GN σ A B x L ex i h
   have sn:=fun A B x y L ex h=>SN σ A B x y L ex i h
   have hst:z2x p (i+1)=toS (z44 (z2x p i) (blk p i)):=rfl;have hre:=fun ex=>hr ex (z2x p i) _ hbl
   have t8:=toS_l (z6n (z2x p i) (blk p i));rw[t8]at hre;rw[hst,←zbr]at hJ;simp -implicitDefEqProofs only[mkE,go_sem,a1,hlb,hd,List.append_assoc,List.cons_append,List.nil_append,List.length_append,List.length_cons,List.length_nil,hll];rw[hz64];simp -implicitDefEqProofs only[go_sem,hzl,hll,gn,sn,hdt,hle,p0,Int.toNat_natCast,hbv,hbl,hall,z1Q,tk2,hmin,hz1,hz2,List.append_nil,List.nil_append,G1,S1,z4x,z45];refine CO.intro (hre _) ?_;simp -implicitDefEqProofs only[go_sem,a1,G1,S1,z4x,z45,z70,z9Y,List.append_nil];exact hJ
 · intro J0;have a1:IntKind.i64.wrap (((64*n:Nat):Int)+64)=((64*n+64:Nat):Int):=by simp only[IntKind.wrap,IntKind.bits,IntKind.signed];simp;omega
   have hlb:=z0C p;have hd0:decide (((64*n+64:Nat):Int)≤(p.length:Nat))=false:=decide_eq_false (by omega)
   have hll:=z8o p n;have gn:=fun A B x L ex h=>GN σ A B x L ex n h
   have sn:=fun A B x y L ex h=>SN σ A B x y L ex n h
   generalize z2x p n=H;simp -implicitDefEqProofs only[mkE,go_sem,a1,hlb,hd0,List.append_assoc,List.cons_append,List.nil_append,List.length_append,List.length_cons,List.length_nil,hll];refine Go.Ab.L.count 32 (fun i=>mkE 47 [(2,.ptr σ.length 0),(4,.ptr (σ.length+1) 0),(7,.ptr (σ.length+(n+1+1)) 0),(8,I i)]) (fun i=>σ++(.box (bv zer32)::.box (s8v H)::(leftB p n++[.box (bv (outTo H i))]))) ?_ ?_ rfl rfl
   · intro i hi J hJ;have hd:decide ((i:Int)<32)=true:=decide_eq_true (by omega)
     have q1:((i:Int)).tdiv 4=((i/4:Nat):Int):=rfl;have q2:((i:Int)).tmod 4=((i%4:Nat):Int):=rfl;have q3:IntKind.i64.wrap (8*((i%4:Nat):Int))=((8*(i%4):Nat):Int):=by rw[←z0P (n:=8*(i%4)) (by omega)];congr 1
     have q4:IntKind.i64.wrap (24-((8*(i%4):Nat):Int))=((24-8*(i%4):Nat):Int):=by rw[←z0P (n:=24-8*(i%4)) (by omega)];congr 1;omega
     have q5:IntKind.i64.wrap ((i/4:Nat):Int)=((i/4:Nat):Int):=z0P (by omega)
     have q6:IntKind.u64.wrap ((24-8*(i%4):Nat):Int)=((24-8*(i%4):Nat):Int):=by simp only[IntKind.wrap,IntKind.bits,IntKind.signed];simp;omega
     have p0:∀n:Nat,((0:Int)≤(n:Int))=True:=fun n=>eq_true (Int.natCast_nonneg _)
     have l8:(((i/4:Nat):Int)<((8:Nat):Int))=True:=eq_true (by omega)
     have l32:((i:Int)<((32:Nat):Int))=True:=eq_true (by omega)
     have hh:(List.drop (i/4) (s8v H)).head?=some (V32 (gW H.l (i/4))):=by rw[show s8v H=wv H.l from rfl,List.head?_drop,z3E (by show i/4<8;omega)]
     have v1:=V_shr (gW H.l (i/4)) (24-8*(i%4)) (by omega)
     have v2:=z9S (gW H.l (i/4) >>> (24-8*(i%4)));have wi:IntKind.i64.wrap ((i:Int)+1)=((i+1:Nat):Int):=by rw[←z0P (n:=i+1) (by omega)];congr 1
     have w1:=z2P H i;have w2:=z0C (outTo H i);have li:(i≤31)=True:=eq_true (by omega)
     have hp:=zfh (b:=outTo H i) (i:=i) (by omega)
     have hw:outTo H (i+1)=(outTo H i).set i (byteS H i):=rfl;rw[hw]at hJ;unfold byteS at hJ;simp -implicitDefEqProofs only[mkE,go_sem,hd,q1,q2,q3,q4,q5,q6,p0,l8,l32,hh,v1,v2,wi,w1,w2,li,hp,hll,gn,sn,G1,S1,Nat.mul_one,Int.toNat_natCast];exact hJ
   · intro J;have hd:decide (((32:Nat):Int)<32)=false:=rfl;have w1:=z2P H 32;have w2:=z0C (outTo H 32);have w3:(bv zer32).length=32:=rfl;have a1:=bv_all (outTo H 32);have k1:List.take 32 (bv (outTo H 32))=bv (outTo H 32):=List.take_of_length_le (by rw[w2,w1];exact Nat.le_refl _)
     have k2:List.drop 32 (bv zer32)=[]:=rfl;simp -implicitDefEqProofs only[mkE,go_sem,hd,G0,S0,G1,S1,hll,gn,sn,w1,w2,w3,a1,k1,k2,List.append_nil];exact Fini.trim2 (σ':=σ) (by simp -implicitDefEqProofs only[go_sem,resA,z01,rvA,oneOf,G0,w1,w2,k1]<;>rfl) rfl (Nat.le_refl _) (z97 _ _) hbel
end
end Go.Proofs.YteakobbdgehlgaaGreatDoor.Sha
namespace Go.Proofs.YteakobbdgehlgaaGreatDoor
open Go Go.Ab Go.Cod
set_option maxRecDepth 100000
abbrev noLb:Lab:=(⟨#[]⟩,⟨#[]⟩)
def valB (v:ByteArray):Bool:=decide (1≤v.size)&&decide (v.size≤24)
def labOk (L:List Lab) (i:Nat):Bool:=nameB (L.getD i noLb).1&&(valB (L.getD i noLb).2&& !(decide (0<i)&&leS (L.getD i noLb).1 (L.getD (i-1) noLb).1))
def setB (L:List Lab):Bool:=decide (1≤L.length)&&(decide (L.length≤6)&&(List.range L.length).all (labOk L))
theorem lvs_D (L:List Lab) (i:Nat) (h:i<L.length):(lvs L)[i]?=some (.agg [Sx (L.getD i noLb).1,Sx (L.getD i noLb).2]):=by
 have:=z4y L i h;rw[this,List.getD_eq_getElem?_getD,List.getElem?_eq_getElem h];rfl
theorem z7p (n:Nat) (a b:ByteArray):∀y∈([Sx a,Sx b]:List AV),Bel n y:=by
 intro y hy;simp only[List.mem_cons,List.not_mem_nil,or_false]at hy;rcases hy with rfl|rfl<;>exact .pl _
theorem z0t (n:Nat) (L:List Lab):Bel n (.sl 2 (lvs L)):=by
 refine .sl 2 _ fun i hi=>?_
 have:∀y∈lvs L,Bel n y:=by
  intro y hy;simp only[lvs,List.mem_map]at hy;obtain⟨x,_,rfl⟩:=hy;exact .agg _ fun i hi=>z7p n x.1 x.2 _ (List.getElem_mem hi)
 exact this _ (List.getElem_mem hi)
theorem zaB (n:Nat) (L:List Lab):Bel n (.sl 2 (lvs L))=True:=eq_true (z0t n L)
theorem BL_lb (n:Nat) (a b:ByteArray):Bel n (.agg [Sx a,Sx b])=True:=eq_true (.agg _ fun i hi=>z7p n a b _ (List.getElem_mem hi))
theorem BL_r2 (n:Nat) (a b:ByteArray):Bel n (.rp [Sx a,Sx b])=True:=eq_true (.rp _ fun i hi=>z7p n a b _ (List.getElem_mem hi))
theorem BL_r1 (n:Nat) (b:ByteArray):Bel n (.rp [Sx b])=True:=eq_true (.rp _ fun i hi=>by
 have:i=0:=by simp at hi;omega
 subst this;exact .pl _)
section
variable (σ:St)
theorem zgv (v:ByteArray):Ans Tryz.prog 158 [Sx v] σ (Bo (valB v)) σ:=by
 have d1:decide ((1:Int)≤(v.size:Nat))=decide (1≤v.size):=intle 1 v.size;have d2:decide (((v.size:Nat):Int)≤24)=decide (v.size≤24):=intle v.size 24;refine Ans.of_run t158 ?_;unfold valB
 cases h:decide (1≤v.size) with
 |false =>
  simp -implicitDefEqProofs only[c158,r158,go_sem,d1,h];exact Fini.ret rfl
 |true =>
  simp -implicitDefEqProofs only[c158,r158,go_sem,d1,d2,h];exact Fini.ret rfl
theorem z20 (L:List Lab):Ans Tryz.prog 147 [.sl 2 (lvs L)] σ (Bo (setB L)) σ:=by
 have e1:decide ((L.length:Int)<1)= !decide (1≤L.length):=by
  by_cases h:1≤L.length
  · rw[decide_eq_true h,decide_eq_false (by omega)];rfl
  · rw[decide_eq_false h,decide_eq_true (by omega)];rfl
 have e2:decide ((6:Int)<L.length)= !decide (L.length≤6):=by
  by_cases h:L.length≤6
  · rw[decide_eq_true h,decide_eq_false (by omega)];rfl
  · rw[decide_eq_false h,decide_eq_true (by omega)];rfl
 refine Ans.of_run' t147 (fun hbel hba=>?_)
 have le1:(σ.length≤σ.length+1)=True:=eq_true (by omega)
 have hb0:(∀o∈σ,BelO σ.length o)=True:=eq_true hbel;have htk:∀x:Ob,(σ++[x]).take σ.length=σ:=fun x=>List.take_left' rfl
 unfold setB
 cases h1:decide (1≤L.length) with
 |false =>
  simp -implicitDefEqProofs only[c147,r147,go_sem,z0g,e1,h1];exact Fini.ret rfl
 |true =>
 cases h2:decide (L.length≤6) with
 |false =>
  simp -implicitDefEqProofs only[c147,r147,go_sem,z0g,e1,e2,h1,h2];exact Fini.ret rfl
 |true =>
 have hl6:L.length≤6:=of_decide_eq_true h2;simp -implicitDefEqProofs only[c147,r147,go_sem,z0g,e1,e2,h1,h2];refine Go.Ab.L.scan L.length (labOk L) (fun i=>mkE 46 [(0,.sl 2 (lvs L)),(13,.sl 2 (lvs L)),(14,I L.length),(15,I i)]) (fun _=>σ) ?_ ?_ rfl rfl
 · intro i hi hp J hJ;have hx:=lvs_D L i hi;have hF:labOk L i=false→(List.range L.length).all (labOk L)=false:=fun h=>List.all_eq_false.2 ⟨i,List.mem_range.2 hi,by rw[h];decide⟩
   have hin:=wrap_succ (i:=i) (by omega)
   have d0:decide ((0:Int)<i)=decide (0<i):=by rw[Bool.eq_iff_iff];simp
   have hO:labOk L i=(nameB (L.getD i noLb).1&&(valB (L.getD i noLb).2&& !(decide (0<i)&&leS (L.getD i noLb).1 (L.getD (i-1) noLb).1))):=rfl;rw[hO]at hJ hF;generalize L.getD i noLb=x at hJ hF hx;obtain⟨nm,v⟩:=x;simp only at hJ hF hx;have n1:=fun s=>z5F s nm
   have n2:=fun s=>zgv s v
   simp -implicitDefEqProofs only[mkE,go_sem,z00,z0g,z0b hi,dec_lt hi,hx,g0,s0]
   first|refine CD.intro (n1 _) ?_|refine CS.intro n1 ?_
   cases hb1:nameB nm with
   |false =>
    rw[hb1]at hF;rw[hF rfl];simp -implicitDefEqProofs only[go_sem,z00,g0,s0,le1,B_pl,B_any,z2l,B_tup,B_osl,B_ptr,B_sl0,zaB,BL_lb,BL_r2,BL_r1,htk,Nat.add_zero,hb0,List.length_append];exact Fini.ret rfl
   |true =>
    rw[hb1]at hF hJ;simp -implicitDefEqProofs only[go_sem,z00,g0,s0]
    first|refine CD.intro (n2 _) ?_|refine CS.intro n2 ?_
    cases hb2:valB v with
    |false =>
     rw[hb2]at hF;rw[hF rfl];simp -implicitDefEqProofs only[go_sem,z00,g0,s0,le1,B_pl,B_any,z2l,B_tup,B_osl,B_ptr,B_sl0,zaB,BL_lb,BL_r2,BL_r1,htk,Nat.add_zero,hb0,List.length_append];exact Fini.ret rfl
    |true =>
     rw[hb2]at hF hJ;by_cases hz:i=0
     · subst hz;have hgo:=hJ rfl;have w01:IntKind.i64.wrap 1=1:=rfl;simp -implicitDefEqProofs only[go_sem,z00,d0,hin,w01,g0,s0,le1,B_pl,B_any,z2l,B_tup,B_osl,B_ptr,B_sl0,zaB,BL_lb,BL_r2,BL_r1,htk,Nat.add_zero,hb0,List.length_append,Int.natCast_zero];exact hgo
     · have hpos:decide (0<i)=true:=decide_eq_true (by omega)
       have hx1:=lvs_D L (i-1) (by omega)
       have w1:IntKind.i64.wrap ((i:Int)-1)=((i-1:Nat):Int):=by rw[wrapN (by omega) (by omega)];omega
       have hlt1:(((i-1:Nat):Int)<L.length)=True:=by simp;omega
       rw[hpos]at hJ hF;generalize L.getD (i-1) noLb=x1 at hJ hF hx1;obtain⟨nm1,v1⟩:=x1;simp only at hJ hF hx1;have hle:(Op.bytesLess nm.toList nm1.toList||nm.toList==nm1.toList)=leS nm nm1:=rfl;simp -implicitDefEqProofs only[go_sem,z00,d0,hpos,w1,z0g,hlt1,hx1,hle,g0,s0,hin,g0,s0,le1,B_pl,B_any,z2l,B_tup,B_osl,B_ptr,B_sl0,zaB,BL_lb,BL_r2,BL_r1,htk,Nat.add_zero,hb0,List.length_append]
       cases h7:leS nm nm1 with
       |true =>
        rw[h7]at hF;rw[hF rfl];simp -implicitDefEqProofs only[go_sem];exact Fini.ret rfl
       |false =>
        rw[h7]at hJ;have hgo:=hJ rfl;simp -implicitDefEqProofs only[go_sem,hin];exact hgo
 · intro hp J;have hd:decide ((L.length:Int)<L.length)=false:=by simp
   simp -implicitDefEqProofs only[mkE,go_sem,z0g,hd];refine Fini.ret' rfl (z15 ?_);exact(List.all_eq_true.2 fun i hi=>hp i (List.mem_range.1 hi)).symm
end
def labR:Rd Lab:=seqR (textR 12) (textR 24)
def setR:Rd (List Lab):=onlyR (rowR 6 labR) setB
def putLb (x:Lab):Byt:=txtB x.1++txtB x.2
def z62 (L:List Lab):Byt:=z2k putLb L
theorem lab_fits:Fits labR putLb (fun x=>x.1.size≤12∧x.2.size≤24):=z2w (z2O (by decide)) (z2O (by decide))
theorem zeI:EndsR labR:=lab_fits.ends
theorem z4D {L:List Lab} (h:setB L=true):L.length≤6∧∀x∈L,x.1.size≤12∧x.2.size≤24:=by
 unfold setB at h;simp only[Bool.and_eq_true,decide_eq_true_eq]at h;refine⟨h.2.1,fun x hx=>?_⟩
 obtain⟨i,hi,rfl⟩:=List.getElem_of_mem hx;have h2:=List.all_eq_true.1 h.2.2 i (List.mem_range.2 hi);unfold labOk valB at h2;simp only[Bool.and_eq_true,decide_eq_true_eq]at h2;have e:L.getD i noLb=L[i]:=by rw[List.getD_eq_getElem?_getD,List.getElem?_eq_getElem hi];rfl
 rw[e]at h2;exact⟨z6H h2.1,h2.2.1.2⟩
theorem set_fits:Fits setR z62 (fun L=>setB L=true) :=
 (z3o (z6X (by decide) lab_fits) setB).weaken fun L=>⟨fun h=>h.2,fun h=>⟨z4D h,h⟩⟩
theorem ends_set:EndsR setR:=set_fits.ends
def labS (b:Byt):Nat×Bool→Lab×(Nat×Bool):=seqSt (runR (textR 12) ⟨#[]⟩ b) (runR (textR 24) ⟨#[]⟩ b)
theorem z63 (b:Byt):StepsR b labR (labS b):=z0K (z0o b _ _) (z0o b _ _) (z2Q 12)
def setS (b:Byt):Nat×Bool→List Lab×(Nat×Bool):=z0N (rowSt 6 b (labS b)) setB
theorem zda (b:Byt):StepsR b setR (setS b):=z1c (z5w (z63 b) zeI 6) _
theorem zdb (L:List Lab) (x:Lab):lvs L++[lv x]=lvs (L++[x]):=by simp[lvs]
abbrev lsV (L:List Lab):AV:=.sl 2 (lvs L)
theorem zbs (σ:St) (b:Byt) (hb:b.length≤50000):Ans Tryz.prog 128 [.sl 1 (byv b)] σ (readV (setR b) b lsV .nils) σ:=by
 have hS:=(zda b).top;refine Ans.of_run' t128 (fun hbel _=>?_)
 simp -implicitDefEqProofs only[c128,r128,go_sem];refine CO.intro (new_ans σ b) ?_;simp -implicitDefEqProofs only[go_sem,List.append_assoc,List.length_append];generalize hq1:runR (numR 6) 0 b (0,false)=q1;have hin0:Inb b (0,false):=Nat.zero_le _;have hn:=z2G (σ++[rob b (0,false),.row 2 []]) σ.length b (0,false) 6 (by decide) (g0 _ _ _) hin0 hb
 rw[hq1,s0]at hn;refine CO.intro hn ?_;have hn5:q1.1≤6:=by rw[←hq1];exact z2I b _
 have hin1:Inb b q1.2:=by rw[←hq1];exact z0h _ _ _ _ hin0
 simp -implicitDefEqProofs only[go_sem];refine Go.Ab.L.count q1.1 (fun i=>mkE 37 [(5,.ptr σ.length 0),(6,.osl (σ.length+1) i),(12,UN q1.1),(13,UN i)]) (fun i=>σ++[rob b (itSt (labS b) q1.2 i).2,.row 2 (lvs (itSt (labS b) q1.2 i).1)]) ?_ ?_ rfl rfl
 · intro i hi J hJ;have hitI:=z2c (z63 b).inb q1.2 hin1 i;have hlen:=z35 (labS b) q1.2 i;simp only[itSt]at hJ;generalize itSt (labS b) q1.2 i=c at hJ hitI hlen⊢;obtain⟨l,q⟩:=c;simp only at hJ hitI hlen⊢;have d0:decide ((i:Int)<q1.1)=true:=dec_lt hi;have w0:=z1v (n:=i+1) (by omega)
   have e0:((i:Int)+1)=((i+1:Nat):Int):=rfl;unfold labS seqSt at hJ;simp only at hJ;simp -implicitDefEqProofs only[mkE,go_sem,d0];have h2:=z3y (σ++[rob b q,.row 2 (lvs l)]) σ.length b q 12 (by decide) (g0 _ _ _) hitI hb
   have hi3:=z0h (textR 12) ⟨#[]⟩ b q hitI;generalize runR (textR 12) ⟨#[]⟩ b q=r2 at h2 hi3 hJ;rw[s0]at h2;refine CO.intro h2 ?_;have h3:=z3y (σ++[rob b r2.2,.row 2 (lvs l)]) σ.length b r2.2 24 (by decide) (g0 _ _ _) hi3 hb
   generalize runR (textR 24) ⟨#[]⟩ b r2.2=r3 at h3 hJ;rw[s0]at h3;simp -implicitDefEqProofs only[go_sem];refine CO.intro h3 ?_;have hl:(lvs l).length=i:=by rw[z0g,hlen]
   have hle:i+1≤4294967296:=by omega
   have hsn:=zdb l (r2.1,r3.1);simp -implicitDefEqProofs only[go_sem,g1,s1,hl,hle,List.length_singleton,e0,w0];rw[←hsn]at hJ;exact hJ
 · intro J;have hitI:=z2c (z63 b).inb q1.2 hin1 q1.1;have hlen:=z35 (labS b) q1.2 q1.1
   have hL:setS b (0,false)=((itSt (labS b) q1.2 q1.1).1,took (itSt (labS b) q1.2 q1.1).2 0 (setB (itSt (labS b) q1.2 q1.1).1)):=by
    unfold setS z0N rowSt;rw[hq1]
   rw[hL]at hS;generalize itSt (labS b) q1.2 q1.1=c at hS hitI hlen⊢;obtain⟨l,q⟩:=c;simp only at hS hitI hlen⊢;have hl:(lvs l).length=q1.1:=by rw[z0g,hlen]
   have d0:decide ((q1.1:Int)<q1.1)=false:=by simp
   simp -implicitDefEqProofs only[mkE,go_sem,d0,g1,s1,hl];refine CO.intro (z20 _ l) ?_;have h2:=z0a (σ++[rob b q,.dead]) σ.length b q (setB l) (g0 _ _ _) hitI hb;rw[s0]at h2;simp -implicitDefEqProofs only[go_sem];refine CO.intro h2 ?_;have h3:=z3p (σ++[rob b (took q 0 (setB l)),.dead]) σ.length b (took q 0 (setB l)) (g0 _ _ _);simp -implicitDefEqProofs only[go_sem];refine CO.intro h3 ?_;have hbm:Bel σ.length (.sl 2 (lvs l)):=z0t _ _
   cases hr:setR b with
   |none =>
    have hb2:=hS.2 hr;rw[hb2];simp -implicitDefEqProofs only[go_sem];exact Fini.trim2 (σ':=σ) rfl rfl (Nat.le_refl _) (by unfold readV;exact z1n .nils) hbel
   |some p =>
    obtain⟨M,t⟩:=p;have hb2:=hS.1 M t hr;simp only[Prod.mk.injEq]at hb2;obtain⟨rfl,hb2⟩:=hb2;rw[hb2];simp -implicitDefEqProofs only[go_sem];refine Fini.trim2 (σ':=σ) rfl rfl (Nat.le_refl _) ?_ hbel;unfold readV;exact z1n hbm
theorem z8p (σ:St) (b:Byt) (hb:b.length≤50000):Ans Tryz.prog 128 [.sl 1 (byv b)] σ (readV (setR b) b lsV (lsV [])) σ:=by
 refine(zbs σ b hb).subR ?_;unfold readV
 cases setR b with
 |none=>exact .tup (.cons (.nils 2) (.refl _))
 |some p=>exact .refl _
section
variable (σ:St) (p:Nat) (b:Byt) (q:Nat×Bool)
theorem zhv (h:σ[p]?=some (rob b q)) (hq:Inb b q) (hb:b.length≤50000):Ans Tryz.prog 127 [.ptr p 0,.fn 128 [] []] σ (lsV (runR setR [] b q).1) (σ.set p (rob b (runR setR [] b q).2)):=by
 obtain⟨a,bad⟩:=q;have hq:a≤b.length:=hq;have hl:(b.drop a).length≤50000:=by rw[List.length_drop];omega
 cases hr:setR (b.drop a) with
 |none =>
  have hrd:=z8p σ (b.drop a) hl;rw[z3A hr]at hrd
  have e:runR setR [] b (a,bad)=([],(a,true)):=by
   cases bad
   · exact z1b hr
   · exact z0M _ _ _ _
  have e2:took (a,bad) 0 false=(a,true):=by cases bad<;>rfl
  have ht:=z18 σ p b (a,bad) 0 false h (by simp only;omega)
  rw[e2]at ht;rw[e]
  have:Ans Tryz.prog 127 [.ptr p 0,.fn 128 [] []] σ .nils (σ.set p (rob b (a,true))):=by
   refine Ans.of_run t127 ?_;simp -implicitDefEqProofs only[c127,r127,go_sem];refine CO.intro (z17 σ p b (a,bad) h hq) ?_;simp -implicitDefEqProofs only[go_sem];refine CO.intro hrd ?_;simp -implicitDefEqProofs only[go_sem];refine CO.intro ht ?_;simp -implicitDefEqProofs only[go_sem];exact Fini.ret rfl
  exact this.subR (.nils 2)
 |some x =>
  obtain⟨x,t⟩:=x;have hrd:=z8p σ (b.drop a) hl;rw[z3B hr]at hrd;have hdr:=ends_set.drop hq hr;have ht:=z18 σ p b (a,bad) ((b.drop a).length-t.length) true h (by simp only[List.length_drop];omega)
  cases bad with
  |true =>
   have e2:took (a,true) ((b.drop a).length-t.length) true=(a,true):=rfl;rw[e2]at ht;rw[z0M]
   have:Ans Tryz.prog 127 [.ptr p 0,.fn 128 [] []] σ .nils (σ.set p (rob b (a,true))):=by
    refine Ans.of_run t127 ?_;simp -implicitDefEqProofs only[c127,r127,go_sem];refine CO.intro (z17 σ p b (a,true) h hq) ?_;simp -implicitDefEqProofs only[go_sem];refine CO.intro hrd ?_;simp -implicitDefEqProofs only[go_sem];refine CO.intro ht ?_;simp -implicitDefEqProofs only[go_sem];exact Fini.ret rfl
   exact this.subR (.nils 2)
  |false =>
   have e2:took (a,false) ((b.drop a).length-t.length) true=(b.length-t.length,false):=by
    simp only[took,Bool.false_or,Bool.not_true,Bool.false_eq_true,if_false,List.length_drop];congr 1;omega
   rw[e2]at ht;rw[z0U hr];refine Ans.of_run t127 ?_;simp -implicitDefEqProofs only[c127,r127,go_sem];refine CO.intro (z17 σ p b (a,false) h hq) ?_;simp -implicitDefEqProofs only[go_sem];refine CO.intro hrd ?_;simp -implicitDefEqProofs only[go_sem];refine CO.intro ht ?_;simp -implicitDefEqProofs only[go_sem];exact Fini.ret rfl
theorem zhw (h:σ[p]?=some (rob b q)) (hq:Inb b q) (hb:b.length≤50000):Ans Tryz.prog 125 [.ptr p 0,.fn 126 [] []] σ (ruV (runR ruR noRu b q).1) (σ.set p (rob b (runR ruR noRu b q).2)):=by
 obtain⟨a,bad⟩:=q;have hq:a≤b.length:=hq;have hl:(b.drop a).length≤50000:=by rw[List.length_drop];omega
 have hp:p<σ.length:=(List.getElem?_eq_some_iff.1 h).1;have hz:∀ob,(σ++[ob])[p]?=some (rob b (a,bad)):=fun ob=>by rw[List.getElem?_append_left hp];exact h
 have hst:∀ob X,(σ++[ob]).set p X=σ.set p X++[ob]:=fun ob X=>by rw[List.set_append_left _ _ hp]
 have hlen:∀X,(σ.set p X).length=σ.length:=fun X=>List.length_set
 have gx:∀(X:Ob) (o:Ob) (ex:St),(σ.set p X++o::ex)[σ.length]?=some o:=fun X o ex=>by rw[←hlen X];exact g0 _ _ _
 have sx:∀(X:Ob) (o u:Ob) (ex:St),(σ.set p X++o::ex).set σ.length u=σ.set p X++u::ex:=fun X o u ex=>by rw[←hlen X];exact s0 _ _ _ _
 have gx1:∀(X:Ob) (o o2:Ob) (ex:St),(σ.set p X++o::o2::ex)[σ.length+1]?=some o2:=fun X o o2 ex=>by rw[←hlen X];exact g1 _ _ _ _
 have hbo:∀(hbel:∀o∈σ,BelO σ.length o) (q:Nat×Bool),∀o∈σ.set p (rob b q),BelO (σ.set p (rob b q)).length o:=fun hbel q=>by
  rw[hlen]
  exact z1P hbel (fun c hc=>by
   simp only[List.mem_cons,List.not_mem_nil,or_false]at hc;rcases hc with rfl|rfl|rfl
   · exact z1x _ _
   · exact .pl _
   · exact .pl _)
 cases hr:ruR (b.drop a) with
 |none =>
  have hrd:=fun s=>z6J s (b.drop a) hl
  simp only[z3A hr]at hrd
  have e:runR ruR noRu b (a,bad)=(noRu,(a,true)):=by
   cases bad
   · exact z1b hr
   · exact z0M _ _ _ _
  have e2:took (a,bad) 0 false=(a,true):=by cases bad<;>rfl
  have ht:=fun ob=>z18 (σ++[ob]) p b (a,bad) 0 false (hz ob) (by simp only;omega)
  simp only[e2,hst]at ht;rw[e]
  have:Ans Tryz.prog 125 [.ptr p 0,.fn 126 [] []] σ noRuV (σ.set p (rob b (a,true))):=by
   refine Ans.of_run' t125 (fun hbel _=>?_)
   simp -implicitDefEqProofs only[c125,r125,go_sem];refine CO.intro (z17 _ p b (a,bad) (hz _) hq) ?_;simp -implicitDefEqProofs only[go_sem];refine CO.intro (hrd _) ?_;simp -implicitDefEqProofs only[go_sem,ruV];refine CO.intro (ht _) ?_;simp -implicitDefEqProofs only[go_sem,gx,sx,gx1,List.append_assoc,List.length_append,hlen];exact Fini.trim2 (σ':=σ.set p (rob b (a,true))) (ex:=[_,_]) (by simp -implicitDefEqProofs only[go_sem,resA,z01,rvA,oneOf,gx]<;>rfl) rfl (by rw[hlen];exact Nat.le_refl _) (z4j _) (hbo hbel _)
  exact this.subR z7n
 |some x =>
  obtain⟨x,t⟩:=x;have hrd:=fun s=>z6J s (b.drop a) hl
  simp only[z3B hr]at hrd;have hdr:=ends_ru.drop hq hr;have ht:=fun ob=>z18 (σ++[ob]) p b (a,bad) ((b.drop a).length-t.length) true (hz ob) (by simp only[List.length_drop];omega)
  simp only[hst]at ht
  cases bad with
  |true =>
   have e2:took (a,true) ((b.drop a).length-t.length) true=(a,true):=rfl;rw[e2]at ht;rw[z0M]
   have:Ans Tryz.prog 125 [.ptr p 0,.fn 126 [] []] σ noRuV (σ.set p (rob b (a,true))):=by
    refine Ans.of_run' t125 (fun hbel _=>?_)
    simp -implicitDefEqProofs only[c125,r125,go_sem];refine CO.intro (z17 _ p b (a,true) (hz _) hq) ?_;simp -implicitDefEqProofs only[go_sem];refine CO.intro (hrd _) ?_;simp -implicitDefEqProofs only[go_sem,ruV];refine CO.intro (ht _) ?_;simp -implicitDefEqProofs only[go_sem,gx,sx,gx1,List.append_assoc,List.length_append,hlen];exact Fini.trim2 (σ':=σ.set p (rob b (a,true))) (ex:=[_,_]) (by simp -implicitDefEqProofs only[go_sem,resA,z01,rvA,oneOf,gx]<;>rfl) rfl (by rw[hlen];exact Nat.le_refl _) (z4j _) (hbo hbel _)
   exact this.subR z7n
  |false =>
   have e2:took (a,false) ((b.drop a).length-t.length) true=(b.length-t.length,false):=by
    simp only[took,Bool.false_or,Bool.not_true,Bool.false_eq_true,if_false,List.length_drop];congr 1;omega
   rw[e2]at ht;rw[z0U hr];refine Ans.of_run' t125 (fun hbel _=>?_)
   simp -implicitDefEqProofs only[c125,r125,go_sem];refine CO.intro (z17 _ p b (a,false) (hz _) hq) ?_;simp -implicitDefEqProofs only[go_sem];refine CO.intro (hrd _) ?_;simp -implicitDefEqProofs only[go_sem,ruV];refine CO.intro (ht _) ?_;simp -implicitDefEqProofs only[go_sem,gx,sx,gx1,List.append_assoc,List.length_append,hlen];exact Fini.trim2 (σ':=σ.set p (rob b (b.length-t.length,false))) (ex:=[_]) (by simp -implicitDefEqProofs only[go_sem,resA,z01,rvA,oneOf,gx]<;>rfl) rfl (by rw[hlen];exact Nat.le_refl _) (z9t _ x) (hbo hbel _)
end
structure ReM where
 tok:ByteArray
 op:Int
 id:Int
 txt:ByteArray
 st:Nat
 en:Nat
 sta:Int
 mt:List Mtr
 any:Bool
 lo:Nat
 hi:Nat
 ru:RuM
 ls:List Lab
 val:Nat
def reC (r:ReM):List AV:=[Sx r.tok,I r.op,I r.id,Sx r.txt,UN r.st,UN r.en,I r.sta,mlV r.mt,Bo r.any,Fl r.lo,Fl r.hi,mlV r.ru.src,mlV r.ru.tgt,Bo r.ru.any,Fl r.ru.lo,Fl r.ru.hi,.sl 1 (txs r.ru.eq),lsV r.ls,Fl r.val]
def reV (r:ReM):AV:=.agg (reC r)
def fTab:List Int:=[0,1,3,3,116,117,1,8,128,1,768,1,16,0,1,0,0]
def fOf (op:Int):Int×Bool:=if 1≤op∧op≤17 then(fTab.getD (op.toNat-1) 0,true) else(0,false)
theorem ops17 (op:Int):op=1∨op=2∨op=3∨op=4∨op=5∨op=6∨op=7∨op=8∨op=9∨op=10∨op=11∨op=12∨op=13∨op=14∨op=15∨op=16∨op=17∨(op<1∨17<op):=by omega
theorem zdc {op:Int} (h:op<1∨17<op):fOf op=(0,false):=by unfold fOf;rw[if_neg (by omega)]
theorem neI {op k:Int} (h:op≠k):(op==k)=false:=by simpa using h
def zF (n:Nat):Bool:=((bitsF n:Nat):Int)==0
def noBd (x:Bnd):Bool:=!x.1&&(zF x.2.1&&zF x.2.2)
def emI (n:Nat):Bool:=((n:Nat):Int)==0
def noRl (r:RuM):Bool:=emI r.src.length&&(emI r.tgt.length&&(emI r.eq.length&&noBd (r.any,r.lo,r.hi)))
def tokB (s:ByteArray):Bool:=decide (4≤s.size)&&decide (s.size≤16)
section
variable (σ:St)
theorem z1h (op:Int):Ans Tryz.prog 119 [I op] σ (.tup [I (fOf op).1,Bo (fOf op).2]) σ:=by
 refine Ans.of_run t119 ?_;rcases ops17 op with rfl|rfl|rfl|rfl|rfl|rfl|rfl|rfl|rfl|rfl|rfl|rfl|rfl|rfl|rfl|rfl|rfl|h
 all_goals first
  |(rw[zdc h]
    simp -implicitDefEqProofs only[c119,r119,go_sem,neI (op:=op) (k:=1) (by omega),neI (op:=op) (k:=2) (by omega),neI (op:=op) (k:=3) (by omega),neI (op:=op) (k:=4) (by omega),neI (op:=op) (k:=5) (by omega),neI (op:=op) (k:=6) (by omega),neI (op:=op) (k:=7) (by omega),neI (op:=op) (k:=8) (by omega),neI (op:=op) (k:=9) (by omega),neI (op:=op) (k:=10) (by omega),neI (op:=op) (k:=11) (by omega),neI (op:=op) (k:=12) (by omega),neI (op:=op) (k:=13) (by omega),neI (op:=op) (k:=14) (by omega),neI (op:=op) (k:=15) (by omega),neI (op:=op) (k:=16) (by omega),neI (op:=op) (k:=17) (by omega)]
    exact Fini.ret rfl)
  |(simp -implicitDefEqProofs only[c119,r119,go_sem]
    exact Fini.ret rfl)
theorem z1f (n:Nat):Ans Tryz.prog 162 [Fl n] σ (Bo (zF n)) σ:=by
 refine Ans.of_run t162 ?_;simp -implicitDefEqProofs only[c162,r162,go_sem];refine CO.intro (z54 σ n) ?_;simp -implicitDefEqProofs only[go_sem];exact Fini.ret rfl
theorem z1i (x:Bnd):Ans Tryz.prog 160 [bandV x] σ (Bo (noBd x)) σ:=by
 obtain⟨a,lo,hi⟩:=x;refine Ans.of_run t160 ?_;unfold bandV noBd;simp only
 cases a with
 |true =>
  simp -implicitDefEqProofs only[c160,r160,go_sem];exact Fini.ret rfl
 |false =>
  simp -implicitDefEqProofs only[c160,r160,go_sem];refine CO.intro (z1f σ lo) ?_
  cases zF lo with
  |false =>
   simp -implicitDefEqProofs only[go_sem];exact Fini.ret rfl
  |true =>
   simp -implicitDefEqProofs only[go_sem];refine CO.intro (z1f σ hi) ?_;simp -implicitDefEqProofs only[go_sem];exact Fini.ret rfl
theorem z1t (r:RuM):Ans Tryz.prog 161 [ruV r] σ (Bo (noRl r)) σ:=by
 have hb:=z1i σ (r.any,r.lo,r.hi);refine Ans.of_run t161 ?_;unfold ruV noRl emI;unfold bandV at hb
 cases h1:(((r.src.length:Nat):Int)==0) with
 |false =>
  simp -implicitDefEqProofs only[c161,r161,go_sem,z0r,h1];exact Fini.ret rfl
 |true =>
 cases h2:(((r.tgt.length:Nat):Int)==0) with
 |false =>
  simp -implicitDefEqProofs only[c161,r161,go_sem,z0r,h1,h2];exact Fini.ret rfl
 |true =>
 cases h3:(((r.eq.length:Nat):Int)==0) with
 |false =>
  simp -implicitDefEqProofs only[c161,r161,go_sem,z0r,z0L,h1,h2,h3];exact Fini.ret rfl
 |true =>
  simp -implicitDefEqProofs only[c161,r161,go_sem,z0r,z0L,h1,h2,h3];refine CO.intro hb ?_;simp -implicitDefEqProofs only[go_sem];exact Fini.ret rfl
theorem z3e (s:ByteArray):Ans Tryz.prog 163 [Sx s] σ (Bo (tokB s)) σ:=by
 have d1:decide ((4:Int)≤(s.size:Nat))=decide (4≤s.size):=intle 4 s.size;have d2:decide (((s.size:Nat):Int)≤16)=decide (s.size≤16):=intle s.size 16;refine Ans.of_run t163 ?_;unfold tokB
 cases h:decide (4≤s.size) with
 |false =>
  simp -implicitDefEqProofs only[c163,r163,go_sem,d1,h];exact Fini.ret rfl
 |true =>
  simp -implicitDefEqProofs only[c163,r163,go_sem,d1,d2,h];exact Fini.ret rfl
end
end Go.Proofs.YteakobbdgehlgaaGreatDoor
