/- Rules read out of bytes, by the program. No condition. -/
import Derived.Test.YteakobbdgehlgaaGreatDoorKRc6E3
import Derived.Test.YteakobbdgehlgaaGreatDoorRows
import Derived.Test.YteakobbdgehlgaaGreatDoorKXPDoc2E3
import Derived.Test.YteakobbdgehlgaaGreatDoorAbArgE3
import Derived.Test.YteakobbdgehlgaaGreatDoorKXMr2E3
import Derived.Test.YteakobbdgehlgaaGreatDoorKXVi3E3
import Derived.Test.YteakobbdgehlgaaGreatDoorKXPPar6E3
import Derived.Test.YteakobbdgehlgaaGreatDoorKShA1E3
import Derived.Test.YteakobbdgehlgaaGreatDoorAbGloE3
set_option linter.unusedSimpArgs false
set_option linter.unusedVariables false
set_option linter.unusedSectionVars false
set_option maxRecDepth 100000
set_option maxHeartbeats 4000000
namespace Go.Proofs.YteakobbdgehlgaaGreatDoor
open Go Go.Ab Go.Cod
theorem g3 (σ:St) (x y z u:Ob) (ex:St):(σ++x::y::z::u::ex)[σ.length+3]?=some u:=by rw[List.getElem?_append_right (by simp)];simp
theorem s3 (σ:St) (x y z u v:Ob) (ex:St):(σ++x::y::z::u::ex).set (σ.length+3) v=σ++x::y::z::v::ex:=by rw[List.set_append_right _ _ (by simp)];simp
def txC (n:Nat) (e:List ByteArray):AV:=if e.isEmpty then .nils else .osl n e.length
def txS (e:List ByteArray):St:=if e.isEmpty then[] else[.row 1 (txs e)]
theorem zdy (n:Nat) {e:List ByteArray} (h:e.isEmpty=false):txC n e=.osl n e.length:=by unfold txC;rw[h];rfl
theorem zdz {e:List ByteArray} (h:e.isEmpty=false):txS e=[.row 1 (txs e)]:=by unfold txS;rw[h];rfl
theorem zaQ (e:List ByteArray) (s:ByteArray):(e++[s]).isEmpty=false:=by cases e<;>rfl
theorem z9P (n:Nat) (r:RuM):Bel n (ruV r):=.agg _ fun i hi=>by
 have:∀y∈([.sl 3 (mvs3 r.src),.sl 3 (mvs3 r.tgt),Bo r.any,Fl r.lo,Fl r.hi,.sl 1 (txs r.eq)]:List AV),Bel n y:=by
  intro y hy;simp only[List.mem_cons,List.not_mem_nil,or_false]at hy;rcases hy with rfl|rfl|rfl|rfl|rfl|rfl
  · exact z0u _ _
  · exact z0u _ _
  · exact .pl _
  · exact .pl _
  · exact .pl _
  · exact z0F _ _
 exact this _ (List.getElem_mem hi)
def noRu:RuM:=⟨[],[],false,0,0,[]⟩
abbrev Z6:Ob:=.box [.nils,.nils,Bo false,Fl 0,Fl 0,.nils]
def noRuV:AV:=.agg [.nils,.nils,Bo false,Fl 0,Fl 0,.nils]
theorem z7J:Sub noRuV (ruV noRu):=.agg (.cons (.nils 3) (.cons (.nils 3) (.cons (.refl _) (.cons (.refl _) (.cons (.refl _) (.cons (.nils 1) .nil))))))
theorem z4z (n:Nat):Bel n noRuV:=.agg _ fun i hi=>by
 have:∀y∈([.nils,.nils,Bo false,Fl 0,Fl 0,.nils]:List AV),Bel n y:=by
  intro y hy;simp only[List.mem_cons,List.not_mem_nil,or_false]at hy;rcases hy with rfl|rfl|rfl|rfl|rfl|rfl
  · exact .nils
  · exact .nils
  · exact .pl _
  · exact .pl _
  · exact .pl _
  · exact .nils
 exact this _ (List.getElem_mem hi)
section
variable (σ:St)
theorem z9Q (b:Byt) (hb:b.length≤50000):Ans Tryz.prog 126 [.sl 1 (byv b)] σ (readV (ruR b) b ruV noRuV) σ:=by
 have hS:=(zfq b).top;refine Ans.of_run' t126 (fun y0 _=>?_)
 simp -implicitDefEqProofs only[c126,r126,go_sem];refine CO.intro (new_ans _ b) ?_
 have r0:∀q,ruS b q=(mkRu ((runR listR [] b q).1,(runR listR [] b (runR listR [] b q).2).1,(runR bandR (false,0,0) b (runR listR [] b (runR listR [] b q).2).2).1,(rowSt 4 b (runR (textR 12) ⟨#[]⟩ b) (runR bandR (false,0,0) b (runR listR [] b (runR listR [] b q).2).2).2).1),
   took (rowSt 4 b (runR (textR 12) ⟨#[]⟩ b) (runR bandR (false,0,0) b (runR listR [] b (runR listR [] b q).2).2).2).2 0 (ruIs (mkRu ((runR listR [] b q).1,(runR listR [] b (runR listR [] b q).2).1,(runR bandR (false,0,0) b (runR listR [] b (runR listR [] b q).2).2).1,(rowSt 4 b (runR (textR 12) ⟨#[]⟩ b) (runR bandR (false,0,0) b (runR listR [] b (runR listR [] b q).2).2).2).1)))):=fun q=>rfl
 rw[r0]at hS;have h1:=z8M (σ++[Z6,rob b (0,false)]) (σ.length+1) b (0,false) (g1 _ _ _ _) (Inb0 b) hb;rw[s1]at h1;have i1:=z0h listR [] b (0,false) (Inb0 b);generalize runR listR [] b (0,false)=w1 at h1 i1 hS;obtain⟨m1,q1⟩:=w1;simp only at h1 i1 hS;have h2:=z8M (σ++[Z6,rob b q1]) (σ.length+1) b q1 (g1 _ _ _ _) i1 hb;rw[s1]at h2;have i2:=z0h listR [] b q1 i1;generalize runR listR [] b q1=w2 at h2 i2 hS;obtain⟨m2,q2⟩:=w2;simp only at h2 i2 hS;have h3:=zdx (σ++[Z6,rob b q2]) (σ.length+1) b q2 (g1 _ _ _ _) i2 hb;rw[s1]at h3;have i3:=z0h bandR (false,0,0) b q2 i2;generalize runR bandR (false,0,0) b q2=w3 at h3 i3 hS;obtain⟨⟨any,lo,hi⟩,q3⟩:=w3;unfold bandV at h3;simp only at h3 i3 hS;simp -implicitDefEqProofs only[go_sem,List.append_assoc,List.length_append];refine CO.intro h1 ?_;simp -implicitDefEqProofs only[go_sem];refine CO.intro h2 ?_;simp -implicitDefEqProofs only[go_sem];refine CO.intro h3 ?_;unfold rowSt at hS;have h4:=z21 (σ++[Z6,rob b q3,.box [mlV m1,mlV m2,Bo any,Fl lo,Fl hi,.nils]]) (σ.length+1) b q3 4 (by decide) (g1 _ _ _ _) i3 hb
 rw[s1]at h4;have i4:=z0h (numR 4) 0 b q3 i3;have k0:=z2F (most:=4) b q3;generalize runR (numR 4) 0 b q3=w4 at h4 i4 hS k0;obtain⟨n,q4⟩:=w4;simp only at h4 i4 hS k0;simp -implicitDefEqProofs only[go_sem,List.append_assoc,List.length_append,g0,g1,g2,s0,s1,s2];refine CO.intro h4 ?_;simp -implicitDefEqProofs only[go_sem]
 refine Go.Ab.L.count n (fun i=>mkE 44 [(2,.ptr σ.length 0),(5,.ptr (σ.length+1) 0),(6,.ptr (σ.length+2) 0),(19,UN n),(20,UN i)])
  (fun i=>σ++Z6::rob b (itSt (runR (textR 12) ⟨#[]⟩ b) q4 i).2::.box [mlV m1,mlV m2,Bo any,Fl lo,Fl hi,txC (σ.length+3) (itSt (runR (textR 12) ⟨#[]⟩ b) q4 i).1]::txS (itSt (runR (textR 12) ⟨#[]⟩ b) q4 i).1) ?_ ?_ rfl rfl
 · intro i n0 J hJ;have hit:=z2n (z0h (textR 12) ⟨#[]⟩ b) q4 i4 i;have hlen:=z3j (runR (textR 12) ⟨#[]⟩ b) q4 i;simp only[itSt]at hJ;generalize itSt (runR (textR 12) ⟨#[]⟩ b) q4 i=c at hJ hit hlen⊢;obtain⟨l,q⟩:=c;simp only at hJ hit hlen⊢;have d0:decide ((i:Int)<n)=true:=dec_lt n0;have w0:=z1q (n:=i+1) (by omega)
   have e0:((i:Int)+1)=((i+1:Nat):Int):=rfl;have h5:=z2L (σ++Z6::rob b q::.box [mlV m1,mlV m2,Bo any,Fl lo,Fl hi,txC (σ.length+3) l]::txS l) (σ.length+1) b q 12 (by decide) (g1 _ _ _ _) hit hb
   rw[s1]at h5;generalize runR (textR 12) ⟨#[]⟩ b q=w5 at h5 hJ;obtain⟨s,q5⟩:=w5;simp only at h5 hJ;rw[zdy _ (zaQ l s),zdz (zaQ l s),z7G]at hJ;rw[List.length_append,List.length_singleton]at hJ
   cases hem:l.isEmpty with
   |true =>
    have hle:l=[]:=List.isEmpty_iff.1 hem;subst hle;unfold txC txS at h5⊢;simp only[List.isEmpty_nil,if_true]at h5⊢;simp -implicitDefEqProofs only[mkE,go_sem,d0,g0,g1,g2,s0,s1,s2];refine CD.intro h5 ?_;have p32:((1:Nat)≤2^32)=True:=eq_true (by decide)
    simp -implicitDefEqProofs only[go_sem,g0,g1,g2,s0,s1,s2,w0,e0,p32,List.length_append,List.append_assoc,List.length_cons,List.length_nil];exact hJ
   |false =>
    rw[zdy _ hem,zdz hem]at h5⊢;have m0:l.length+1≤4294967296:=by omega
    simp -implicitDefEqProofs only[mkE,go_sem,d0,g0,g1,g2,s0,s1,s2];refine CD.intro h5 ?_;simp -implicitDefEqProofs only[go_sem,g0,g1,g2,g3,s0,s1,s2,s3,w0,e0,z0M,m0,List.length_singleton];exact hJ
 · intro J;have hit:=z2n (z0h (textR 12) ⟨#[]⟩ b) q4 i4 n;have hlen:=z3j (runR (textR 12) ⟨#[]⟩ b) q4 n;generalize itSt (runR (textR 12) ⟨#[]⟩ b) q4 n=c at hS hit hlen⊢;obtain⟨l,q⟩:=c;simp only at hS hit hlen⊢;have d0:decide ((n:Int)<n)=false:=by simp
   have q0:=fun s=>z28 s (mkRu (m1,m2,(any,lo,hi),l))
   generalize ruIs (mkRu (m1,m2,(any,lo,hi),l))=ok at q0 hS
   cases hem:l.isEmpty with
   |true =>
    have hle:l=[]:=List.isEmpty_iff.1 hem;subst hle;unfold txC txS;simp only[List.isEmpty_nil,if_true];have h6:=z0d (σ++[Z6,rob b q,.box [mlV m1,mlV m2,Bo any,Fl lo,Fl hi,.sl 1 (txs [])]]) (σ.length+1) b q ok (g1 _ _ _ _) hit hb;rw[s1]at h6;generalize took q 0 ok=qe at h6 hS;have h7:=z2z (σ++[Z6,rob b qe,.box [mlV m1,mlV m2,Bo any,Fl lo,Fl hi,.sl 1 (txs [])]]) (σ.length+1) b qe (g1 _ _ _ _);simp -implicitDefEqProofs only[mkE,go_sem,d0,z3r,g0,g1,g2,g3,s0,s1,s2,s3];refine CO.intro (q0 _) ?_;simp -implicitDefEqProofs only[go_sem];refine CO.intro h6 ?_;simp -implicitDefEqProofs only[go_sem];refine CO.intro h7 ?_
    cases hr:ruR b with
    |none =>
     have u0:=hS.2 hr;obtain⟨qa,qb⟩:=qe;simp only at u0;subst u0;simp -implicitDefEqProofs only[go_sem,g0,g1,g2,g3,s0,s1,s2,s3];exact tr_ (σ':=σ) (ex:=[_,_,_]) rfl (by unfold readV;exact z1u (z4z _)) y0
    |some p =>
     obtain⟨M,t⟩:=p;have u0:=hS.1 M t hr;simp only[Prod.mk.injEq]at u0;obtain⟨rfl,rfl⟩:=u0;simp -implicitDefEqProofs only[go_sem,g0,g1,g2,g3,s0,s1,s2,s3];exact tr_ (σ':=σ) (ex:=[_,_,_]) rfl (by unfold readV;exact z1u (z9P _ _)) y0
   |false =>
    rw[zdy _ hem,zdz hem];have j0:(σ.length+3≠σ.length+2)=True:=eq_true (by omega)
    have h6:=z0d (σ++[Z6,rob b q,.box [mlV m1,mlV m2,Bo any,Fl lo,Fl hi,.sl 1 (txs l)],.dead]) (σ.length+1) b q ok (g1 _ _ _ _) hit hb;rw[s1]at h6;generalize took q 0 ok=qe at h6 hS;have h7:=z2z (σ++[Z6,rob b qe,.box [mlV m1,mlV m2,Bo any,Fl lo,Fl hi,.sl 1 (txs l)],.dead]) (σ.length+1) b qe (g1 _ _ _ _);simp -implicitDefEqProofs only[mkE,go_sem,d0,z0M,j0,g0,g1,g2,g3,s0,s1,s2,s3];refine CO.intro (q0 _) ?_;simp -implicitDefEqProofs only[go_sem];refine CO.intro h6 ?_;simp -implicitDefEqProofs only[go_sem];refine CO.intro h7 ?_
    cases hr:ruR b with
    |none =>
     have u0:=hS.2 hr;obtain⟨qa,qb⟩:=qe;simp only at u0;subst u0;simp -implicitDefEqProofs only[go_sem,g0,g1,g2,g3,s0,s1,s2,s3];exact tr_ (σ':=σ) (ex:=[_,_,_,_]) rfl (by unfold readV;exact z1u (z4z _)) y0
    |some p =>
     obtain⟨M,t⟩:=p;have u0:=hS.1 M t hr;simp only[Prod.mk.injEq]at u0;obtain⟨rfl,rfl⟩:=u0;simp -implicitDefEqProofs only[go_sem,g0,g1,g2,g3,s0,s1,s2,s3];exact tr_ (σ':=σ) (ex:=[_,_,_,_]) rfl (by unfold readV;exact z1u (z9P _ _)) y0
theorem z77 (b:Byt) (hb:b.length≤50000):Ans Tryz.prog 126 [.sl 1 (byv b)] σ (readV (ruR b) b ruV (ruV noRu)) σ:=by
 refine(z9Q σ b hb).subR ?_;unfold readV
 cases ruR b with
 |none=>exact .tup (.cons z7J (.refl _))
 |some p=>exact .refl _
end
end Go.Proofs.YteakobbdgehlgaaGreatDoor
namespace Go.Ab
open Go.ChangeShapes Go.WideShapes
theorem Reads.weak {P:Program} {t:TypeId} {f:Nat} {Q Q':List AV→Prop} (h:Reads P t f Q) (hq:∀xs,Q xs→∃ys,Q' ys∧Subs xs ys):Reads P t f Q':=by
 intro H enc W cs x hx;obtain⟨xs,h1,h2⟩:=h H enc W cs x hx;obtain⟨ys,h3,h4⟩:=hq xs h2;exact⟨ys,h4.reps h1,h3⟩
def ziZ:List AV→Prop:=fun xs=>∃n:Nat,xs=[.pl (.float .f64 n)]
theorem Reads.float {P:Program} {t:TypeId} (ht:P.underlying t=some (.float .f64)) (f:Nat):Reads P t f ziZ:=by
 intro H enc W cs x h
 have:∃n,cs=[.float .f64 n]:=by
  cases f with
  |zero=>simp[DataW.trod]at h
  |succ n =>
   unfold DataW.trod at h;rw[ht]at h;split at h<;>simp_all
 obtain⟨n,rfl⟩:=this;exact⟨_,z3o (.pl _),n,rfl⟩
def QSl (sz:Nat) (ag:Bool) (Q:List AV→Prop):List AV→Prop:=fun xs=>∃ys:List (List AV),(∀y∈ys,Q y)∧ys.length≤maxLen∧xs=[.sl sz (ys.map (wrapC ag))]
theorem QSlice.weak {sz:Nat} {ag:Bool} {Q:List AV→Prop} (xs:List AV) (h:QSlice sz ag Q xs):∃ys,QSl sz ag Q ys∧Subs xs ys:=by
 rcases h with rfl|⟨ys,h1,h2,rfl⟩
 · exact⟨_,⟨[],by simp,by simp,rfl⟩,.cons (.nils sz) .nil⟩
 · exact⟨_,⟨ys,h1,h2,rfl⟩,Subs.refl _⟩
end Go.Ab
namespace Go.Proofs.YteakobbdgehlgaaGreatDoor
open Go Go.Ab Go.ChangeShapes Go.WideShapes Go.ChangeAt Go.RowKit
def QMat:List AV→Prop:=fun xs=>∃d:Int×Int×Int,xs=[I d.1,I d.2.1,I d.2.2]
theorem zdA (f:Nat):Reads Tryz.prog 162 f QMat:=by
 cases f with
 |zero=>exact Reads.zero
 |succ f =>
  have h:=Reads.struct (P:=Tryz.prog) (t:=162) (f:=f) (Qs:=[QInt .i64,QInt .i64,QInt .i64]) Tryz.underlying162 (by kernel_rfl) rfl (by
   intro p hp;simp only[List.zip_cons_cons,List.zip_nil_right,List.mem_cons,List.not_mem_nil,or_false]at hp;rcases hp with rfl|rfl|rfl
   · exact Reads.int Tryz.underlying3 f
   · exact Reads.int Tryz.underlying3 f
   · exact Reads.int Tryz.underlying3 f)
  refine h.mono fun xs hq=>?_
  obtain⟨_,b,rfl,⟨k,_,rfl⟩,_,d,rfl,⟨n,_,rfl⟩,_,_,rfl,⟨v,_,rfl⟩,rfl⟩:=hq;exact⟨(k,n,v),rfl⟩
theorem zaR:∀{ys:List (List AV)},(∀y∈ys,QMat y)→∃ds:List (Int×Int×Int),ds.length=ys.length∧ys.map (wrapC true)=ds.map dv
 |[],_=>⟨[],rfl,rfl⟩
 |y::ys,h=>by
  obtain⟨d,rfl⟩:=h y List.mem_cons_self;obtain⟨ds,hl,u0⟩:=zaR fun y hy=>h y (List.mem_cons_of_mem _ hy)
  exact⟨d::ds,by simp[hl],by rw[List.map_cons,u0];rfl⟩
theorem zdB:∀{ys:List (List AV)},(∀y∈ys,QInt .i64 y)→∃ns:List Int,ys.map (wrapC false)=ns.map I
 |[],_=>⟨[],rfl⟩
 |y::ys,h=>by
  obtain⟨n,_,rfl⟩:=h y List.mem_cons_self;obtain⟨ns,u0⟩:=zdB fun y hy=>h y (List.mem_cons_of_mem _ hy)
  exact⟨n::ns,by rw[List.map_cons,u0];rfl⟩
def QMats:List AV→Prop:=fun xs=>∃ds:List (Int×Int×Int),ds.length≤9223372036854775807∧xs=[.sl 3 (ds.map dv)]
def QInts:List AV→Prop:=fun xs=>∃ns:List Int,xs=[.sl 1 (ns.map I)]
theorem z4Q (f:Nat):Reads Tryz.prog 35 f QMats:=by
 cases f with
 |zero=>exact Reads.zero
 |succ f =>
  refine((Reads.slice (sz:=3) true Tryz.underlying35 (by kernel_rfl) (by decide) (zdA f) (fun _ _ _=>rfl)).weak QSlice.weak).mono fun xs hq=>?_
  obtain⟨ys,h1,h2,rfl⟩:=hq;obtain⟨ds,hl,e⟩:=zaR h1;have hml:maxLen=9223372036854775807:=by decide
  exact⟨ds,by omega,by rw[e]⟩
theorem z78 (f:Nat):Reads Tryz.prog 36 f QInts:=by
 cases f with
 |zero=>exact Reads.zero
 |succ f =>
  refine((Reads.slice (sz:=1) false Tryz.underlying36 (by kernel_rfl) (by decide) (Reads.int Tryz.underlying3 f) (fun y hy _=>by obtain⟨n,_,rfl⟩:=hy;rfl)).weak QSlice.weak).mono fun xs hq=>?_
  obtain⟨ys,h1,h2,rfl⟩:=hq;obtain⟨ds,e⟩:=zdB h1;exact⟨ds,by rw[e]⟩
structure RuD where
 ds:List (Int×Int×Int)
 es:List (Int×Int×Int)
 sel:Int
 lo:Nat
 hi:Nat
 ns:List Int
 hd:ds.length≤9223372036854775807
 he:es.length≤9223372036854775807
def duC (d:RuD):List AV:=[.sl 3 (d.ds.map dv),.sl 3 (d.es.map dv),I d.sel,Fl d.lo,Fl d.hi,.sl 1 (d.ns.map I)]
def duV (d:RuD):AV:=.agg (duC d)
section
variable {H:Type} {enc:TypeId×Value→H} {W:World} {base:Nat} {v:Value} {d:DataW H} {ps:List MemPlace}
end
open Go.Cod
def z2W (d:RuD):RuM:=⟨mustL true (z0y d.ds []),mustL true (z0y d.es []),(z0I d.sel d.lo d.hi).1,(z0I d.sel d.lo d.hi).2.1,(z0I d.sel d.lo d.hi).2.2,z4a d.ns⟩
theorem zfw (σ:St) (d:RuD):Ans Tryz.prog 89 [duV d] σ (ruV (z2W d)) σ :=
 zhK σ d.ds d.es d.sel d.lo d.hi d.ns (z0I d.sel d.lo d.hi) _ _ (fun σ=>z3J σ true d.ds d.hd) (fun σ=>z3J σ true d.es d.he)
  (fun n=>z49 n _) (fun n=>z49 n _) (fun σ=>z7F σ _ _ _)
def subsL:List ByteArray→List (List ByteArray)
 |[]=>[[]]
 |x::xs=>subsL xs++(subsL xs).map fun l=>x::l
theorem z6j:∀{l r:List ByteArray},l.Sublist r→l∈subsL r
 |_,_,.slnil=>by simp[subsL]
 |l,x::r,.cons _ h=>List.mem_append_left _ (z6j h)
 |x::l,_::r,.cons_cons _ h=>List.mem_append_right _ (List.mem_map.2 ⟨l,z6j h,rfl⟩)
theorem z7K (ns:List Int):∀(r e:List ByteArray),∃l,eqGo ns r e=e++l∧l.Sublist r
 |[],e=>⟨[],by simp[eqGo],.slnil⟩
 |s::r,e=>by
  rw[eqGo];split
  · cases hasN (ns.take 9) s with
    |true =>
     obtain⟨l,h1,h2⟩:=z7K ns r (e++[s]);exact⟨s::l,by rw[if_pos rfl,h1];simp,.cons_cons _ h2⟩
    |false =>
     obtain⟨l,h1,h2⟩:=z7K ns r e;exact⟨l,by rw[if_neg Bool.false_ne_true,h1],.cons _ h2⟩
  · exact⟨[],by simp,List.nil_sublist _⟩
theorem zaS (ns:List Int):∀(r e:List ByteArray),e.length≤4→(eqGo ns r e).length≤4
 |[],e,h=>by simpa[eqGo] using h
 |s::r,e,h=>by
  rw[eqGo];split
  · refine zaS ns r _ ?_;split
    · simp;omega
    · omega
  · exact h
theorem subs_ok:∀l∈subsL nm5,l.length≤4→eqB l=true:=by decide +kernel
theorem z9R (ns:List Int):(z4a ns).Sublist nm5:=by
 obtain⟨l,h1,h2⟩:=z7K ns nm5 [];unfold z4a;rw[h1];exact h2
theorem z9S (ns:List Int):(z4a ns).length≤4:=zaS ns nm5 [] (by simp)
theorem zhL {e:List ByteArray} (ns:List Int) (h:e.Sublist (z4a ns)):eqB e=true :=
 subs_ok e (z6j (h.trans (z9R ns))) (by have:=h.length_le;have:=z9S ns;omega)
theorem wf8 {n:Int} (h:(Lit.int .u8 n).wf=true):0≤n∧n<256:=by
 simp[Lit.wf,IntKind.min,IntKind.max,IntKind.bits,IntKind.signed]at h;omega
theorem zdC:∀{ys:List (List AV)},(∀y∈ys,QInt .u8 y)→∃b:Byt,ys.map (wrapC false)=byv b
 |[],_=>⟨[],rfl⟩
 |y::ys,h=>by
  obtain⟨m,hm,rfl⟩:=h y List.mem_cons_self;obtain⟨b,hb⟩:=zdC (ys:=ys) (fun z hz=>h z (List.mem_cons_of_mem _ hz))
  obtain⟨h0,h1⟩:=wf8 hm;obtain⟨n,rfl⟩:=Int.eq_ofNat_of_zero_le h0;refine⟨n.toUInt8::b,?_⟩;rw[List.map_cons,hb,z5d,←bc_of (show n<256 by omega)]
  rfl
theorem zfx:∀n∈names,nameB n=true:=by decide +kernel
theorem zhM:∀p∈pats,(z2B p).2=true:=by decide +kernel
theorem zfy:∀p∈vals8,p.size≤24:=by decide +kernel
theorem zhN {x:Mz} (h:MOK x):isB x.1 x.2.1 x.2.2=true:=by
 unfold isB;rw[zfx _ h.nm,Bool.true_and];have h1:=h.lo;have h4:=h.hi;by_cases h3:x.1<3
 · have hl:likeB x.1=false:=by unfold likeB;rw[Bool.or_eq_false_iff];exact⟨by simp;omega,by simp;omega⟩
   rw[hl];simp only[Bool.false_eq_true,if_false,Bool.and_eq_true,Bool.or_eq_true,beq_iff_eq,decide_eq_true_eq];exact⟨by omega,zfy _ (h.low h3)⟩
 · have hl:likeB x.1=true:=by unfold likeB;rw[Bool.or_eq_true];simp only[beq_iff_eq];omega
   rw[hl];simp only[if_true];exact zhM _ (h.high h3)
theorem zhO (x y:Mz):z3e x y=z3I x y:=by
 unfold z3e z3I;have:(x.1 != y.1)= !(x.1==y.1):=rfl;rw[this]
theorem zfz {M:List Mz} (h5:M.length≤5) (ho:∀y∈M,MOK y) (ha:Adj M):listB M=true:=by
 unfold listB;rw[decide_eq_true h5,Bool.true_and];refine List.all_eq_true.2 fun i hi=>?_
 have hi:=List.mem_range.1 hi;have e:M.getD i noM3=M[i]:=by rw[List.getD_eq_getElem?_getD,List.getElem?_eq_getElem hi];rfl
 unfold okL isM;rw[e,zhN (ho _ (List.getElem_mem hi)),Bool.true_and]
 cases i with
 |zero=>rfl
 |succ i =>
  have e2:M.getD (i+1-1) noM3=M[i]:=by rw[List.getD_eq_getElem?_getD,Nat.add_sub_cancel,List.getElem?_eq_getElem (by omega)];rfl
  rw[e2];have:=ha i M[i] M[i+1] (by simp) (by simp[hi])
  rw[zhO]at this;rw[this];simp
theorem z79 (ds:List (Int×Int×Int)):listB (z0y ds [])=true:=by
 obtain⟨h1,h2,h3⟩:=zdu ds;exact zfz h1 h2 h3
open Ieee
theorem zj0 (p q:Int) (h:(some (compare q p)==some Ordering.lt)=false):(some (compare p q)==some Ordering.lt||some (compare p q)==some Ordering.eq)=true:=by
 simp only[compare,compareOfLessAndEq]at h⊢;by_cases h1:q<p
 · rw[if_pos h1]at h;exact absurd h (by decide)
 · by_cases h2:p<q
   · rw[if_pos h2];rfl
   · have:p=q:=by omega
     rw[if_neg h2,if_pos this];rfl
theorem zhP (a b:Nat) (h1:nanF a=false) (h2:nanF b=false) (h3:ltF b a=false):leF a b=true:=by
 unfold nanF at h1 h2;unfold ltF at h3;unfold leF;unfold Format.order at *;generalize FloatKind.f64.format.read a=x at *;generalize FloatKind.f64.format.read b=y at *
 cases x with
 |nan s m=>simp[Datum.order]at h1
 |infinity s =>
  cases y with
  |nan t n=>simp[Datum.order]at h2
  |infinity t=>revert h3;cases s<;>cases t<;>decide
  |number t n j =>
   revert h3;cases s<;>simp[Datum.order]
 |number s m i =>
  cases y with
  |nan t n=>simp[Datum.order]at h2
  |infinity t =>
   revert h3;cases t<;>simp[Datum.order]
  |number t n j =>
   simp only[Datum.order]at h3⊢;rw[show min j i=min i j from Int.min_comm j i]at h3
   exact zj0 _ _ h3
theorem z1O:bitsF 0=0:=by decide +kernel
theorem zaT (sel:Int) (lo hi:Nat):mayB (z0I sel lo hi).1 (z0I sel lo hi).2.1 (z0I sel lo hi).2.2=true:=by
 unfold z0I;split
 · simp only[mayB,z1O];rfl
 · rename_i h
   have hn:nanF lo=false∧nanF hi=false:=by
    cases h1:nanF lo<;>cases h2:nanF hi<;>simp_all
   split
   · rename_i h3
     have:leF hi lo=true:=by
      unfold ltF at h3;unfold leF;rw[h3];rfl
     simpa[mayB] using this
   · rename_i h3;have:leF lo hi=true:=zhP lo hi hn.1 hn.2 (by simpa using h3)
     simpa[mayB] using this
theorem zfA:∀n∈names,n.size≤100000:=by decide +kernel
theorem z6k (ds:List (Int×Int×Int)):listB (mustL true (z0y ds []))=true∧((((mustL true (z0y ds [])).length:Nat):Int)==0)=false∧∀x∈mustL true (z0y ds []),x.2.1.size≤100000:=by
 have hd:listB [(1,⟨#[115,101,118]⟩,⟨#[97]⟩)]=true:=by decide +kernel
 cases hm:z0y ds [] with
 |nil =>
  refine⟨hd,by decide,fun x hx=>?_⟩
  have:x=(1,⟨#[115,101,118]⟩,⟨#[97]⟩):=by simpa[mustL] using hx
  subst this
  decide
 |cons y l =>
  have h:=z79 ds;obtain⟨_,h2,_⟩:=zdu ds;rw[hm]at h h2;refine⟨h,by simp[mustL];omega,fun x hx=>?_⟩
  have u0:x∈y::l:=by simpa[mustL] using hx
  exact zfA _ (h2 x u0).nm
theorem zfB (d:RuD):ruIs (z2W d)=true:=by
 have h1:=z6k d.ds;have h2:=z6k d.es;have h3:=zaT d.sel d.lo d.hi;have h4:=zhL d.ns (List.Sublist.refl _);unfold ruIs z2W;simp only;rw[h1.1,h1.2.1,h2.1,h2.2.1,h3,h4];rfl
section
variable (σ:St)
theorem z0Q (a:Nat):Ans Tryz.prog 83 [Fl a] σ (UN (bitsF a)) σ:=by
 refine Ans.of_run t83 ?_;unfold bitsF;simp -implicitDefEqProofs only[c83,r83,go_sem,z5j]
 cases nanF a with
 |true =>
  simp -implicitDefEqProofs only[go_sem];exact Fini.ret rfl
 |false =>
  simp -implicitDefEqProofs only[go_sem];refine CO.intro (z6b σ a) ?_;simp -implicitDefEqProofs only[go_sem];exact Fini.ret rfl
theorem z2a (any:Bool) (lo hi:Nat):Ans Tryz.prog 107 [.agg [Bo any,Fl lo,Fl hi]] σ (Bo (mayB any lo hi)) σ:=by
 refine Ans.of_run t107 ?_;unfold mayB
 cases any with
 |true =>
  simp -implicitDefEqProofs only[c107,r107,go_sem];refine CO.intro (z0Q σ lo) ?_
  cases h:(((bitsF lo:Nat):Int)==0) with
  |false =>
   simp -implicitDefEqProofs only[go_sem,h];exact Fini.ret rfl
  |true =>
   simp -implicitDefEqProofs only[go_sem,h];refine CO.intro (z0Q σ hi) ?_;simp -implicitDefEqProofs only[go_sem,h];exact Fini.ret rfl
 |false =>
  simp -implicitDefEqProofs only[c107,r107,go_sem,zdj];exact Fini.ret rfl
structure RSm (r:RuM):Prop where
 src:∀x∈r.src,x.2.1.size≤100000
 tgt:∀x∈r.tgt,x.2.1.size≤100000
 eq:∀s∈r.eq,s.size≤100000
theorem z1P (r:RuM) (hr:RSm r):Ans Tryz.prog 108 [ruV r] σ (Bo (ruIs r)) σ:=by
 obtain⟨src,y0,any,lo,hi,eq⟩:=r;obtain⟨hs,ht,he⟩:=hr;simp only at hs ht he;have d4:decide ((4:Int)<eq.length)=decide (4<eq.length):=decNN 4 _;refine Ans.of_run t108 ?_;unfold ruIs ruV;simp only
 cases h1:(((src.length:Nat):Int)==0) with
 |true =>
  simp -implicitDefEqProofs only[c108,r108,go_sem,z0v,h1];exact Fini.ret rfl
 |false =>
 cases h2:(((y0.length:Nat):Int)==0) with
 |true =>
  simp -implicitDefEqProofs only[c108,r108,go_sem,z0v,h1,h2];exact Fini.ret rfl
 |false =>
 simp -implicitDefEqProofs only[c108,r108,go_sem,z0v,h1,h2];refine CO.intro (z1g σ src hs) ?_
 cases h3:listB src with
 |false =>
  simp -implicitDefEqProofs only[go_sem];exact Fini.ret rfl
 |true =>
 simp -implicitDefEqProofs only[go_sem];refine CO.intro (z1g σ y0 ht) ?_
 cases h4:listB y0 with
 |false =>
  simp -implicitDefEqProofs only[go_sem];exact Fini.ret rfl
 |true =>
 simp -implicitDefEqProofs only[go_sem];refine CO.intro (z2a σ any lo hi) ?_
 cases h5:mayB any lo hi with
 |false =>
  simp -implicitDefEqProofs only[go_sem];exact Fini.ret rfl
 |true =>
 unfold eqB;by_cases h6:eq.length≤4
 · have x4:decide (4<eq.length)=false:=decide_eq_false (by omega)
   rw[decide_eq_true h6];simp -implicitDefEqProofs only[go_sem,z0M,d4,x4];refine Go.Ab.L.scan eq.length (eqOk eq) (fun i=>mkE 70 [(1,.rp [.sl 3 (mvs3 src),.sl 3 (mvs3 y0),Bo any,Fl lo,Fl hi,.sl 1 (txs eq)]),(3,I i)]) (fun _=>σ) ?_ ?_ rfl rfl
   · intro i hi hp J hJ;have hx:=txs_D eq i hi
     have hsz:(eq.getD i ⟨#[]⟩).size≤100000:=by
      rw[List.getD_eq_getElem?_getD,List.getElem?_eq_getElem hi];exact he _ (List.getElem_mem hi)
     have hF:eqOk eq i=false→(List.range eq.length).all (eqOk eq)=false:=fun h=>List.all_eq_false.2 ⟨i,List.mem_range.2 hi,by rw[h];decide⟩
     have k0:=wrap_succ (i:=i) (by omega)
     have d0:decide ((0:Int)<i)=decide (0<i):=by rw[Bool.eq_iff_iff];simp
     have hO:eqOk eq i=(nameB (eq.getD i ⟨#[]⟩)&& !(decide (0<i)&&leS (eq.getD i ⟨#[]⟩) (eq.getD (i-1) ⟨#[]⟩))):=rfl;rw[hO]at hJ hF;have m0:=fun σ=>z69 σ (eq.getD i ⟨#[]⟩) hsz
     simp -implicitDefEqProofs only[mkE,go_sem,z0M,z0e hi,dec_lt hi,hx,z01]
     first|refine CD.intro (m0 _) ?_|refine CS.intro m0 ?_
     generalize eq.getD i ⟨#[]⟩=s at hJ hF hx
     cases hb:nameB s with
     |false =>
      rw[hb]at hF;rw[hF rfl];simp -implicitDefEqProofs only[go_sem];exact Fini.ret rfl
     |true =>
      rw[hb]at hJ hF;by_cases hz:i=0
      · subst hz;have j0:=hJ rfl;simp -implicitDefEqProofs only[go_sem,d0,k0];exact j0
      · have u0:decide (0<i)=true:=decide_eq_true (by omega)
        have hx1:=txs_D eq (i-1) (by omega)
        have w1:IntKind.i64.wrap ((i:Int)-1)=((i-1:Nat):Int):=by rw[wrapN (by omega) (by omega)];omega
        have q0:(((i-1:Nat):Int)<eq.length)=True:=by simp;omega
        rw[u0]at hJ hF;generalize eq.getD (i-1) ⟨#[]⟩=s1 at hJ hF hx1;have hle:(Op.bytesLess s.toList s1.toList||s.toList==s1.toList)=leS s s1:=rfl;simp -implicitDefEqProofs only[go_sem,d0,u0,w1,z0M,q0,hx1,hx,z0e hi,hle]
        cases h7:leS s s1 with
        |true =>
         rw[h7]at hF;rw[hF rfl];simp -implicitDefEqProofs only[go_sem];exact Fini.ret rfl
        |false =>
         rw[h7]at hJ;have j0:=hJ rfl;simp -implicitDefEqProofs only[go_sem,k0];exact j0
   · intro hp J;have hd:decide ((eq.length:Int)<eq.length)=false:=by simp
     simp -implicitDefEqProofs only[mkE,go_sem,z0M,hd];refine Fini.ret' rfl (z16 ?_);exact(List.all_eq_true.2 fun i hi=>hp i (List.mem_range.1 hi)).symm
 · have x4:decide (4<eq.length)=true:=decide_eq_true (by omega)
   rw[decide_eq_false h6];simp -implicitDefEqProofs only[go_sem,z0M,d4,x4];exact Fini.ret rfl
end
section
variable (σ:St)
theorem z3K (n:Nat):Ans Tryz.prog 82 [UN n] σ (.sl 1 (byv (wrdB n))) σ:=by
 refine Ans.of_run' t82 (fun u0 _=>?_)
 have z8:Int.toNat 8=8:=rfl;simp -implicitDefEqProofs only[c82,r82,go_sem,mks8,z8,g0,s0,List.length_cons,List.length_nil];refine Go.Ab.L.count 8 (fun i=>mkE 21 [(0,UN n),(3,.osl σ.length 8),(4,I i)]) (fun i=>σ++[.row 1 (fillW n i)]) ?_ ?_ rfl rfl
 · intro i hi J hJ;have hl:=z4y n i (by omega)
   have d0:decide ((i:Int)<8)=true:=by simp;omega
   have w1:IntKind.i64.wrap (8*(i:Int))=((8*i:Nat):Int):=by rw[wrapN (by omega) (by omega)];push_cast;rfl
   have w2:IntKind.i64.wrap (56-((8*i:Nat):Int))=((56-8*i:Nat):Int):=by rw[wrapN (by omega) (by omega)];omega
   have w3:=z1q (n:=56-8*i) (by omega)
   have h3:=shrN n (56-8*i) (by omega)
   rw[Int.toNat_natCast]at h3;have j0:((i:Int)<((8:Nat):Int))=True:=eq_true (by omega)
   have y0:(fillW n i)[i]?=some Zb:=z8I n i hi;have k0:=wrap_succ (i:=i) (by omega)
   have q0:(fillW n i).set i (.pl (.int .u8 ((n/2^(56-8*i)).toUInt8.toNat:Nat)))=fillW n (i+1):=z8H n i hi;simp -implicitDefEqProofs only[mkE,go_sem,d0,w1,w2,w3,h3,zgK,g0,s0,hl,k0,q0,j0,y0];exact hJ
 · intro J;have hl:=z4y n 8 (by omega)
   have d0:decide (((8:Nat):Int)<8)=false:=by decide
   have e8:fillW n 8=byv (wrdB n):=by unfold fillW;rw[List.take_of_length_le (by rw[z05,wrdB_len];omega)];simp
   simp -implicitDefEqProofs only[mkE,go_sem,d0,g0,s0,hl,e8];exact Fini.trim2 (σ':=σ) rfl rfl (Nat.le_refl _) (z1j _ _) u0
theorem z3U (x:Bnd):Ans Tryz.prog 79 [bandV x] σ (.sl 1 (byv (putBd x))) σ:=by
 obtain⟨any,lo,hi⟩:=x;refine Ans.of_run' t79 (fun u0 _=>?_)
 unfold bandV putBd
 cases any with
 |true =>
  simp -implicitDefEqProofs only[c79,r79,go_sem];exact Fini.ret rfl
 |false =>
  have i1:=fun s=>z0Q s lo
  have i2:=fun s=>z0Q s hi
  have i3:=fun s=>z3K s (bitsF lo)
  have i4:=fun s=>z3K s (bitsF hi)
  have l1:(wrdB (bitsF lo)).length=8:=rfl;have l2:(wrdB (bitsF hi)).length=8:=rfl;unfold putV;generalize wrdB (bitsF lo)=a at i3 l1⊢;generalize wrdB (bitsF hi)=c at i4 l2⊢;have p1:(1+8≤2^32)=True:=eq_true (by decide)
  have p2:(1+8+8≤2^32)=True:=eq_true (by decide)
  simp -implicitDefEqProofs only[c79,r79,go_sem,z01]
  first|refine CD.intro (i1 _) ?_|refine CS.intro i1 ?_
  simp -implicitDefEqProofs only[go_sem,z01]
  first|refine CD.intro (i3 _) ?_|refine CS.intro i3 ?_
  simp -implicitDefEqProofs only[go_sem,z01,g0,s0,z05,z0q,bc,l1,p1,List.length_cons,List.length_nil,List.length_append]
  first|refine CD.intro (i2 _) ?_|refine CS.intro i2 ?_
  simp -implicitDefEqProofs only[go_sem,z01]
  first|refine CD.intro (i4 _) ?_|refine CS.intro i4 ?_
  simp -implicitDefEqProofs only[go_sem,z01,g0,s0,z05,z0q,bc,l1,l2,p2,List.length_cons,List.length_nil,List.length_append];exact Fini.trim2 (σ':=σ) (ex:=[_]) (by rw[z5d,z0t];rfl) rfl (Nat.le_refl _) (z1j _ _) u0
end
end Go.Proofs.YteakobbdgehlgaaGreatDoor
namespace Go.Proofs.YteakobbdgehlgaaGreatDoor.Sha
open Go Go.Ab Go.Cod
def blk (p:List UInt8) (i:Nat):List UInt8:=(p.drop (64*i)).take 64
section
variable (σ:St)
end
end Go.Proofs.YteakobbdgehlgaaGreatDoor.Sha
namespace Go.Proofs.YteakobbdgehlgaaGreatDoor
open Go Go.Ab Go.Cod
abbrev noLb:Lab:=(⟨#[]⟩,⟨#[]⟩)
def valB (v:ByteArray):Bool:=decide (1≤v.size)&&decide (v.size≤24)
def labOk (L:List Lab) (i:Nat):Bool:=nameB (L.getD i noLb).1&&(valB (L.getD i noLb).2&& !(decide (0<i)&&leS (L.getD i noLb).1 (L.getD (i-1) noLb).1))
def setB (L:List Lab):Bool:=decide (1≤L.length)&&(decide (L.length≤6)&&(List.range L.length).all (labOk L))
theorem lvs_D (L:List Lab) (i:Nat) (h:i<L.length):(lvs L)[i]?=some (.agg [Sx (L.getD i noLb).1,Sx (L.getD i noLb).2]):=by
 have:=z4N L i h;rw[this,List.getD_eq_getElem?_getD,List.getElem?_eq_getElem h];rfl
theorem z7L (n:Nat) (a b:ByteArray):∀y∈([Sx a,Sx b]:List AV),Bel n y:=by
 intro y hy;simp only[List.mem_cons,List.not_mem_nil,or_false]at hy;rcases hy with rfl|rfl<;>exact .pl _
theorem z0w (n:Nat) (L:List Lab):Bel n (.sl 2 (lvs L)):=by
 refine .sl 2 _ fun i hi=>?_
 have:∀y∈lvs L,Bel n y:=by
  intro y hy;simp only[lvs,List.mem_map]at hy;obtain⟨x,_,rfl⟩:=hy;exact .agg _ fun i hi=>z7L n x.1 x.2 _ (List.getElem_mem hi)
 exact this _ (List.getElem_mem hi)
theorem zaU (n:Nat) (L:List Lab):Bel n (.sl 2 (lvs L))=True:=eq_true (z0w n L)
theorem BL_lb (n:Nat) (a b:ByteArray):Bel n (.agg [Sx a,Sx b])=True:=eq_true (.agg _ fun i hi=>z7L n a b _ (List.getElem_mem hi))
theorem BL_r2 (n:Nat) (a b:ByteArray):Bel n (.rp [Sx a,Sx b])=True:=eq_true (.rp _ fun i hi=>z7L n a b _ (List.getElem_mem hi))
theorem BL_r1 (n:Nat) (b:ByteArray):Bel n (.rp [Sx b])=True:=eq_true (.rp _ fun i hi=>by
 have:i=0:=by simp at hi;omega
 subst this;exact .pl _)
section
variable (σ:St)
theorem zhQ (v:ByteArray):Ans Tryz.prog 158 [Sx v] σ (Bo (valB v)) σ:=by
 have d1:decide ((1:Int)≤(v.size:Nat))=decide (1≤v.size):=intle 1 v.size;have d2:decide (((v.size:Nat):Int)≤24)=decide (v.size≤24):=intle v.size 24;refine Ans.of_run t158 ?_;unfold valB
 cases h:decide (1≤v.size) with
 |false =>
  simp -implicitDefEqProofs only[c158,r158,go_sem,d1,h];exact Fini.ret rfl
 |true =>
  simp -implicitDefEqProofs only[c158,r158,go_sem,d1,d2,h];exact Fini.ret rfl
theorem z2b (L:List Lab):Ans Tryz.prog 147 [.sl 2 (lvs L)] σ (Bo (setB L)) σ:=by
 have e1:decide ((L.length:Int)<1)= !decide (1≤L.length):=by
  by_cases h:1≤L.length
  · rw[decide_eq_true h,decide_eq_false (by omega)];rfl
  · rw[decide_eq_false h,decide_eq_true (by omega)];rfl
 have e2:decide ((6:Int)<L.length)= !decide (L.length≤6):=by
  by_cases h:L.length≤6
  · rw[decide_eq_true h,decide_eq_false (by omega)];rfl
  · rw[decide_eq_false h,decide_eq_true (by omega)];rfl
 refine Ans.of_run' t147 (fun t0 hba=>?_)
 have k0:(σ.length≤σ.length+1)=True:=eq_true (by omega)
 have j0:(∀o∈σ,BelO σ.length o)=True:=eq_true t0;have y0:∀x:Ob,(σ++[x]).take σ.length=σ:=fun x=>List.take_left' rfl
 unfold setB
 cases h1:decide (1≤L.length) with
 |false =>
  simp -implicitDefEqProofs only[c147,r147,go_sem,z0j,e1,h1];exact Fini.ret rfl
 |true =>
 cases h2:decide (L.length≤6) with
 |false =>
  simp -implicitDefEqProofs only[c147,r147,go_sem,z0j,e1,e2,h1,h2];exact Fini.ret rfl
 |true =>
 have hl6:L.length≤6:=of_decide_eq_true h2;simp -implicitDefEqProofs only[c147,r147,go_sem,z0j,e1,e2,h1,h2];refine Go.Ab.L.scan L.length (labOk L) (fun i=>mkE 46 [(0,.sl 2 (lvs L)),(13,.sl 2 (lvs L)),(14,I L.length),(15,I i)]) (fun _=>σ) ?_ ?_ rfl rfl
 · intro i hi hp J hJ;have hx:=lvs_D L i hi;have hF:labOk L i=false→(List.range L.length).all (labOk L)=false:=fun h=>List.all_eq_false.2 ⟨i,List.mem_range.2 hi,by rw[h];decide⟩
   have n0:=wrap_succ (i:=i) (by omega)
   have d0:decide ((0:Int)<i)=decide (0<i):=by rw[Bool.eq_iff_iff];simp
   have hO:labOk L i=(nameB (L.getD i noLb).1&&(valB (L.getD i noLb).2&& !(decide (0<i)&&leS (L.getD i noLb).1 (L.getD (i-1) noLb).1))):=rfl;rw[hO]at hJ hF;generalize L.getD i noLb=x at hJ hF hx;obtain⟨nm,v⟩:=x;simp only at hJ hF hx;have n1:=fun s=>z5Y s nm
   have n2:=fun s=>zhQ s v
   simp -implicitDefEqProofs only[mkE,go_sem,z01,z0j,z0e hi,dec_lt hi,hx,g0,s0]
   first|refine CD.intro (n1 _) ?_|refine CS.intro n1 ?_
   cases hb1:nameB nm with
   |false =>
    rw[hb1]at hF;rw[hF rfl];simp -implicitDefEqProofs only[go_sem,z01,g0,s0,k0,B_pl,B_any,z2y,B_tup,B_osl,B_ptr,B_sl0,zaU,BL_lb,BL_r2,BL_r1,y0,Nat.add_zero,j0,List.length_append];exact Fini.ret rfl
   |true =>
    rw[hb1]at hF hJ;simp -implicitDefEqProofs only[go_sem,z01,g0,s0]
    first|refine CD.intro (n2 _) ?_|refine CS.intro n2 ?_
    cases hb2:valB v with
    |false =>
     rw[hb2]at hF;rw[hF rfl];simp -implicitDefEqProofs only[go_sem,z01,g0,s0,k0,B_pl,B_any,z2y,B_tup,B_osl,B_ptr,B_sl0,zaU,BL_lb,BL_r2,BL_r1,y0,Nat.add_zero,j0,List.length_append];exact Fini.ret rfl
    |true =>
     rw[hb2]at hF hJ;by_cases hz:i=0
     · subst hz;have r0:=hJ rfl;have e0:IntKind.i64.wrap 1=1:=rfl;simp -implicitDefEqProofs only[go_sem,z01,d0,n0,e0,g0,s0,k0,B_pl,B_any,z2y,B_tup,B_osl,B_ptr,B_sl0,zaU,BL_lb,BL_r2,BL_r1,y0,Nat.add_zero,j0,List.length_append,Int.natCast_zero];exact r0
     · have u0:decide (0<i)=true:=decide_eq_true (by omega)
       have hx1:=lvs_D L (i-1) (by omega)
       have w1:IntKind.i64.wrap ((i:Int)-1)=((i-1:Nat):Int):=by rw[wrapN (by omega) (by omega)];omega
       have m0:(((i-1:Nat):Int)<L.length)=True:=by simp;omega
       rw[u0]at hJ hF;generalize L.getD (i-1) noLb=x1 at hJ hF hx1;obtain⟨q0,v1⟩:=x1;simp only at hJ hF hx1;have hle:(Op.bytesLess nm.toList q0.toList||nm.toList==q0.toList)=leS nm q0:=rfl;simp -implicitDefEqProofs only[go_sem,z01,d0,u0,w1,z0j,m0,hx1,hle,g0,s0,n0,g0,s0,k0,B_pl,B_any,z2y,B_tup,B_osl,B_ptr,B_sl0,zaU,BL_lb,BL_r2,BL_r1,y0,Nat.add_zero,j0,List.length_append]
       cases h7:leS nm q0 with
       |true =>
        rw[h7]at hF;rw[hF rfl];simp -implicitDefEqProofs only[go_sem];exact Fini.ret rfl
       |false =>
        rw[h7]at hJ;have r0:=hJ rfl;simp -implicitDefEqProofs only[go_sem,n0];exact r0
 · intro hp J;have hd:decide ((L.length:Int)<L.length)=false:=by simp
   simp -implicitDefEqProofs only[mkE,go_sem,z0j,hd];refine Fini.ret' rfl (z16 ?_);exact(List.all_eq_true.2 fun i hi=>hp i (List.mem_range.1 hi)).symm
end
def labR:Rd Lab:=seqR (textR 12) (textR 24)
def setR:Rd (List Lab):=onlyR (rowR 6 labR) setB
def putLb (x:Lab):Byt:=txtB x.1++txtB x.2
def z3V (L:List Lab):Byt:=z2x putLb L
theorem lab_fits:Fits labR putLb (fun x=>x.1.size≤12∧x.2.size≤24):=z0N (z1w (by decide)) (z1w (by decide))
theorem zfC:EndsR labR:=lab_fits.ends
theorem z4R {L:List Lab} (h:setB L=true):L.length≤6∧∀x∈L,x.1.size≤12∧x.2.size≤24:=by
 unfold setB at h;simp only[Bool.and_eq_true,decide_eq_true_eq]at h;refine⟨h.2.1,fun x hx=>?_⟩
 obtain⟨i,hi,rfl⟩:=List.getElem_of_mem hx;have h2:=List.all_eq_true.1 h.2.2 i (List.mem_range.2 hi);unfold labOk valB at h2;simp only[Bool.and_eq_true,decide_eq_true_eq]at h2;have e:L.getD i noLb=L[i]:=by rw[List.getD_eq_getElem?_getD,List.getElem?_eq_getElem hi];rfl
 rw[e]at h2;exact⟨z75 h2.1,h2.2.1.2⟩
theorem set_fits:Fits setR z3V (fun L=>setB L=true) :=
 (z3F (z7m (by decide) lab_fits) setB).weaken fun L=>⟨fun h=>h.2,fun h=>⟨z4R h,h⟩⟩
theorem ends_set:EndsR setR:=set_fits.ends
def labS (b:Byt):Nat×Bool→Lab×(Nat×Bool):=seqSt (runR (textR 12) ⟨#[]⟩ b) (runR (textR 24) ⟨#[]⟩ b)
theorem z6l (b:Byt):StepsR b labR (labS b):=z0C (z0i b _ _) (z0i b _ _) (z1X 12)
def setS (b:Byt):Nat×Bool→List Lab×(Nat×Bool):=z0P (rowSt 6 b (labS b)) setB
theorem zdD (b:Byt):StepsR b setR (setS b):=z1d (z5P (z6l b) zfC 6) _
theorem zdE (L:List Lab) (x:Lab):lvs L++[lv x]=lvs (L++[x]):=by simp[lvs]
abbrev lsV (L:List Lab):AV:=.sl 2 (lvs L)
theorem zbT (σ:St) (b:Byt) (hb:b.length≤50000):Ans Tryz.prog 128 [.sl 1 (byv b)] σ (readV (setR b) b lsV .nils) σ:=by
 have hS:=(zdD b).top;refine Ans.of_run' t128 (fun k0 _=>?_)
 simp -implicitDefEqProofs only[c128,r128,go_sem];refine CO.intro (new_ans σ b) ?_;simp -implicitDefEqProofs only[go_sem,List.append_assoc,List.length_append];generalize m0:runR (numR 6) 0 b (0,false)=q1;have q0:Inb b (0,false):=Nat.zero_le _;have hn:=z21 (σ++[rob b (0,false),.row 2 []]) σ.length b (0,false) 6 (by decide) (g0 _ _ _) q0 hb
 rw[m0,s0]at hn;refine CO.intro hn ?_;have hn5:q1.1≤6:=by rw[←m0];exact z2F b _
 have j0:Inb b q1.2:=by rw[←m0];exact z0h _ _ _ _ q0
 simp -implicitDefEqProofs only[go_sem];refine Go.Ab.L.count q1.1 (fun i=>mkE 37 [(5,.ptr σ.length 0),(6,.osl (σ.length+1) i),(12,UN q1.1),(13,UN i)]) (fun i=>σ++[rob b (itSt (labS b) q1.2 i).2,.row 2 (lvs (itSt (labS b) q1.2 i).1)]) ?_ ?_ rfl rfl
 · intro i hi J hJ;have u0:=z2n (z6l b).inb q1.2 j0 i;have hlen:=z3j (labS b) q1.2 i;simp only[itSt]at hJ;generalize itSt (labS b) q1.2 i=c at hJ u0 hlen⊢;obtain⟨l,q⟩:=c;simp only at hJ u0 hlen⊢;have d0:decide ((i:Int)<q1.1)=true:=dec_lt hi;have w0:=z1q (n:=i+1) (by omega)
   have e0:((i:Int)+1)=((i+1:Nat):Int):=rfl;unfold labS seqSt at hJ;simp only at hJ;simp -implicitDefEqProofs only[mkE,go_sem,d0];have h2:=z2L (σ++[rob b q,.row 2 (lvs l)]) σ.length b q 12 (by decide) (g0 _ _ _) u0 hb
   have n0:=z0h (textR 12) ⟨#[]⟩ b q u0;generalize runR (textR 12) ⟨#[]⟩ b q=r2 at h2 n0 hJ;rw[s0]at h2;refine CO.intro h2 ?_;have h3:=z2L (σ++[rob b r2.2,.row 2 (lvs l)]) σ.length b r2.2 24 (by decide) (g0 _ _ _) n0 hb
   generalize runR (textR 24) ⟨#[]⟩ b r2.2=r3 at h3 hJ;rw[s0]at h3;simp -implicitDefEqProofs only[go_sem];refine CO.intro h3 ?_;have hl:(lvs l).length=i:=by rw[z0j,hlen]
   have hle:i+1≤4294967296:=by omega
   have t0:=zdE l (r2.1,r3.1);simp -implicitDefEqProofs only[go_sem,g1,s1,hl,hle,List.length_singleton,e0,w0];rw[←t0]at hJ;exact hJ
 · intro J;have u0:=z2n (z6l b).inb q1.2 j0 q1.1;have hlen:=z3j (labS b) q1.2 q1.1
   have hL:setS b (0,false)=((itSt (labS b) q1.2 q1.1).1,took (itSt (labS b) q1.2 q1.1).2 0 (setB (itSt (labS b) q1.2 q1.1).1)):=by
    unfold setS z0P rowSt;rw[m0]
   rw[hL]at hS;generalize itSt (labS b) q1.2 q1.1=c at hS u0 hlen⊢;obtain⟨l,q⟩:=c;simp only at hS u0 hlen⊢;have hl:(lvs l).length=q1.1:=by rw[z0j,hlen]
   have d0:decide ((q1.1:Int)<q1.1)=false:=by simp
   simp -implicitDefEqProofs only[mkE,go_sem,d0,g1,s1,hl];refine CO.intro (z2b _ l) ?_;have h2:=z0d (σ++[rob b q,.dead]) σ.length b q (setB l) (g0 _ _ _) u0 hb;rw[s0]at h2;simp -implicitDefEqProofs only[go_sem];refine CO.intro h2 ?_;have h3:=z2z (σ++[rob b (took q 0 (setB l)),.dead]) σ.length b (took q 0 (setB l)) (g0 _ _ _);simp -implicitDefEqProofs only[go_sem];refine CO.intro h3 ?_;have r0:Bel σ.length (.sl 2 (lvs l)):=z0w _ _
   cases hr:setR b with
   |none =>
    have y0:=hS.2 hr;rw[y0];simp -implicitDefEqProofs only[go_sem];exact Fini.trim2 (σ':=σ) rfl rfl (Nat.le_refl _) (by unfold readV;exact z1u .nils) k0
   |some p =>
    obtain⟨M,t⟩:=p;have y0:=hS.1 M t hr;simp only[Prod.mk.injEq]at y0;obtain⟨rfl,y0⟩:=y0;rw[y0];simp -implicitDefEqProofs only[go_sem];refine Fini.trim2 (σ':=σ) rfl rfl (Nat.le_refl _) ?_ k0;unfold readV;exact z1u r0
theorem z8P (σ:St) (b:Byt) (hb:b.length≤50000):Ans Tryz.prog 128 [.sl 1 (byv b)] σ (readV (setR b) b lsV (lsV [])) σ:=by
 refine(zbT σ b hb).subR ?_;unfold readV
 cases setR b with
 |none=>exact .tup (.cons (.nils 2) (.refl _))
 |some p=>exact .refl _
section
variable (σ:St) (p:Nat) (b:Byt) (q:Nat×Bool)
theorem zj1 (h:σ[p]?=some (rob b q)) (hq:Inb b q) (hb:b.length≤50000):Ans Tryz.prog 127 [.ptr p 0,.fn 128 [] []] σ (lsV (runR setR [] b q).1) (σ.set p (rob b (runR setR [] b q).2)):=by
 obtain⟨a,bad⟩:=q;have hq:a≤b.length:=hq;have hl:(b.drop a).length≤50000:=by rw[List.length_drop];omega
 cases hr:setR (b.drop a) with
 |none =>
  have u0:=z8P σ (b.drop a) hl;rw[z3Q hr]at u0
  have e:runR setR [] b (a,bad)=([],(a,true)):=by
   cases bad
   · exact z0V hr
   · exact z0O _ _ _ _
  have e2:took (a,bad) 0 false=(a,true):=by cases bad<;>rfl
  have ht:=z19 σ p b (a,bad) 0 false h (by simp only;omega)
  rw[e2]at ht;rw[e]
  have:Ans Tryz.prog 127 [.ptr p 0,.fn 128 [] []] σ .nils (σ.set p (rob b (a,true))):=by
   refine Ans.of_run t127 ?_;simp -implicitDefEqProofs only[c127,r127,go_sem];refine CO.intro (z18 σ p b (a,bad) h hq) ?_;simp -implicitDefEqProofs only[go_sem];refine CO.intro u0 ?_;simp -implicitDefEqProofs only[go_sem];refine CO.intro ht ?_;simp -implicitDefEqProofs only[go_sem];exact Fini.ret rfl
  exact this.subR (.nils 2)
 |some x =>
  obtain⟨x,t⟩:=x;have u0:=z8P σ (b.drop a) hl;rw[z3R hr]at u0;have hdr:=ends_set.drop hq hr;have ht:=z19 σ p b (a,bad) ((b.drop a).length-t.length) true h (by simp only[List.length_drop];omega)
  cases bad with
  |true =>
   have e2:took (a,true) ((b.drop a).length-t.length) true=(a,true):=rfl;rw[e2]at ht;rw[z0O]
   have:Ans Tryz.prog 127 [.ptr p 0,.fn 128 [] []] σ .nils (σ.set p (rob b (a,true))):=by
    refine Ans.of_run t127 ?_;simp -implicitDefEqProofs only[c127,r127,go_sem];refine CO.intro (z18 σ p b (a,true) h hq) ?_;simp -implicitDefEqProofs only[go_sem];refine CO.intro u0 ?_;simp -implicitDefEqProofs only[go_sem];refine CO.intro ht ?_;simp -implicitDefEqProofs only[go_sem];exact Fini.ret rfl
   exact this.subR (.nils 2)
  |false =>
   have e2:took (a,false) ((b.drop a).length-t.length) true=(b.length-t.length,false):=by
    simp only[took,Bool.false_or,Bool.not_true,Bool.false_eq_true,if_false,List.length_drop];congr 1;omega
   rw[e2]at ht;rw[z0L hr];refine Ans.of_run t127 ?_;simp -implicitDefEqProofs only[c127,r127,go_sem];refine CO.intro (z18 σ p b (a,false) h hq) ?_;simp -implicitDefEqProofs only[go_sem];refine CO.intro u0 ?_;simp -implicitDefEqProofs only[go_sem];refine CO.intro ht ?_;simp -implicitDefEqProofs only[go_sem];exact Fini.ret rfl
theorem zj2 (h:σ[p]?=some (rob b q)) (hq:Inb b q) (hb:b.length≤50000):Ans Tryz.prog 125 [.ptr p 0,.fn 126 [] []] σ (ruV (runR ruR noRu b q).1) (σ.set p (rob b (runR ruR noRu b q).2)):=by
 obtain⟨a,bad⟩:=q;have hq:a≤b.length:=hq;have hl:(b.drop a).length≤50000:=by rw[List.length_drop];omega
 have hp:p<σ.length:=(List.getElem?_eq_some_iff.1 h).1;have hz:∀ob,(σ++[ob])[p]?=some (rob b (a,bad)):=fun ob=>by rw[List.getElem?_append_left hp];exact h
 have k0:∀ob X,(σ++[ob]).set p X=σ.set p X++[ob]:=fun ob X=>by rw[List.set_append_left _ _ hp]
 have hlen:∀X,(σ.set p X).length=σ.length:=fun X=>List.length_set
 have gx:∀(X:Ob) (o:Ob) (ex:St),(σ.set p X++o::ex)[σ.length]?=some o:=fun X o ex=>by rw[←hlen X];exact g0 _ _ _
 have sx:∀(X:Ob) (o u:Ob) (ex:St),(σ.set p X++o::ex).set σ.length u=σ.set p X++u::ex:=fun X o u ex=>by rw[←hlen X];exact s0 _ _ _ _
 have j0:∀(X:Ob) (o o2:Ob) (ex:St),(σ.set p X++o::o2::ex)[σ.length+1]?=some o2:=fun X o o2 ex=>by rw[←hlen X];exact g1 _ _ _ _
 have q0:∀(u0:∀o∈σ,BelO σ.length o) (q:Nat×Bool),∀o∈σ.set p (rob b q),BelO (σ.set p (rob b q)).length o:=fun u0 q=>by
  rw[hlen]
  exact z1Z u0 (fun c hc=>by
   simp only[List.mem_cons,List.not_mem_nil,or_false]at hc;rcases hc with rfl|rfl|rfl
   · exact z1j _ _
   · exact .pl _
   · exact .pl _)
 cases hr:ruR (b.drop a) with
 |none =>
  have y0:=fun s=>z77 s (b.drop a) hl
  simp only[z3Q hr]at y0
  have e:runR ruR noRu b (a,bad)=(noRu,(a,true)):=by
   cases bad
   · exact z0V hr
   · exact z0O _ _ _ _
  have e2:took (a,bad) 0 false=(a,true):=by cases bad<;>rfl
  have ht:=fun ob=>z19 (σ++[ob]) p b (a,bad) 0 false (hz ob) (by simp only;omega)
  simp only[e2,k0]at ht;rw[e]
  have:Ans Tryz.prog 125 [.ptr p 0,.fn 126 [] []] σ noRuV (σ.set p (rob b (a,true))):=by
   refine Ans.of_run' t125 (fun u0 _=>?_)
   simp -implicitDefEqProofs only[c125,r125,go_sem];refine CO.intro (z18 _ p b (a,bad) (hz _) hq) ?_;simp -implicitDefEqProofs only[go_sem];refine CO.intro (y0 _) ?_;simp -implicitDefEqProofs only[go_sem,ruV];refine CO.intro (ht _) ?_;simp -implicitDefEqProofs only[go_sem,gx,sx,j0,List.append_assoc,List.length_append,hlen];exact Fini.trim2 (σ':=σ.set p (rob b (a,true))) (ex:=[_,_]) (by simp -implicitDefEqProofs only[go_sem,resA,z03,rvA,oneOf,gx]<;>rfl) rfl (by rw[hlen];exact Nat.le_refl _) (z4z _) (q0 u0 _)
  exact this.subR z7J
 |some x =>
  obtain⟨x,t⟩:=x;have y0:=fun s=>z77 s (b.drop a) hl
  simp only[z3R hr]at y0;have hdr:=ends_ru.drop hq hr;have ht:=fun ob=>z19 (σ++[ob]) p b (a,bad) ((b.drop a).length-t.length) true (hz ob) (by simp only[List.length_drop];omega)
  simp only[k0]at ht
  cases bad with
  |true =>
   have e2:took (a,true) ((b.drop a).length-t.length) true=(a,true):=rfl;rw[e2]at ht;rw[z0O]
   have:Ans Tryz.prog 125 [.ptr p 0,.fn 126 [] []] σ noRuV (σ.set p (rob b (a,true))):=by
    refine Ans.of_run' t125 (fun u0 _=>?_)
    simp -implicitDefEqProofs only[c125,r125,go_sem];refine CO.intro (z18 _ p b (a,true) (hz _) hq) ?_;simp -implicitDefEqProofs only[go_sem];refine CO.intro (y0 _) ?_;simp -implicitDefEqProofs only[go_sem,ruV];refine CO.intro (ht _) ?_;simp -implicitDefEqProofs only[go_sem,gx,sx,j0,List.append_assoc,List.length_append,hlen];exact Fini.trim2 (σ':=σ.set p (rob b (a,true))) (ex:=[_,_]) (by simp -implicitDefEqProofs only[go_sem,resA,z03,rvA,oneOf,gx]<;>rfl) rfl (by rw[hlen];exact Nat.le_refl _) (z4z _) (q0 u0 _)
   exact this.subR z7J
  |false =>
   have e2:took (a,false) ((b.drop a).length-t.length) true=(b.length-t.length,false):=by
    simp only[took,Bool.false_or,Bool.not_true,Bool.false_eq_true,if_false,List.length_drop];congr 1;omega
   rw[e2]at ht;rw[z0L hr];refine Ans.of_run' t125 (fun u0 _=>?_)
   simp -implicitDefEqProofs only[c125,r125,go_sem];refine CO.intro (z18 _ p b (a,false) (hz _) hq) ?_;simp -implicitDefEqProofs only[go_sem];refine CO.intro (y0 _) ?_;simp -implicitDefEqProofs only[go_sem,ruV];refine CO.intro (ht _) ?_;simp -implicitDefEqProofs only[go_sem,gx,sx,j0,List.append_assoc,List.length_append,hlen];exact Fini.trim2 (σ':=σ.set p (rob b (b.length-t.length,false))) (ex:=[_]) (by simp -implicitDefEqProofs only[go_sem,resA,z03,rvA,oneOf,gx]<;>rfl) rfl (by rw[hlen];exact Nat.le_refl _) (z9P _ x) (q0 u0 _)
end
structure ReM where
 tok:ByteArray
 op:Int
 id:Int
 txt:ByteArray
 st:Nat
 en:Nat
 sta:Int
 mt:List Mtr
 any:Bool
 lo:Nat
 hi:Nat
 ru:RuM
 ls:List Lab
 val:Nat
def reC (r:ReM):List AV:=[Sx r.tok,I r.op,I r.id,Sx r.txt,UN r.st,UN r.en,I r.sta,mlV r.mt,Bo r.any,Fl r.lo,Fl r.hi,mlV r.ru.src,mlV r.ru.tgt,Bo r.ru.any,Fl r.ru.lo,Fl r.ru.hi,.sl 1 (txs r.ru.eq),lsV r.ls,Fl r.val]
def reV (r:ReM):AV:=.agg (reC r)
def fTab:List Int:=[0,1,3,3,116,117,1,8,128,1,768,1,16,0,1,0,0]
def fOf (op:Int):Int×Bool:=if 1≤op∧op≤17 then(fTab.getD (op.toNat-1) 0,true) else(0,false)
theorem ops17 (op:Int):op=1∨op=2∨op=3∨op=4∨op=5∨op=6∨op=7∨op=8∨op=9∨op=10∨op=11∨op=12∨op=13∨op=14∨op=15∨op=16∨op=17∨(op<1∨17<op):=by omega
theorem zdF {op:Int} (h:op<1∨17<op):fOf op=(0,false):=by unfold fOf;rw[if_neg (by omega)]
theorem neI {op k:Int} (h:op≠k):(op==k)=false:=by simpa using h
def zF (n:Nat):Bool:=((bitsF n:Nat):Int)==0
def noBd (x:Bnd):Bool:=!x.1&&(zF x.2.1&&zF x.2.2)
def emI (n:Nat):Bool:=((n:Nat):Int)==0
def noRl (r:RuM):Bool:=emI r.src.length&&(emI r.tgt.length&&(emI r.eq.length&&noBd (r.any,r.lo,r.hi)))
def tokB (s:ByteArray):Bool:=decide (4≤s.size)&&decide (s.size≤16)
section
variable (σ:St)
theorem z1m (op:Int):Ans Tryz.prog 119 [I op] σ (.tup [I (fOf op).1,Bo (fOf op).2]) σ:=by
 refine Ans.of_run t119 ?_;rcases ops17 op with rfl|rfl|rfl|rfl|rfl|rfl|rfl|rfl|rfl|rfl|rfl|rfl|rfl|rfl|rfl|rfl|rfl|h
 all_goals first
  |(rw[zdF h]
    simp -implicitDefEqProofs only[c119,r119,go_sem,neI (op:=op) (k:=1) (by omega),neI (op:=op) (k:=2) (by omega),neI (op:=op) (k:=3) (by omega),neI (op:=op) (k:=4) (by omega),neI (op:=op) (k:=5) (by omega),neI (op:=op) (k:=6) (by omega),neI (op:=op) (k:=7) (by omega),neI (op:=op) (k:=8) (by omega),neI (op:=op) (k:=9) (by omega),neI (op:=op) (k:=10) (by omega),neI (op:=op) (k:=11) (by omega),neI (op:=op) (k:=12) (by omega),neI (op:=op) (k:=13) (by omega),neI (op:=op) (k:=14) (by omega),neI (op:=op) (k:=15) (by omega),neI (op:=op) (k:=16) (by omega),neI (op:=op) (k:=17) (by omega)]
    exact Fini.ret rfl)
  |(simp -implicitDefEqProofs only[c119,r119,go_sem]
    exact Fini.ret rfl)
theorem z1h (n:Nat):Ans Tryz.prog 162 [Fl n] σ (Bo (zF n)) σ:=by
 refine Ans.of_run t162 ?_;simp -implicitDefEqProofs only[c162,r162,go_sem];refine CO.intro (z5k σ n) ?_;simp -implicitDefEqProofs only[go_sem];exact Fini.ret rfl
theorem z1n (x:Bnd):Ans Tryz.prog 160 [bandV x] σ (Bo (noBd x)) σ:=by
 obtain⟨a,lo,hi⟩:=x;refine Ans.of_run t160 ?_;unfold bandV noBd;simp only
 cases a with
 |true =>
  simp -implicitDefEqProofs only[c160,r160,go_sem];exact Fini.ret rfl
 |false =>
  simp -implicitDefEqProofs only[c160,r160,go_sem];refine CO.intro (z1h σ lo) ?_
  cases zF lo with
  |false =>
   simp -implicitDefEqProofs only[go_sem];exact Fini.ret rfl
  |true =>
   simp -implicitDefEqProofs only[go_sem];refine CO.intro (z1h σ hi) ?_;simp -implicitDefEqProofs only[go_sem];exact Fini.ret rfl
theorem z1C (r:RuM):Ans Tryz.prog 161 [ruV r] σ (Bo (noRl r)) σ:=by
 have hb:=z1n σ (r.any,r.lo,r.hi);refine Ans.of_run t161 ?_;unfold ruV noRl emI;unfold bandV at hb
 cases h1:(((r.src.length:Nat):Int)==0) with
 |false =>
  simp -implicitDefEqProofs only[c161,r161,go_sem,z0v,h1];exact Fini.ret rfl
 |true =>
 cases h2:(((r.tgt.length:Nat):Int)==0) with
 |false =>
  simp -implicitDefEqProofs only[c161,r161,go_sem,z0v,h1,h2];exact Fini.ret rfl
 |true =>
 cases h3:(((r.eq.length:Nat):Int)==0) with
 |false =>
  simp -implicitDefEqProofs only[c161,r161,go_sem,z0v,z0M,h1,h2,h3];exact Fini.ret rfl
 |true =>
  simp -implicitDefEqProofs only[c161,r161,go_sem,z0v,z0M,h1,h2,h3];refine CO.intro hb ?_;simp -implicitDefEqProofs only[go_sem];exact Fini.ret rfl
theorem z3s (s:ByteArray):Ans Tryz.prog 163 [Sx s] σ (Bo (tokB s)) σ:=by
 have d1:decide ((4:Int)≤(s.size:Nat))=decide (4≤s.size):=intle 4 s.size;have d2:decide (((s.size:Nat):Int)≤16)=decide (s.size≤16):=intle s.size 16;refine Ans.of_run t163 ?_;unfold tokB
 cases h:decide (4≤s.size) with
 |false =>
  simp -implicitDefEqProofs only[c163,r163,go_sem,d1,h];exact Fini.ret rfl
 |true =>
  simp -implicitDefEqProofs only[c163,r163,go_sem,d1,d2,h];exact Fini.ret rfl
end
def andI (a b:Int):Int:=IntKind.i64.wrap ((BitVec.ofInt 64 a &&& BitVec.ofInt 64 b).toNat:Int)
def hasF (f k:Int):Bool:=decide (0<andI f k)
def emS (s:ByteArray):Bool:=s.toList==(⟨#[]⟩:ByteArray).toList
def emU (n:Nat):Bool:=(n:Int)==0
def idR (n:Int):Bool:=decide (0≤n)&&decide (n≤2147483647)
def clkB (n:Nat):Bool:=decide ((n:Int)≤1099511627776)
def staR (n:Int):Bool:=decide (0≤n)&&decide (n≤3)
def zeroB (r:ReM) (f:Int):Bool :=
 (hasF f 1||r.id==0)&&((hasF f 2||emS r.txt)&&((hasF f 4||(emU r.st&&emU r.en))&&((hasF f 8||r.sta==0)&&((hasF f 16||emI r.mt.length)&&((hasF f 64||noBd (r.any,r.lo,r.hi))&&((hasF f 128||noRl r.ru)&&((hasF f 256||emI r.ls.length)&&(hasF f 512||zF r.val))))))))
def z0c (r:ReM) (f:Int):Bool :=
 idR r.id&&((!hasF f 2||tokB r.txt)&&(clkB r.st&&(clkB r.en&&(staR r.sta&&(listB r.mt&&((!hasF f 32|| !emI r.mt.length)&&((!hasF f 64||mayB r.any r.lo r.hi)&&((!hasF f 128||ruIs r.ru)&&(!hasF f 256||setB r.ls)))))))))
def mayR (r:ReM):Bool:=(fOf r.op).2&&(zeroB r (fOf r.op).1&&z0c r (fOf r.op).1)
theorem z55 (n:Nat):decide ((0:Int)<n)= !emI n:=by
 unfold emI;rw[Bool.eq_iff_iff];simp only[decide_eq_true_eq,Bool.not_eq_true',beq_eq_false_iff_ne];omega
theorem z6m (op:Int):(fOf op).1∈[0,1,3,116,117,8,128,768,16]:=by
 rcases ops17 op with rfl|rfl|rfl|rfl|rfl|rfl|rfl|rfl|rfl|rfl|rfl|rfl|rfl|rfl|rfl|rfl|rfl|h
 all_goals first|(rw[zdF h];decide)|decide
abbrev aI (f k:Int):Int:=IntKind.i64.wrap (((@HAnd.hAnd (BitVec 64) (BitVec 64) (BitVec 64) (@instHAndOfAndOp (BitVec IntKind.i64.bits) (@BitVec.instAndOp IntKind.i64.bits)) (BitVec.ofInt 64 f) (BitVec.ofInt 64 k)).toNat:Nat):Int)
theorem an_0:aI 0 1=0∧aI 0 2=0∧aI 0 4=0∧aI 0 8=0∧aI 0 16=0∧aI 0 32=0∧aI 0 64=0∧aI 0 128=0∧aI 0 256=0∧aI 0 512=0:=by decide +kernel
theorem hs_0:hasF 0 1=false∧hasF 0 2=false∧hasF 0 4=false∧hasF 0 8=false∧hasF 0 16=false∧hasF 0 32=false∧hasF 0 64=false∧hasF 0 128=false∧hasF 0 256=false∧hasF 0 512=false:=by decide +kernel
theorem an_1:aI 1 1=1∧aI 1 2=0∧aI 1 4=0∧aI 1 8=0∧aI 1 16=0∧aI 1 32=0∧aI 1 64=0∧aI 1 128=0∧aI 1 256=0∧aI 1 512=0:=by decide +kernel
theorem hs_1:hasF 1 1=true∧hasF 1 2=false∧hasF 1 4=false∧hasF 1 8=false∧hasF 1 16=false∧hasF 1 32=false∧hasF 1 64=false∧hasF 1 128=false∧hasF 1 256=false∧hasF 1 512=false:=by decide +kernel
theorem an_3:aI 3 1=1∧aI 3 2=2∧aI 3 4=0∧aI 3 8=0∧aI 3 16=0∧aI 3 32=0∧aI 3 64=0∧aI 3 128=0∧aI 3 256=0∧aI 3 512=0:=by decide +kernel
theorem hs_3:hasF 3 1=true∧hasF 3 2=true∧hasF 3 4=false∧hasF 3 8=false∧hasF 3 16=false∧hasF 3 32=false∧hasF 3 64=false∧hasF 3 128=false∧hasF 3 256=false∧hasF 3 512=false:=by decide +kernel
theorem zj3:aI 116 1=0∧aI 116 2=0∧aI 116 4=4∧aI 116 8=0∧aI 116 16=16∧aI 116 32=32∧aI 116 64=64∧aI 116 128=0∧aI 116 256=0∧aI 116 512=0:=by decide +kernel
theorem z6n:hasF 116 1=false∧hasF 116 2=false∧hasF 116 4=true∧hasF 116 8=false∧hasF 116 16=true∧hasF 116 32=true∧hasF 116 64=true∧hasF 116 128=false∧hasF 116 256=false∧hasF 116 512=false:=by decide +kernel
theorem zj4:aI 117 1=1∧aI 117 2=0∧aI 117 4=4∧aI 117 8=0∧aI 117 16=16∧aI 117 32=32∧aI 117 64=64∧aI 117 128=0∧aI 117 256=0∧aI 117 512=0:=by decide +kernel
theorem z6o:hasF 117 1=true∧hasF 117 2=false∧hasF 117 4=true∧hasF 117 8=false∧hasF 117 16=true∧hasF 117 32=true∧hasF 117 64=true∧hasF 117 128=false∧hasF 117 256=false∧hasF 117 512=false:=by decide +kernel
theorem an_8:aI 8 1=0∧aI 8 2=0∧aI 8 4=0∧aI 8 8=8∧aI 8 16=0∧aI 8 32=0∧aI 8 64=0∧aI 8 128=0∧aI 8 256=0∧aI 8 512=0:=by decide +kernel
theorem hs_8:hasF 8 1=false∧hasF 8 2=false∧hasF 8 4=false∧hasF 8 8=true∧hasF 8 16=false∧hasF 8 32=false∧hasF 8 64=false∧hasF 8 128=false∧hasF 8 256=false∧hasF 8 512=false:=by decide +kernel
theorem zj5:aI 128 1=0∧aI 128 2=0∧aI 128 4=0∧aI 128 8=0∧aI 128 16=0∧aI 128 32=0∧aI 128 64=0∧aI 128 128=128∧aI 128 256=0∧aI 128 512=0:=by decide +kernel
theorem hs_128:hasF 128 1=false∧hasF 128 2=false∧hasF 128 4=false∧hasF 128 8=false∧hasF 128 16=false∧hasF 128 32=false∧hasF 128 64=false∧hasF 128 128=true∧hasF 128 256=false∧hasF 128 512=false:=by decide +kernel
theorem zj6:aI 768 1=0∧aI 768 2=0∧aI 768 4=0∧aI 768 8=0∧aI 768 16=0∧aI 768 32=0∧aI 768 64=0∧aI 768 128=0∧aI 768 256=256∧aI 768 512=512:=by decide +kernel
theorem hs_768:hasF 768 1=false∧hasF 768 2=false∧hasF 768 4=false∧hasF 768 8=false∧hasF 768 16=false∧hasF 768 32=false∧hasF 768 64=false∧hasF 768 128=false∧hasF 768 256=true∧hasF 768 512=true:=by decide +kernel
theorem an_16:aI 16 1=0∧aI 16 2=0∧aI 16 4=0∧aI 16 8=0∧aI 16 16=16∧aI 16 32=0∧aI 16 64=0∧aI 16 128=0∧aI 16 256=0∧aI 16 512=0:=by decide +kernel
theorem hs_16:hasF 16 1=false∧hasF 16 2=false∧hasF 16 4=false∧hasF 16 8=false∧hasF 16 16=true∧hasF 16 32=false∧hasF 16 64=false∧hasF 16 128=false∧hasF 16 256=false∧hasF 16 512=false:=by decide +kernel
attribute [go_sem] z0v z0j z0M an_0 an_1 an_3 zj3 zj4 an_8 zj5 zj6 an_16
section
variable (σ:St)
theorem zj7 (r:ReM):Ans Tryz.prog 151 [reV r,I 0] σ (Bo (zeroB r 0)) σ:=by
 obtain⟨tok,op,id,y0,st,en,q0,mt,any,lo,hi,⟨src,u0,ra,rl,rh,eq⟩,ls,val⟩:=r;have b1:=z1n σ (any,lo,hi);have b2:=z1C σ ⟨src,u0,ra,rl,rh,eq⟩;have b3:=z1h σ val;unfold bandV at b1;unfold ruV at b2;refine Ans.of_run t151 ?_;unfold reV reC zeroB;simp only[hs_0,Bool.true_or,Bool.false_or,Bool.true_and];unfold emS;unfold emU;unfold emI
 cases h0:(id==0) with
 |false =>
  simp -implicitDefEqProofs only[c151,r151,go_sem,h0];exact Fini.ret rfl
 |true =>
 cases h1:(y0.toList==(⟨#[]⟩:ByteArray).toList) with
 |false =>
  simp -implicitDefEqProofs only[c151,r151,go_sem,h0,h1];exact Fini.ret rfl
 |true =>
 cases h2:(((st:Nat):Int)==0) with
 |false =>
  simp -implicitDefEqProofs only[c151,r151,go_sem,h0,h1,h2];exact Fini.ret rfl
 |true =>
 cases h3:(((en:Nat):Int)==0) with
 |false =>
  simp -implicitDefEqProofs only[c151,r151,go_sem,h0,h1,h2,h3];exact Fini.ret rfl
 |true =>
 cases h4:(q0==0) with
 |false =>
  simp -implicitDefEqProofs only[c151,r151,go_sem,h0,h1,h2,h3,h4];exact Fini.ret rfl
 |true =>
 cases h5:(((mt.length:Nat):Int)==0) with
 |false =>
  simp -implicitDefEqProofs only[c151,r151,go_sem,h0,h1,h2,h3,h4,h5];exact Fini.ret rfl
 |true =>
 simp -implicitDefEqProofs only[c151,r151,go_sem,h0,h1,h2,h3,h4,h5];refine CO.intro b1 ?_
 cases h6:noBd (any,lo,hi) with
 |false =>
  simp -implicitDefEqProofs only[go_sem];exact Fini.ret rfl
 |true =>
 simp -implicitDefEqProofs only[go_sem];refine CO.intro b2 ?_
 cases h7:noRl ⟨src,u0,ra,rl,rh,eq⟩ with
 |false =>
  simp -implicitDefEqProofs only[go_sem];exact Fini.ret rfl
 |true =>
 cases h8:(((ls.length:Nat):Int)==0) with
 |false =>
  simp -implicitDefEqProofs only[go_sem,h8];exact Fini.ret rfl
 |true =>
 simp -implicitDefEqProofs only[go_sem,h8];refine CO.intro b3 ?_
 cases h9:zF val with
 |false =>
  simp -implicitDefEqProofs only[go_sem];exact Fini.ret rfl
 |true =>
 simp -implicitDefEqProofs only[go_sem];exact Fini.ret rfl
theorem zhR (r:ReM):Ans Tryz.prog 152 [reV r,I 0] σ (Bo (z0c r 0)) σ:=by
 obtain⟨tok,op,id,y0,st,en,u0,mt,any,lo,hi,⟨src,q0,ra,rl,rh,eq⟩,ls,val⟩:=r;have b0:=z3s σ y0;have b1:=z1R σ mt;have b2:=z22 σ any lo hi;have b3:=z28 σ ⟨src,q0,ra,rl,rh,eq⟩;have b4:=z2b σ ls;unfold ruV at b3;refine Ans.of_run t152 ?_;unfold reV reC z0c idR staR clkB;simp only[hs_0,Bool.not_true,Bool.not_false,Bool.true_or,Bool.false_or,Bool.true_and,Bool.and_assoc]
 cases h0:decide (0≤id) with
 |false =>
  simp -implicitDefEqProofs only[c152,r152,go_sem,h0];exact Fini.ret rfl
 |true =>
 cases h1:decide (id≤2147483647) with
 |false =>
  simp -implicitDefEqProofs only[c152,r152,go_sem,h0,h1];exact Fini.ret rfl
 |true =>
 cases h2:decide (((st:Nat):Int)≤1099511627776) with
 |false =>
  simp -implicitDefEqProofs only[c152,r152,go_sem,h0,h1,h2];exact Fini.ret rfl
 |true =>
 cases h3:decide (((en:Nat):Int)≤1099511627776) with
 |false =>
  simp -implicitDefEqProofs only[c152,r152,go_sem,h0,h1,h2,h3];exact Fini.ret rfl
 |true =>
 cases h4:decide (0≤u0) with
 |false =>
  simp -implicitDefEqProofs only[c152,r152,go_sem,h0,h1,h2,h3,h4];exact Fini.ret rfl
 |true =>
 cases h5:decide (u0≤3) with
 |false =>
  simp -implicitDefEqProofs only[c152,r152,go_sem,h0,h1,h2,h3,h4,h5];exact Fini.ret rfl
 |true =>
 simp -implicitDefEqProofs only[c152,r152,go_sem,h0,h1,h2,h3,h4,h5];refine CO.intro b1 ?_
 cases h6:listB mt with
 |false =>
  simp -implicitDefEqProofs only[go_sem,];exact Fini.ret rfl
 |true =>
 simp -implicitDefEqProofs only[go_sem];exact Fini.ret rfl
theorem zj8 (r:ReM):Ans Tryz.prog 151 [reV r,I 1] σ (Bo (zeroB r 1)) σ:=by
 obtain⟨tok,op,id,y0,st,en,q0,mt,any,lo,hi,⟨src,u0,ra,rl,rh,eq⟩,ls,val⟩:=r;have b1:=z1n σ (any,lo,hi);have b2:=z1C σ ⟨src,u0,ra,rl,rh,eq⟩;have b3:=z1h σ val;unfold bandV at b1;unfold ruV at b2;refine Ans.of_run t151 ?_;unfold reV reC zeroB;simp only[hs_1,Bool.true_or,Bool.false_or,Bool.true_and];unfold emS;unfold emU;unfold emI
 cases h0:(y0.toList==(⟨#[]⟩:ByteArray).toList) with
 |false =>
  simp -implicitDefEqProofs only[c151,r151,go_sem,h0];exact Fini.ret rfl
 |true =>
 cases h1:(((st:Nat):Int)==0) with
 |false =>
  simp -implicitDefEqProofs only[c151,r151,go_sem,h0,h1];exact Fini.ret rfl
 |true =>
 cases h2:(((en:Nat):Int)==0) with
 |false =>
  simp -implicitDefEqProofs only[c151,r151,go_sem,h0,h1,h2];exact Fini.ret rfl
 |true =>
 cases h3:(q0==0) with
 |false =>
  simp -implicitDefEqProofs only[c151,r151,go_sem,h0,h1,h2,h3];exact Fini.ret rfl
 |true =>
 cases h4:(((mt.length:Nat):Int)==0) with
 |false =>
  simp -implicitDefEqProofs only[c151,r151,go_sem,h0,h1,h2,h3,h4];exact Fini.ret rfl
 |true =>
 simp -implicitDefEqProofs only[c151,r151,go_sem,h0,h1,h2,h3,h4];refine CO.intro b1 ?_
 cases h5:noBd (any,lo,hi) with
 |false =>
  simp -implicitDefEqProofs only[go_sem];exact Fini.ret rfl
 |true =>
 simp -implicitDefEqProofs only[go_sem];refine CO.intro b2 ?_
 cases h6:noRl ⟨src,u0,ra,rl,rh,eq⟩ with
 |false =>
  simp -implicitDefEqProofs only[go_sem];exact Fini.ret rfl
 |true =>
 cases h7:(((ls.length:Nat):Int)==0) with
 |false =>
  simp -implicitDefEqProofs only[go_sem,h7];exact Fini.ret rfl
 |true =>
 simp -implicitDefEqProofs only[go_sem,h7];refine CO.intro b3 ?_
 cases h8:zF val with
 |false =>
  simp -implicitDefEqProofs only[go_sem];exact Fini.ret rfl
 |true =>
 simp -implicitDefEqProofs only[go_sem];exact Fini.ret rfl
theorem zhS (r:ReM):Ans Tryz.prog 152 [reV r,I 1] σ (Bo (z0c r 1)) σ:=by
 obtain⟨tok,op,id,y0,st,en,u0,mt,any,lo,hi,⟨src,q0,ra,rl,rh,eq⟩,ls,val⟩:=r;have b0:=z3s σ y0;have b1:=z1R σ mt;have b2:=z22 σ any lo hi;have b3:=z28 σ ⟨src,q0,ra,rl,rh,eq⟩;have b4:=z2b σ ls;unfold ruV at b3;refine Ans.of_run t152 ?_;unfold reV reC z0c idR staR clkB;simp only[hs_1,Bool.not_true,Bool.not_false,Bool.true_or,Bool.false_or,Bool.true_and,Bool.and_assoc]
 cases h0:decide (0≤id) with
 |false =>
  simp -implicitDefEqProofs only[c152,r152,go_sem,h0];exact Fini.ret rfl
 |true =>
 cases h1:decide (id≤2147483647) with
 |false =>
  simp -implicitDefEqProofs only[c152,r152,go_sem,h0,h1];exact Fini.ret rfl
 |true =>
 cases h2:decide (((st:Nat):Int)≤1099511627776) with
 |false =>
  simp -implicitDefEqProofs only[c152,r152,go_sem,h0,h1,h2];exact Fini.ret rfl
 |true =>
 cases h3:decide (((en:Nat):Int)≤1099511627776) with
 |false =>
  simp -implicitDefEqProofs only[c152,r152,go_sem,h0,h1,h2,h3];exact Fini.ret rfl
 |true =>
 cases h4:decide (0≤u0) with
 |false =>
  simp -implicitDefEqProofs only[c152,r152,go_sem,h0,h1,h2,h3,h4];exact Fini.ret rfl
 |true =>
 cases h5:decide (u0≤3) with
 |false =>
  simp -implicitDefEqProofs only[c152,r152,go_sem,h0,h1,h2,h3,h4,h5];exact Fini.ret rfl
 |true =>
 simp -implicitDefEqProofs only[c152,r152,go_sem,h0,h1,h2,h3,h4,h5];refine CO.intro b1 ?_
 cases h6:listB mt with
 |false =>
  simp -implicitDefEqProofs only[go_sem,];exact Fini.ret rfl
 |true =>
 simp -implicitDefEqProofs only[go_sem];exact Fini.ret rfl
theorem zj9 (r:ReM):Ans Tryz.prog 151 [reV r,I 3] σ (Bo (zeroB r 3)) σ:=by
 obtain⟨tok,op,id,txt,st,en,y0,mt,any,lo,hi,⟨src,u0,ra,rl,rh,eq⟩,ls,val⟩:=r;have b1:=z1n σ (any,lo,hi);have b2:=z1C σ ⟨src,u0,ra,rl,rh,eq⟩;have b3:=z1h σ val;unfold bandV at b1;unfold ruV at b2;refine Ans.of_run t151 ?_;unfold reV reC zeroB;simp only[hs_3,Bool.true_or,Bool.false_or,Bool.true_and];unfold emU;unfold emI
 cases h0:(((st:Nat):Int)==0) with
 |false =>
  simp -implicitDefEqProofs only[c151,r151,go_sem,h0];exact Fini.ret rfl
 |true =>
 cases h1:(((en:Nat):Int)==0) with
 |false =>
  simp -implicitDefEqProofs only[c151,r151,go_sem,h0,h1];exact Fini.ret rfl
 |true =>
 cases h2:(y0==0) with
 |false =>
  simp -implicitDefEqProofs only[c151,r151,go_sem,h0,h1,h2];exact Fini.ret rfl
 |true =>
 cases h3:(((mt.length:Nat):Int)==0) with
 |false =>
  simp -implicitDefEqProofs only[c151,r151,go_sem,h0,h1,h2,h3];exact Fini.ret rfl
 |true =>
 simp -implicitDefEqProofs only[c151,r151,go_sem,h0,h1,h2,h3];refine CO.intro b1 ?_
 cases h4:noBd (any,lo,hi) with
 |false =>
  simp -implicitDefEqProofs only[go_sem];exact Fini.ret rfl
 |true =>
 simp -implicitDefEqProofs only[go_sem];refine CO.intro b2 ?_
 cases h5:noRl ⟨src,u0,ra,rl,rh,eq⟩ with
 |false =>
  simp -implicitDefEqProofs only[go_sem];exact Fini.ret rfl
 |true =>
 cases h6:(((ls.length:Nat):Int)==0) with
 |false =>
  simp -implicitDefEqProofs only[go_sem,h6];exact Fini.ret rfl
 |true =>
 simp -implicitDefEqProofs only[go_sem,h6];refine CO.intro b3 ?_
 cases h7:zF val with
 |false =>
  simp -implicitDefEqProofs only[go_sem];exact Fini.ret rfl
 |true =>
 simp -implicitDefEqProofs only[go_sem];exact Fini.ret rfl
theorem zhT (r:ReM):Ans Tryz.prog 152 [reV r,I 3] σ (Bo (z0c r 3)) σ:=by
 obtain⟨tok,op,id,u0,st,en,y0,mt,any,lo,hi,⟨src,q0,ra,rl,rh,eq⟩,ls,val⟩:=r;have b0:=z3s σ u0;have b1:=z1R σ mt;have b2:=z22 σ any lo hi;have b3:=z28 σ ⟨src,q0,ra,rl,rh,eq⟩;have b4:=z2b σ ls;unfold ruV at b3;refine Ans.of_run t152 ?_;unfold reV reC z0c idR staR clkB;simp only[hs_3,Bool.not_true,Bool.not_false,Bool.true_or,Bool.false_or,Bool.true_and,Bool.and_assoc]
 cases h0:decide (0≤id) with
 |false =>
  simp -implicitDefEqProofs only[c152,r152,go_sem,h0];exact Fini.ret rfl
 |true =>
 cases h1:decide (id≤2147483647) with
 |false =>
  simp -implicitDefEqProofs only[c152,r152,go_sem,h0,h1];exact Fini.ret rfl
 |true =>
 simp -implicitDefEqProofs only[c152,r152,go_sem,h0,h1];refine CO.intro b0 ?_
 cases h2:tokB u0 with
 |false =>
  simp -implicitDefEqProofs only[go_sem,];exact Fini.ret rfl
 |true =>
 cases h3:decide (((st:Nat):Int)≤1099511627776) with
 |false =>
  simp -implicitDefEqProofs only[go_sem,h3];exact Fini.ret rfl
 |true =>
 cases h4:decide (((en:Nat):Int)≤1099511627776) with
 |false =>
  simp -implicitDefEqProofs only[go_sem,h3,h4];exact Fini.ret rfl
 |true =>
 cases h5:decide (0≤y0) with
 |false =>
  simp -implicitDefEqProofs only[go_sem,h3,h4,h5];exact Fini.ret rfl
 |true =>
 cases h6:decide (y0≤3) with
 |false =>
  simp -implicitDefEqProofs only[go_sem,h3,h4,h5,h6];exact Fini.ret rfl
 |true =>
 simp -implicitDefEqProofs only[go_sem,h3,h4,h5,h6];refine CO.intro b1 ?_
 cases h7:listB mt with
 |false =>
  simp -implicitDefEqProofs only[go_sem,];exact Fini.ret rfl
 |true =>
 simp -implicitDefEqProofs only[go_sem];exact Fini.ret rfl
end
section
variable (σ:St)
theorem zfD (r:ReM):Ans Tryz.prog 151 [reV r,I 116] σ (Bo (zeroB r 116)) σ:=by
 obtain⟨tok,op,id,y0,st,en,q0,mt,any,lo,hi,⟨src,u0,ra,rl,rh,eq⟩,ls,val⟩:=r;have b1:=z1n σ (any,lo,hi);have b2:=z1C σ ⟨src,u0,ra,rl,rh,eq⟩;have b3:=z1h σ val;unfold bandV at b1;unfold ruV at b2;refine Ans.of_run t151 ?_;unfold reV reC zeroB;simp only[z6n,Bool.true_or,Bool.false_or,Bool.true_and];unfold emS;unfold emI
 cases h0:(id==0) with
 |false =>
  simp -implicitDefEqProofs only[c151,r151,go_sem,h0];exact Fini.ret rfl
 |true =>
 cases h1:(y0.toList==(⟨#[]⟩:ByteArray).toList) with
 |false =>
  simp -implicitDefEqProofs only[c151,r151,go_sem,h0,h1];exact Fini.ret rfl
 |true =>
 cases h2:(q0==0) with
 |false =>
  simp -implicitDefEqProofs only[c151,r151,go_sem,h0,h1,h2];exact Fini.ret rfl
 |true =>
 simp -implicitDefEqProofs only[c151,r151,go_sem,h0,h1,h2];refine CO.intro b2 ?_
 cases h3:noRl ⟨src,u0,ra,rl,rh,eq⟩ with
 |false =>
  simp -implicitDefEqProofs only[go_sem];exact Fini.ret rfl
 |true =>
 cases h4:(((ls.length:Nat):Int)==0) with
 |false =>
  simp -implicitDefEqProofs only[go_sem,h4];exact Fini.ret rfl
 |true =>
 simp -implicitDefEqProofs only[go_sem,h4];refine CO.intro b3 ?_
 cases h5:zF val with
 |false =>
  simp -implicitDefEqProofs only[go_sem];exact Fini.ret rfl
 |true =>
 simp -implicitDefEqProofs only[go_sem];exact Fini.ret rfl
theorem zdG (r:ReM):Ans Tryz.prog 152 [reV r,I 116] σ (Bo (z0c r 116)) σ:=by
 obtain⟨tok,op,id,y0,st,en,u0,mt,any,lo,hi,⟨src,q0,ra,rl,rh,eq⟩,ls,val⟩:=r;have b0:=z3s σ y0;have b1:=z1R σ mt;have b2:=z22 σ any lo hi;have b3:=z28 σ ⟨src,q0,ra,rl,rh,eq⟩;have b4:=z2b σ ls;unfold ruV at b3;refine Ans.of_run t152 ?_;unfold reV reC z0c idR staR clkB;simp only[z6n,Bool.not_true,Bool.not_false,Bool.true_or,Bool.false_or,Bool.true_and,Bool.and_assoc]
 cases h0:decide (0≤id) with
 |false =>
  simp -implicitDefEqProofs only[c152,r152,go_sem,h0];exact Fini.ret rfl
 |true =>
 cases h1:decide (id≤2147483647) with
 |false =>
  simp -implicitDefEqProofs only[c152,r152,go_sem,h0,h1];exact Fini.ret rfl
 |true =>
 cases h2:decide (((st:Nat):Int)≤1099511627776) with
 |false =>
  simp -implicitDefEqProofs only[c152,r152,go_sem,h0,h1,h2];exact Fini.ret rfl
 |true =>
 cases h3:decide (((en:Nat):Int)≤1099511627776) with
 |false =>
  simp -implicitDefEqProofs only[c152,r152,go_sem,h0,h1,h2,h3];exact Fini.ret rfl
 |true =>
 cases h4:decide (0≤u0) with
 |false =>
  simp -implicitDefEqProofs only[c152,r152,go_sem,h0,h1,h2,h3,h4];exact Fini.ret rfl
 |true =>
 cases h5:decide (u0≤3) with
 |false =>
  simp -implicitDefEqProofs only[c152,r152,go_sem,h0,h1,h2,h3,h4,h5];exact Fini.ret rfl
 |true =>
 simp -implicitDefEqProofs only[c152,r152,go_sem,h0,h1,h2,h3,h4,h5];refine CO.intro b1 ?_
 cases h6:listB mt with
 |false =>
  simp -implicitDefEqProofs only[go_sem,];exact Fini.ret rfl
 |true =>
 have hl:=z55 mt.length
 cases h7:(!emI mt.length) with
 |false =>
  rw[h7]at hl;simp -implicitDefEqProofs only[go_sem,hl];exact Fini.ret rfl
 |true =>
 rw[h7]at hl;simp -implicitDefEqProofs only[go_sem,hl];refine CO.intro b2 ?_
 cases h8:mayB any lo hi with
 |false =>
  simp -implicitDefEqProofs only[go_sem,];exact Fini.ret rfl
 |true =>
 simp -implicitDefEqProofs only[go_sem];exact Fini.ret rfl
theorem zfE (r:ReM):Ans Tryz.prog 151 [reV r,I 117] σ (Bo (zeroB r 117)) σ:=by
 obtain⟨tok,op,id,y0,st,en,q0,mt,any,lo,hi,⟨src,u0,ra,rl,rh,eq⟩,ls,val⟩:=r;have b1:=z1n σ (any,lo,hi);have b2:=z1C σ ⟨src,u0,ra,rl,rh,eq⟩;have b3:=z1h σ val;unfold bandV at b1;unfold ruV at b2;refine Ans.of_run t151 ?_;unfold reV reC zeroB;simp only[z6o,Bool.true_or,Bool.false_or,Bool.true_and];unfold emS;unfold emI
 cases h0:(y0.toList==(⟨#[]⟩:ByteArray).toList) with
 |false =>
  simp -implicitDefEqProofs only[c151,r151,go_sem,h0];exact Fini.ret rfl
 |true =>
 cases h1:(q0==0) with
 |false =>
  simp -implicitDefEqProofs only[c151,r151,go_sem,h0,h1];exact Fini.ret rfl
 |true =>
 simp -implicitDefEqProofs only[c151,r151,go_sem,h0,h1];refine CO.intro b2 ?_
 cases h2:noRl ⟨src,u0,ra,rl,rh,eq⟩ with
 |false =>
  simp -implicitDefEqProofs only[go_sem];exact Fini.ret rfl
 |true =>
 cases h3:(((ls.length:Nat):Int)==0) with
 |false =>
  simp -implicitDefEqProofs only[go_sem,h3];exact Fini.ret rfl
 |true =>
 simp -implicitDefEqProofs only[go_sem,h3];refine CO.intro b3 ?_
 cases h4:zF val with
 |false =>
  simp -implicitDefEqProofs only[go_sem];exact Fini.ret rfl
 |true =>
 simp -implicitDefEqProofs only[go_sem];exact Fini.ret rfl
theorem zdH (r:ReM):Ans Tryz.prog 152 [reV r,I 117] σ (Bo (z0c r 117)) σ:=by
 obtain⟨tok,op,id,y0,st,en,u0,mt,any,lo,hi,⟨src,q0,ra,rl,rh,eq⟩,ls,val⟩:=r;have b0:=z3s σ y0;have b1:=z1R σ mt;have b2:=z22 σ any lo hi;have b3:=z28 σ ⟨src,q0,ra,rl,rh,eq⟩;have b4:=z2b σ ls;unfold ruV at b3;refine Ans.of_run t152 ?_;unfold reV reC z0c idR staR clkB;simp only[z6o,Bool.not_true,Bool.not_false,Bool.true_or,Bool.false_or,Bool.true_and,Bool.and_assoc]
 cases h0:decide (0≤id) with
 |false =>
  simp -implicitDefEqProofs only[c152,r152,go_sem,h0];exact Fini.ret rfl
 |true =>
 cases h1:decide (id≤2147483647) with
 |false =>
  simp -implicitDefEqProofs only[c152,r152,go_sem,h0,h1];exact Fini.ret rfl
 |true =>
 cases h2:decide (((st:Nat):Int)≤1099511627776) with
 |false =>
  simp -implicitDefEqProofs only[c152,r152,go_sem,h0,h1,h2];exact Fini.ret rfl
 |true =>
 cases h3:decide (((en:Nat):Int)≤1099511627776) with
 |false =>
  simp -implicitDefEqProofs only[c152,r152,go_sem,h0,h1,h2,h3];exact Fini.ret rfl
 |true =>
 cases h4:decide (0≤u0) with
 |false =>
  simp -implicitDefEqProofs only[c152,r152,go_sem,h0,h1,h2,h3,h4];exact Fini.ret rfl
 |true =>
 cases h5:decide (u0≤3) with
 |false =>
  simp -implicitDefEqProofs only[c152,r152,go_sem,h0,h1,h2,h3,h4,h5];exact Fini.ret rfl
 |true =>
 simp -implicitDefEqProofs only[c152,r152,go_sem,h0,h1,h2,h3,h4,h5];refine CO.intro b1 ?_
 cases h6:listB mt with
 |false =>
  simp -implicitDefEqProofs only[go_sem,];exact Fini.ret rfl
 |true =>
 have hl:=z55 mt.length
 cases h7:(!emI mt.length) with
 |false =>
  rw[h7]at hl;simp -implicitDefEqProofs only[go_sem,hl];exact Fini.ret rfl
 |true =>
 rw[h7]at hl;simp -implicitDefEqProofs only[go_sem,hl];refine CO.intro b2 ?_
 cases h8:mayB any lo hi with
 |false =>
  simp -implicitDefEqProofs only[go_sem,];exact Fini.ret rfl
 |true =>
 simp -implicitDefEqProofs only[go_sem];exact Fini.ret rfl
end
section
variable (σ:St)
theorem zja (r:ReM):Ans Tryz.prog 151 [reV r,I 8] σ (Bo (zeroB r 8)) σ:=by
 obtain⟨tok,op,id,y0,st,en,sta,mt,any,lo,hi,⟨src,u0,ra,rl,rh,eq⟩,ls,val⟩:=r;have b1:=z1n σ (any,lo,hi);have b2:=z1C σ ⟨src,u0,ra,rl,rh,eq⟩;have b3:=z1h σ val;unfold bandV at b1;unfold ruV at b2;refine Ans.of_run t151 ?_;unfold reV reC zeroB;simp only[hs_8,Bool.true_or,Bool.false_or,Bool.true_and];unfold emS;unfold emU;unfold emI
 cases h0:(id==0) with
 |false =>
  simp -implicitDefEqProofs only[c151,r151,go_sem,h0];exact Fini.ret rfl
 |true =>
 cases h1:(y0.toList==(⟨#[]⟩:ByteArray).toList) with
 |false =>
  simp -implicitDefEqProofs only[c151,r151,go_sem,h0,h1];exact Fini.ret rfl
 |true =>
 cases h2:(((st:Nat):Int)==0) with
 |false =>
  simp -implicitDefEqProofs only[c151,r151,go_sem,h0,h1,h2];exact Fini.ret rfl
 |true =>
 cases h3:(((en:Nat):Int)==0) with
 |false =>
  simp -implicitDefEqProofs only[c151,r151,go_sem,h0,h1,h2,h3];exact Fini.ret rfl
 |true =>
 cases h4:(((mt.length:Nat):Int)==0) with
 |false =>
  simp -implicitDefEqProofs only[c151,r151,go_sem,h0,h1,h2,h3,h4];exact Fini.ret rfl
 |true =>
 simp -implicitDefEqProofs only[c151,r151,go_sem,h0,h1,h2,h3,h4];refine CO.intro b1 ?_
 cases h5:noBd (any,lo,hi) with
 |false =>
  simp -implicitDefEqProofs only[go_sem];exact Fini.ret rfl
 |true =>
 simp -implicitDefEqProofs only[go_sem];refine CO.intro b2 ?_
 cases h6:noRl ⟨src,u0,ra,rl,rh,eq⟩ with
 |false =>
  simp -implicitDefEqProofs only[go_sem];exact Fini.ret rfl
 |true =>
 cases h7:(((ls.length:Nat):Int)==0) with
 |false =>
  simp -implicitDefEqProofs only[go_sem,h7];exact Fini.ret rfl
 |true =>
 simp -implicitDefEqProofs only[go_sem,h7];refine CO.intro b3 ?_
 cases h8:zF val with
 |false =>
  simp -implicitDefEqProofs only[go_sem];exact Fini.ret rfl
 |true =>
 simp -implicitDefEqProofs only[go_sem];exact Fini.ret rfl
theorem zhU (r:ReM):Ans Tryz.prog 152 [reV r,I 8] σ (Bo (z0c r 8)) σ:=by
 obtain⟨tok,op,id,y0,st,en,u0,mt,any,lo,hi,⟨src,q0,ra,rl,rh,eq⟩,ls,val⟩:=r;have b0:=z3s σ y0;have b1:=z1R σ mt;have b2:=z22 σ any lo hi;have b3:=z28 σ ⟨src,q0,ra,rl,rh,eq⟩;have b4:=z2b σ ls;unfold ruV at b3;refine Ans.of_run t152 ?_;unfold reV reC z0c idR staR clkB;simp only[hs_8,Bool.not_true,Bool.not_false,Bool.true_or,Bool.false_or,Bool.true_and,Bool.and_assoc]
 cases h0:decide (0≤id) with
 |false =>
  simp -implicitDefEqProofs only[c152,r152,go_sem,h0];exact Fini.ret rfl
 |true =>
 cases h1:decide (id≤2147483647) with
 |false =>
  simp -implicitDefEqProofs only[c152,r152,go_sem,h0,h1];exact Fini.ret rfl
 |true =>
 cases h2:decide (((st:Nat):Int)≤1099511627776) with
 |false =>
  simp -implicitDefEqProofs only[c152,r152,go_sem,h0,h1,h2];exact Fini.ret rfl
 |true =>
 cases h3:decide (((en:Nat):Int)≤1099511627776) with
 |false =>
  simp -implicitDefEqProofs only[c152,r152,go_sem,h0,h1,h2,h3];exact Fini.ret rfl
 |true =>
 cases h4:decide (0≤u0) with
 |false =>
  simp -implicitDefEqProofs only[c152,r152,go_sem,h0,h1,h2,h3,h4];exact Fini.ret rfl
 |true =>
 cases h5:decide (u0≤3) with
 |false =>
  simp -implicitDefEqProofs only[c152,r152,go_sem,h0,h1,h2,h3,h4,h5];exact Fini.ret rfl
 |true =>
 simp -implicitDefEqProofs only[c152,r152,go_sem,h0,h1,h2,h3,h4,h5];refine CO.intro b1 ?_
 cases h6:listB mt with
 |false =>
  simp -implicitDefEqProofs only[go_sem,];exact Fini.ret rfl
 |true =>
 simp -implicitDefEqProofs only[go_sem];exact Fini.ret rfl
theorem zfF (r:ReM):Ans Tryz.prog 151 [reV r,I 128] σ (Bo (zeroB r 128)) σ:=by
 obtain⟨tok,op,id,u0,st,en,q0,mt,any,lo,hi,⟨src,y0,ra,rl,rh,eq⟩,ls,val⟩:=r;have b1:=z1n σ (any,lo,hi);have b2:=z1C σ ⟨src,y0,ra,rl,rh,eq⟩;have b3:=z1h σ val;unfold bandV at b1;unfold ruV at b2;refine Ans.of_run t151 ?_;unfold reV reC zeroB;simp only[hs_128,Bool.true_or,Bool.false_or,Bool.true_and];unfold emS;unfold emU;unfold emI
 cases h0:(id==0) with
 |false =>
  simp -implicitDefEqProofs only[c151,r151,go_sem,h0];exact Fini.ret rfl
 |true =>
 cases h1:(u0.toList==(⟨#[]⟩:ByteArray).toList) with
 |false =>
  simp -implicitDefEqProofs only[c151,r151,go_sem,h0,h1];exact Fini.ret rfl
 |true =>
 cases h2:(((st:Nat):Int)==0) with
 |false =>
  simp -implicitDefEqProofs only[c151,r151,go_sem,h0,h1,h2];exact Fini.ret rfl
 |true =>
 cases h3:(((en:Nat):Int)==0) with
 |false =>
  simp -implicitDefEqProofs only[c151,r151,go_sem,h0,h1,h2,h3];exact Fini.ret rfl
 |true =>
 cases h4:(q0==0) with
 |false =>
  simp -implicitDefEqProofs only[c151,r151,go_sem,h0,h1,h2,h3,h4];exact Fini.ret rfl
 |true =>
 cases h5:(((mt.length:Nat):Int)==0) with
 |false =>
  simp -implicitDefEqProofs only[c151,r151,go_sem,h0,h1,h2,h3,h4,h5];exact Fini.ret rfl
 |true =>
 simp -implicitDefEqProofs only[c151,r151,go_sem,h0,h1,h2,h3,h4,h5];refine CO.intro b1 ?_
 cases h6:noBd (any,lo,hi) with
 |false =>
  simp -implicitDefEqProofs only[go_sem];exact Fini.ret rfl
 |true =>
 cases h7:(((ls.length:Nat):Int)==0) with
 |false =>
  simp -implicitDefEqProofs only[go_sem,h7];exact Fini.ret rfl
 |true =>
 simp -implicitDefEqProofs only[go_sem,h7];refine CO.intro b3 ?_
 cases h8:zF val with
 |false =>
  simp -implicitDefEqProofs only[go_sem];exact Fini.ret rfl
 |true =>
 simp -implicitDefEqProofs only[go_sem];exact Fini.ret rfl
theorem zdI (r:ReM):Ans Tryz.prog 152 [reV r,I 128] σ (Bo (z0c r 128)) σ:=by
 obtain⟨tok,op,id,q0,st,en,y0,mt,any,lo,hi,⟨src,u0,ra,rl,rh,eq⟩,ls,val⟩:=r;have b0:=z3s σ q0;have b1:=z1R σ mt;have b2:=z22 σ any lo hi;have b3:=z28 σ ⟨src,u0,ra,rl,rh,eq⟩;have b4:=z2b σ ls;unfold ruV at b3;refine Ans.of_run t152 ?_;unfold reV reC z0c idR staR clkB;simp only[hs_128,Bool.not_true,Bool.not_false,Bool.true_or,Bool.false_or,Bool.true_and,Bool.and_assoc]
 cases h0:decide (0≤id) with
 |false =>
  simp -implicitDefEqProofs only[c152,r152,go_sem,h0];exact Fini.ret rfl
 |true =>
 cases h1:decide (id≤2147483647) with
 |false =>
  simp -implicitDefEqProofs only[c152,r152,go_sem,h0,h1];exact Fini.ret rfl
 |true =>
 cases h2:decide (((st:Nat):Int)≤1099511627776) with
 |false =>
  simp -implicitDefEqProofs only[c152,r152,go_sem,h0,h1,h2];exact Fini.ret rfl
 |true =>
 cases h3:decide (((en:Nat):Int)≤1099511627776) with
 |false =>
  simp -implicitDefEqProofs only[c152,r152,go_sem,h0,h1,h2,h3];exact Fini.ret rfl
 |true =>
 cases h4:decide (0≤y0) with
 |false =>
  simp -implicitDefEqProofs only[c152,r152,go_sem,h0,h1,h2,h3,h4];exact Fini.ret rfl
 |true =>
 cases h5:decide (y0≤3) with
 |false =>
  simp -implicitDefEqProofs only[c152,r152,go_sem,h0,h1,h2,h3,h4,h5];exact Fini.ret rfl
 |true =>
 simp -implicitDefEqProofs only[c152,r152,go_sem,h0,h1,h2,h3,h4,h5];refine CO.intro b1 ?_
 cases h6:listB mt with
 |false =>
  simp -implicitDefEqProofs only[go_sem,];exact Fini.ret rfl
 |true =>
 simp -implicitDefEqProofs only[go_sem];refine CO.intro b3 ?_
 cases h7:ruIs ⟨src,u0,ra,rl,rh,eq⟩ with
 |false =>
  simp -implicitDefEqProofs only[go_sem,];exact Fini.ret rfl
 |true =>
 simp -implicitDefEqProofs only[go_sem];exact Fini.ret rfl
end
end Go.Proofs.YteakobbdgehlgaaGreatDoor
