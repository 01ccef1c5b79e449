/- Bands and rules laid as bytes, bands read, by the program. No condition. -/
import Derived.Test.YtmkmhhjkdaklbaaGreatXRu4u
import Derived.Test.YtmkmhhjkdaklbaaGreatProg
import Derived.Test.YtmkmhhjkdaklbaaGreatAbStepu
import Derived.Test.YtmkmhhjkdaklbaaGreatRows
import Derived.Test.YtmkmhhjkdaklbaaGreatXPDoc1u
import Derived.Test.YtmkmhhjkdaklbaaGreatAbArgu
import Derived.Test.YtmkmhhjkdaklbaaGreatCod2u
import Derived.Test.YtmkmhhjkdaklbaaGreatXRu3u
import Derived.Test.YtmkmhhjkdaklbaaGreatXPPar4u
import Derived.Test.YtmkmhhjkdaklbaaGreatAbTreeu
set_option linter.unusedSimpArgs false
set_option linter.unusedVariables false
set_option linter.unusedSectionVars false
namespace Go.Proofs.YtmkmhhjkdaklbaaGreat
open Go Go.Ab Go.Cod
set_option maxRecDepth 100000
theorem Inb0 (b:Byt):Inb b (0,false):=Nat.zero_le _
section
variable (σ:St)
theorem zaM (n:Nat) (hn:n<18446744073709551616):Ans Tryz.prog 71 [UN n] σ (.sl 1 (byv (putN n))) σ:=(z7u σ n hn).shut (by rw[z03]) (z2d _ _)
theorem z6h (x:Bnd):Ans Tryz.prog 70 [bandV x] σ (.sl 1 (byv (putBd x))) σ:=by
 obtain⟨any,lo,hi⟩:=x;refine Ans.of_run t70 ?_;unfold bandV putBd
 cases any with
 |true =>
  simp -implicitDefEqProofs only[c70,r70,go_sem];exact Fini.ret rfl
 |false =>
  have hc:=fun s=>z8K s [[0],putV lo,putV hi] (by simp) (by simp) (by simp[putV,z2j])
  have e:([[0],putV lo,putV hi]:List Byt).flatten=0::(putV lo++putV hi):=by simp
  rw[e]at hc;have i1:=fun s=>z3v s lo
  have i2:=fun s=>z3v s hi
  have i3:=fun s=>z4g s (bitsF lo)
  have i4:=fun s=>z4g s (bitsF hi)
  simp -implicitDefEqProofs only[c70,r70,go_sem]
  first|refine CD.intro (i1 _) ?_|refine CS.intro i1 ?_
  simp -implicitDefEqProofs only[go_sem]
  first|refine CD.intro (i3 _) ?_|refine CS.intro i3 ?_
  simp -implicitDefEqProofs only[go_sem]
  first|refine CD.intro (i2 _) ?_|refine CS.intro i2 ?_
  simp -implicitDefEqProofs only[go_sem]
  first|refine CD.intro (i4 _) ?_|refine CS.intro i4 ?_
  simp -implicitDefEqProofs only[go_sem];refine CD.intro (hc _) ?_;simp -implicitDefEqProofs only[go_sem];exact Fini.ret rfl
theorem z59 (b:Byt) (hb:b.length≤50000):Ans Tryz.prog 58 [.sl 1 (byv b)] σ (readV (bandR b) b bandV (bandV (false,0,0))) σ:=by
 have hS:=(zbG b).top;refine Ans.of_run' t58 (fun hbel _=>?_)
 simp -implicitDefEqProofs only[c58,r58,go_sem];refine CO.intro (z6a _ b) ?_;simp -implicitDefEqProofs only[go_sem,List.append_assoc,List.length_append];generalize hq1:runR byteR 0 b (0,false)=q1;have hin1:Inb b q1.2:=by rw[←hq1];exact z0l _ _ _ _ (Inb0 b)
 have hby:=z1p (σ++[.box [Bo false,Fl 0,Fl 0],rob b (0,false),.box [Bo false,Fl 0,Fl 0]]) (σ.length+1) b (0,false) (g1 _ _ _ _) (Inb0 b) hb;rw[hq1,s1]at hby;refine CO.intro hby ?_;obtain⟨c,q⟩:=q1;simp only at hin1⊢;by_cases h0:c=0
 · subst h0;have v1:=zaL (σ++[.box [Bo false,Fl 0,Fl 0],rob b q,.box [Bo false,Fl 0,Fl 0]]) (σ.length+1) b q (g1 _ _ _ _) hin1 hb;have hi2:=(z0J b).inb q hin1
   have hL:bandS b (0,false)=((false,(valS b q).1,(valS b (valS b q).2).1),took (valS b (valS b q).2).2 0 (mayB false (valS b q).1 (valS b (valS b q).2).1)):=by
    unfold bandS z0M bnd0S;rw[hq1];rfl
   generalize valS b q=w1 at v1 hi2 hL;obtain⟨lo,p1⟩:=w1;simp only at v1 hi2 hL;rw[s1]at v1;have v2:=zaL (σ++[.box [Bo false,Fl 0,Fl 0],rob b p1,.box [Bo false,Fl 0,Fl 0]]) (σ.length+1) b p1 (g1 _ _ _ _) hi2 hb;have hi3:=(z0J b).inb p1 hi2;generalize valS b p1=w2 at v2 hi3 hL;obtain⟨hi,p2⟩:=w2;simp only at v2 hi3 hL;rw[s1]at v2;have e0:((((0:UInt8).toNat:Nat):Int)==0)=true:=rfl;simp -implicitDefEqProofs only[go_sem,bc,e0,g0,g1,g2,s0,s1,s2];refine CO.intro v1 ?_;simp -implicitDefEqProofs only[go_sem];refine CO.intro v2 ?_;have h1:=z0a (σ++[.box [Bo false,Fl 0,Fl 0],rob b p2,.box [Bo false,Fl lo,Fl hi]]) (σ.length+1) b p2 (mayB false lo hi) (g1 _ _ _ _) hi3 hb;rw[s1]at h1;have hL:bandS b (0,false)=((false,lo,hi),took p2 0 (mayB false lo hi)):=hL;rw[hL]at hS;generalize took p2 0 (mayB false lo hi)=qe at h1 hS;have h2:=z3P (σ++[.box [Bo false,Fl 0,Fl 0],rob b qe,.box [Bo false,Fl lo,Fl hi]]) (σ.length+1) b qe (g1 _ _ _ _);simp -implicitDefEqProofs only[go_sem,g0,g1,g2,s0,s1,s2];refine CO.intro (z2f _ false lo hi) ?_;simp -implicitDefEqProofs only[go_sem];refine CO.intro h1 ?_;simp -implicitDefEqProofs only[go_sem];refine CO.intro h2 ?_
   cases hr:bandR b with
   |none =>
    have hb2:=hS.2 hr;obtain⟨qa,qb⟩:=qe;simp only at hb2;subst hb2;simp -implicitDefEqProofs only[go_sem,g0,g1,g2,s0,s1,s2];exact tr_ (σ':=σ) (ex:=[_,_,_]) rfl (by unfold readV;exact z0b (z1C _ _)) hbel
   |some p =>
    obtain⟨M,t⟩:=p;have hb2:=hS.1 M t hr;simp only[Prod.mk.injEq]at hb2;obtain⟨rfl,rfl⟩:=hb2;simp -implicitDefEqProofs only[go_sem,g0,g1,g2,s0,s1,s2];exact tr_ (σ':=σ) (ex:=[_,_,_]) rfl (by unfold readV;exact z0b (z1C _ _)) hbel
 · have e0:(((c.toNat:Nat):Int)==0)=false:=by
    rw[Bool.eq_false_iff];intro h;rw[beq_iff_eq]at h;exact h0 (UInt8.toNat_inj.1 (by rw[show(0:UInt8).toNat=0 from rfl];omega))
   by_cases h1:c=1
   · subst h1
     have hL:bandS b (0,false)=((true,0,0),took q 0 (mayB true 0 0)):=by
      unfold bandS z0M bnd0S;rw[hq1];rfl
     have e1:((((1:UInt8).toNat:Nat):Int)==1)=true:=rfl;simp -implicitDefEqProofs only[go_sem,bc,e0,e1,g0,g1,g2,s0,s1,s2];have h1:=z0a (σ++[.box [Bo false,Fl 0,Fl 0],rob b q,.box [Bo true,Fl 0,Fl 0]]) (σ.length+1) b q (mayB true 0 0) (g1 _ _ _ _) hin1 hb;rw[s1]at h1;have hL:bandS b (0,false)=((true,0,0),took q 0 (mayB true 0 0)):=hL;rw[hL]at hS;generalize took q 0 (mayB true 0 0)=qe at h1 hS;have h2:=z3P (σ++[.box [Bo false,Fl 0,Fl 0],rob b qe,.box [Bo true,Fl 0,Fl 0]]) (σ.length+1) b qe (g1 _ _ _ _);refine CO.intro (z2f _ true 0 0) ?_;simp -implicitDefEqProofs only[go_sem];refine CO.intro h1 ?_;simp -implicitDefEqProofs only[go_sem];refine CO.intro h2 ?_
     cases hr:bandR b with
     |none =>
      have hb2:=hS.2 hr;obtain⟨qa,qb⟩:=qe;simp only at hb2;subst hb2;simp -implicitDefEqProofs only[go_sem,g0,g1,g2,s0,s1,s2];exact tr_ (σ':=σ) (ex:=[_,_,_]) rfl (by unfold readV;exact z0b (z1C _ _)) hbel
     |some p =>
      obtain⟨M,t⟩:=p;have hb2:=hS.1 M t hr;simp only[Prod.mk.injEq]at hb2;obtain⟨rfl,rfl⟩:=hb2;simp -implicitDefEqProofs only[go_sem,g0,g1,g2,s0,s1,s2];exact tr_ (σ':=σ) (ex:=[_,_,_]) rfl (by unfold readV;exact z0b (z1C _ _)) hbel
   · have hL:bandS b (0,false)=((false,0,0),took (took q 0 false) 0 (mayB false 0 0)):=by
      unfold bandS z0M bnd0S;rw[hq1];simp only[h0,h1,if_false];rfl
     have e1:(((c.toNat:Nat):Int)==1)=false:=by
      rw[Bool.eq_false_iff];intro h;rw[beq_iff_eq]at h;exact h1 (UInt8.toNat_inj.1 (by rw[show(1:UInt8).toNat=1 from rfl];omega))
     have v1:=z0a (σ++[.box [Bo false,Fl 0,Fl 0],rob b q,.box [Bo false,Fl 0,Fl 0]]) (σ.length+1) b q false (g1 _ _ _ _) hin1 hb;rw[s1]at v1;have hi2:=z1n b q false hin1;generalize took q 0 false=p1 at v1 hi2 hL;simp -implicitDefEqProofs only[go_sem,bc,e0,e1,g0,g1,g2,s0,s1,s2];refine CO.intro v1 ?_;have h1:=z0a (σ++[.box [Bo false,Fl 0,Fl 0],rob b p1,.box [Bo false,Fl 0,Fl 0]]) (σ.length+1) b p1 (mayB false 0 0) (g1 _ _ _ _) hi2 hb;rw[s1]at h1;have hL:bandS b (0,false)=((false,0,0),took p1 0 (mayB false 0 0)):=hL;rw[hL]at hS;generalize took p1 0 (mayB false 0 0)=qe at h1 hS;have h2:=z3P (σ++[.box [Bo false,Fl 0,Fl 0],rob b qe,.box [Bo false,Fl 0,Fl 0]]) (σ.length+1) b qe (g1 _ _ _ _);simp -implicitDefEqProofs only[go_sem,g0,g1,g2,s0,s1,s2];refine CO.intro (z2f _ false 0 0) ?_;simp -implicitDefEqProofs only[go_sem];refine CO.intro h1 ?_;simp -implicitDefEqProofs only[go_sem];refine CO.intro h2 ?_
     cases hr:bandR b with
     |none =>
      have hb2:=hS.2 hr;obtain⟨qa,qb⟩:=qe;simp only at hb2;subst hb2;simp -implicitDefEqProofs only[go_sem,g0,g1,g2,s0,s1,s2];exact tr_ (σ':=σ) (ex:=[_,_,_]) rfl (by unfold readV;exact z0b (z1C _ _)) hbel
     |some p =>
      obtain⟨M,t⟩:=p;have hb2:=hS.1 M t hr;simp only[Prod.mk.injEq]at hb2;obtain⟨rfl,rfl⟩:=hb2;simp -implicitDefEqProofs only[go_sem,g0,g1,g2,s0,s1,s2];exact tr_ (σ':=σ) (ex:=[_,_,_]) rfl (by unfold readV;exact z0b (z1C _ _)) hbel
end
theorem z0B {α:Type} {r:Option (α×Byt)} {b:Byt} {enc:α→AV} {z:AV} (h:r=none):readV r b enc z=.tup [z,I 0,Bo false]:=by subst h;rfl
theorem z0K {α:Type} {r:Option (α×Byt)} {b:Byt} {enc:α→AV} {z:AV} {x:α} {t:Byt} (h:r=some (x,t)):readV r b enc z=.tup [enc x,I (b.length-t.length:Nat),Bo true]:=by subst h;rfl
abbrev mlV (M:List Mtr):AV:=.sl 3 (mvs3 M)
section
variable (σ:St) (p:Nat) (b:Byt) (q:Nat×Bool)
theorem z8M (h:σ[p]?=some (rob b q)) (hq:Inb b q) (hb:b.length≤50000):Ans Tryz.prog 55 [.ptr p 0,.fn 56 [] []] σ (mlV (runR listR [] b q).1) (σ.set p (rob b (runR listR [] b q).2)):=by
 obtain⟨a,bad⟩:=q;have hq:a≤b.length:=hq;have hl:(b.drop a).length≤50000:=by rw[List.length_drop];omega
 cases hr:listR (b.drop a) with
 |none =>
  have hrd:=z8G σ (b.drop a) hl;rw[z0B hr]at hrd
  have e:runR listR [] b (a,bad)=([],(a,true)):=by
   cases bad
   · exact z1j hr
   · exact z0Q _ _ _ _
  have e2:took (a,bad) 0 false=(a,true):=by cases bad<;>rfl
  have ht:=z1f σ p b (a,bad) 0 false h (by simp only;omega)
  rw[e2]at ht;rw[e]
  have:Ans Tryz.prog 55 [.ptr p 0,.fn 56 [] []] σ .nils (σ.set p (rob b (a,true))):=by
   refine Ans.of_run t55 ?_;simp -implicitDefEqProofs only[c55,r55,go_sem];refine CO.intro (z1e σ p b (a,bad) h hq) ?_;simp -implicitDefEqProofs only[go_sem];refine CO.intro hrd ?_;simp -implicitDefEqProofs only[go_sem];refine CO.intro ht ?_;simp -implicitDefEqProofs only[go_sem];exact Fini.ret rfl
  exact this.subR (.nils 3)
 |some x =>
  obtain⟨x,t⟩:=x;have hrd:=z8G σ (b.drop a) hl;rw[z0K hr]at hrd;have hdr:=ends_list.drop hq hr;have ht:=z1f σ p b (a,bad) ((b.drop a).length-t.length) true h (by simp only[List.length_drop];omega)
  cases bad with
  |true =>
   have e2:took (a,true) ((b.drop a).length-t.length) true=(a,true):=rfl;rw[e2]at ht;rw[z0Q]
   have:Ans Tryz.prog 55 [.ptr p 0,.fn 56 [] []] σ .nils (σ.set p (rob b (a,true))):=by
    refine Ans.of_run t55 ?_;simp -implicitDefEqProofs only[c55,r55,go_sem];refine CO.intro (z1e σ p b (a,true) h hq) ?_;simp -implicitDefEqProofs only[go_sem];refine CO.intro hrd ?_;simp -implicitDefEqProofs only[go_sem];refine CO.intro ht ?_;simp -implicitDefEqProofs only[go_sem];exact Fini.ret rfl
   exact this.subR (.nils 3)
  |false =>
   have e2:took (a,false) ((b.drop a).length-t.length) true=(b.length-t.length,false):=by
    simp only[took,Bool.false_or,Bool.not_true,Bool.false_eq_true,if_false,List.length_drop];congr 1;omega
   rw[e2]at ht;rw[z14 hr];refine Ans.of_run t55 ?_;simp -implicitDefEqProofs only[c55,r55,go_sem];refine CO.intro (z1e σ p b (a,false) h hq) ?_;simp -implicitDefEqProofs only[go_sem];refine CO.intro hrd ?_;simp -implicitDefEqProofs only[go_sem];refine CO.intro ht ?_;simp -implicitDefEqProofs only[go_sem];exact Fini.ret rfl
theorem zdh (h:σ[p]?=some (rob b q)) (hq:Inb b q) (hb:b.length≤50000):Ans Tryz.prog 57 [.ptr p 0,.fn 58 [] []] σ (bandV (runR bandR (false,0,0) b q).1) (σ.set p (rob b (runR bandR (false,0,0) b q).2)):=by
 obtain⟨a,bad⟩:=q;have hq:a≤b.length:=hq;have hl:(b.drop a).length≤50000:=by rw[List.length_drop];omega
 have hp:p<σ.length:=(List.getElem?_eq_some_iff.1 h).1;have hz:∀ob,(σ++[ob])[p]?=some (rob b (a,bad)):=fun ob=>by rw[List.getElem?_append_left hp];exact h
 have hst:∀ob X,(σ++[ob]).set p X=σ.set p X++[ob]:=fun ob X=>by rw[List.set_append_left _ _ hp]
 have hlen:∀X,(σ.set p X).length=σ.length:=fun X=>List.length_set
 have gx:∀(X:Ob) (o:Ob) (ex:St),(σ.set p X++o::ex)[σ.length]?=some o:=fun X o ex=>by rw[←hlen X];exact g0 _ _ _
 have sx:∀(X:Ob) (o u:Ob) (ex:St),(σ.set p X++o::ex).set σ.length u=σ.set p X++u::ex:=fun X o u ex=>by rw[←hlen X];exact s0 _ _ _ _
 have gx1:∀(X:Ob) (o o2:Ob) (ex:St),(σ.set p X++o::o2::ex)[σ.length+1]?=some o2:=fun X o o2 ex=>by rw[←hlen X];exact g1 _ _ _ _
 have hbo:∀(hbel:∀o∈σ,BelO σ.length o) (q:Nat×Bool),∀o∈σ.set p (rob b q),BelO (σ.set p (rob b q)).length o:=fun hbel q=>by
  rw[hlen]
  exact z2c hbel (fun c hc=>by
   simp only[List.mem_cons,List.not_mem_nil,or_false]at hc;rcases hc with rfl|rfl|rfl
   · exact z2d _ _
   · exact .pl _
   · exact .pl _)
 cases hr:bandR (b.drop a) with
 |none =>
  have hrd:=fun s=>z59 s (b.drop a) hl
  simp only[z0B hr]at hrd
  have e:runR bandR (false,0,0) b (a,bad)=((false,0,0),(a,true)):=by
   cases bad
   · exact z1j hr
   · exact z0Q _ _ _ _
  have e2:took (a,bad) 0 false=(a,true):=by cases bad<;>rfl
  have ht:=fun ob=>z1f (σ++[ob]) p b (a,bad) 0 false (hz ob) (by simp only;omega)
  simp only[e2,hst]at ht;rw[e];refine Ans.of_run' t57 (fun hbel _=>?_)
  simp -implicitDefEqProofs only[c57,r57,go_sem];refine CO.intro (z1e _ p b (a,bad) (hz _) hq) ?_;simp -implicitDefEqProofs only[go_sem];refine CO.intro (hrd _) ?_;simp -implicitDefEqProofs only[go_sem,bandV];refine CO.intro (ht _) ?_;simp -implicitDefEqProofs only[go_sem,gx,sx,gx1,List.append_assoc,List.length_append,hlen];exact Fini.trim2 (σ':=σ.set p (rob b (a,true))) (ex:=[_,_]) (by simp -implicitDefEqProofs only[go_sem,resA,z02,rvA,oneOf,gx]<;>rfl) rfl (by rw[hlen];exact Nat.le_refl _) (z1C _ (false,0,0)) (hbo hbel _)
 |some x =>
  obtain⟨x,t⟩:=x;have hrd:=fun s=>z59 s (b.drop a) hl
  simp only[z0K hr]at hrd;have hdr:=ends_band.drop hq hr;have ht:=fun ob=>z1f (σ++[ob]) p b (a,bad) ((b.drop a).length-t.length) true (hz ob) (by simp only[List.length_drop];omega)
  simp only[hst]at ht
  cases bad with
  |true =>
   have e2:took (a,true) ((b.drop a).length-t.length) true=(a,true):=rfl;rw[e2]at ht;rw[z0Q];refine Ans.of_run' t57 (fun hbel _=>?_)
   simp -implicitDefEqProofs only[c57,r57,go_sem];refine CO.intro (z1e _ p b (a,true) (hz _) hq) ?_;simp -implicitDefEqProofs only[go_sem];refine CO.intro (hrd _) ?_;simp -implicitDefEqProofs only[go_sem,bandV];refine CO.intro (ht _) ?_;simp -implicitDefEqProofs only[go_sem,gx,sx,gx1,List.append_assoc,List.length_append,hlen];exact Fini.trim2 (σ':=σ.set p (rob b (a,true))) (ex:=[_,_]) (by simp -implicitDefEqProofs only[go_sem,resA,z02,rvA,oneOf,gx]<;>rfl) rfl (by rw[hlen];exact Nat.le_refl _) (z1C _ (false,0,0)) (hbo hbel _)
  |false =>
   have e2:took (a,false) ((b.drop a).length-t.length) true=(b.length-t.length,false):=by
    simp only[took,Bool.false_or,Bool.not_true,Bool.false_eq_true,if_false,List.length_drop];congr 1;omega
   rw[e2]at ht;rw[z14 hr];refine Ans.of_run' t57 (fun hbel _=>?_)
   simp -implicitDefEqProofs only[c57,r57,go_sem];refine CO.intro (z1e _ p b (a,false) (hz _) hq) ?_;simp -implicitDefEqProofs only[go_sem];refine CO.intro (hrd _) ?_;simp -implicitDefEqProofs only[go_sem,bandV];refine CO.intro (ht _) ?_;simp -implicitDefEqProofs only[go_sem,gx,sx,gx1,List.append_assoc,List.length_append,hlen];exact Fini.trim2 (σ':=σ.set p (rob b (b.length-t.length,false))) (ex:=[_]) (by simp -implicitDefEqProofs only[go_sem,resA,z02,rvA,oneOf,gx]<;>rfl) rfl (by rw[hlen];exact Nat.le_refl _) (z1C _ x) (hbo hbel _)
end
def headR (r:RuM):Byt:=putL r.src++(putL r.tgt++(putBd (r.any,r.lo,r.hi)++putN r.eq.length))
def preR (r:RuM) (i:Nat):Byt:=headR r++z1d txtB (r.eq.take i)
theorem z8N (r:RuM) (i:Nat) (h:i<r.eq.length):preR r (i+1)=preR r i++txtB r.eq[i]:=by
 unfold preR z1d;rw[List.take_succ_eq_append_getElem h,List.flatMap_append,List.append_assoc];simp
theorem z7D (r:RuM):preR r r.eq.length=putR r:=by unfold preR putR headR z2K;rw[List.take_length];simp[List.append_assoc]
theorem z8O (r:RuM):preR r 0=headR r:=by unfold preR z1d;simp
theorem z4F (x:Bnd):(putBd x).length≤17:=by
 unfold putBd;split
 · simp
 · simp[putV,z2j]
theorem z7E {M:List Mtr} (h:listB M=true):(putL M).length≤510:=by
 have:=z7C h M.length (Nat.le_refl _);rw[z7B]at this;have:=(z2T h).1;omega
theorem z7F (M:List Mtr):0<(putL M).length:=by
 have:=z4T M.length;unfold putL z2K
 cases h:putN M.length with
 |nil=>exact absurd h this
 |cons a b=>simp
theorem z8P {r:RuM} (h:ruIs r=true):(headR r).length≤1050:=by
 obtain⟨h1,h2,h3,h4,h5⟩:=z1A h;have:=z7E h1;have:=z7E h2;have:=z4F (r.any,r.lo,r.hi);have:=z0I (n:=r.eq.length) (by omega)
 unfold headR;simp only[List.length_append];omega
theorem z5q {r:RuM} (h:ruIs r=true):∀i,i≤r.eq.length→(preR r i).length≤1050+30*i
 |0,_=>by rw[z8O];have:=z8P h;omega
 |i+1,hi=>by
  have ih:=z5q h i (by omega)
  have hx:=(z1A h).2.2.2.2 r.eq[i] (List.getElem_mem (by omega))
  have h1:=z1Y r.eq[i] (by omega)
  rw[z8N r i (by omega),List.length_append]
  omega
def z1O (r:RuM):Byt:=if ruIs r then putR r else[]
section
variable (σ:St)
theorem z9R (r:RuM):Ans Tryz.prog 19 [ruV r] σ (.sl 1 (byv (z1O r))) σ:=by
 have hi:=fun s=>z27 s r
 unfold z1O
 cases hR:ruIs r with
 |false =>
  have:Ans Tryz.prog 19 [ruV r] σ .nils σ:=by
   refine Ans.of_run t19 ?_;unfold ruV at hi⊢;simp -implicitDefEqProofs only[c19,r19,go_sem];refine CO.intro (hi _) ?_;rw[hR];simp -implicitDefEqProofs only[go_sem];exact Fini.ret rfl
  exact this.subR (.nils 1)
 |true =>
  obtain⟨h1,h2,h3,h4,h5⟩:=z1A hR;have hpl:=z5q hR;have m1:=fun s=>z4V s r.src
  have m2:=fun s=>z4V s r.tgt
  have e1:z0Z r.src=putL r.src:=by unfold z0Z;rw[h1];rfl
  have e2:z0Z r.tgt=putL r.tgt:=by unfold z0Z;rw[h2];rfl
  rw[e1]at m1;rw[e2]at m2;have b1:=fun s=>z6h s (r.any,r.lo,r.hi)
  unfold bandV at b1;have n1:=fun s=>zaM s r.eq.length (by omega)
  have hw:=z1T (n:=r.eq.length) (by omega)
  have hc:=fun s=>z70 s [putL r.src,putL r.tgt,putBd (r.any,r.lo,r.hi),putN r.eq.length] (by simp) (by
   have:=z7F r.src
   simp only[List.flatten_cons,List.length_append];omega) (by
   have:=z8P hR;unfold headR at this;simp only[List.length_append]at this
   simp only[List.flatten_cons,List.flatten_nil,List.append_nil,List.length_append];omega)
  have e3:([putL r.src,putL r.tgt,putBd (r.any,r.lo,r.hi),putN r.eq.length]:List Byt).flatten=preR r 0:=by
   rw[z8O];simp[headR]
  rw[e3]at hc;refine Ans.of_run' t19 (fun hbel _=>?_)
  unfold ruV at hi⊢;simp -implicitDefEqProofs only[c19,r19,go_sem];refine CO.intro (hi _) ?_;rw[hR];simp -implicitDefEqProofs only[go_sem];refine CD.intro (m1 _) ?_;simp -implicitDefEqProofs only[go_sem];refine CD.intro (m2 _) ?_;simp -implicitDefEqProofs only[go_sem];refine CD.intro (b1 _) ?_;simp -implicitDefEqProofs only[go_sem,z0A,hw];refine CD.intro (n1 _) ?_;simp -implicitDefEqProofs only[go_sem];refine CD.intro (hc _) ?_;simp -implicitDefEqProofs only[go_sem,z0A];refine Go.Ab.L.count r.eq.length (fun i=>mkE 38 [(3,.osl (σ.length+1) (preR r i).length),(26,.sl 1 (txs r.eq)),(27,I r.eq.length),(28,I i)]) (fun i=>σ++[.dead,.row 1 (byv (preR r i))]) ?_ ?_ rfl rfl
  · intro i hi J hJ;have hx:=zcZ r.eq i hi;have hs:=h5 r.eq[i] (List.getElem_mem hi);have hp:=hpl (i+1) (by omega)
    rw[z8N r i hi]at hJ hp;generalize r.eq[i]=s at hx hs hJ hp;generalize preR r i=pre at hJ hp⊢;have hin:=wrap_succ (i:=i) (by omega)
    rw[List.length_append]at hp hJ;have l1:pre.length+(txtB s).length≤4294967296:=by omega
    simp -implicitDefEqProofs only[mkE,go_sem,z0A,z0f hi,dec_lt hi,hx];refine CO.intro (z2e _ s (by omega)) ?_
    simp -implicitDefEqProofs only[go_sem,g1,s1,z03,z1z,bc,l1,hin];simp only[z1H]at hJ;exact hJ
  · intro J;have d0:decide ((r.eq.length:Int)<r.eq.length)=false:=by simp
    simp -implicitDefEqProofs only[mkE,go_sem,d0,g1,s1,z03,z7D];exact Fini.trim2 (σ':=σ) (ex:=[_,_]) rfl rfl (Nat.le_refl _) (z2d _ _) hbel
end
theorem g3 (σ:St) (x y z u:Ob) (ex:St):(σ++x::y::z::u::ex)[σ.length+3]?=some u:=by rw[List.getElem?_append_right (by simp)];simp
theorem s3 (σ:St) (x y z u v:Ob) (ex:St):(σ++x::y::z::u::ex).set (σ.length+3) v=σ++x::y::z::v::ex:=by rw[List.set_append_right _ _ (by simp)];simp
def txC (n:Nat) (e:List ByteArray):AV:=if e.isEmpty then .nils else .osl n e.length
def txS (e:List ByteArray):St:=if e.isEmpty then[] else[.row 1 (txs e)]
theorem z71 (n:Nat) {e:List ByteArray} (h:e.isEmpty=false):txC n e=.osl n e.length:=by unfold txC;rw[h];rfl
theorem z72 {e:List ByteArray} (h:e.isEmpty=false):txS e=[.row 1 (txs e)]:=by unfold txS;rw[h];rfl
theorem z5r (e:List ByteArray) (s:ByteArray):(e++[s]).isEmpty=false:=by cases e<;>rfl
theorem z6i (n:Nat) (r:RuM):Bel n (ruV r):=.agg _ fun i hi=>by
 have:∀y∈([.sl 3 (mvs3 r.src),.sl 3 (mvs3 r.tgt),Bo r.any,Fl r.lo,Fl r.hi,.sl 1 (txs r.eq)]:List AV),Bel n y:=by
  intro y hy;simp only[List.mem_cons,List.not_mem_nil,or_false]at hy;rcases hy with rfl|rfl|rfl|rfl|rfl|rfl
  · exact z09 _ _
  · exact z09 _ _
  · exact .pl _
  · exact .pl _
  · exact .pl _
  · exact z0u _ _
 exact this _ (List.getElem_mem hi)
def noRu:RuM:=⟨[],[],false,0,0,[]⟩
abbrev Z6:Ob:=.box [.nils,.nils,Bo false,Fl 0,Fl 0,.nils]
def noRuV:AV:=.agg [.nils,.nils,Bo false,Fl 0,Fl 0,.nils]
theorem z7G:Sub noRuV (ruV noRu):=.agg (.cons (.nils 3) (.cons (.nils 3) (.cons (.refl _) (.cons (.refl _) (.cons (.refl _) (.cons (.nils 1) .nil))))))
theorem z1q (n:Nat):Bel n noRuV:=.agg _ fun i hi=>by
 have:∀y∈([.nils,.nils,Bo false,Fl 0,Fl 0,.nils]:List AV),Bel n y:=by
  intro y hy;simp only[List.mem_cons,List.not_mem_nil,or_false]at hy;rcases hy with rfl|rfl|rfl|rfl|rfl|rfl
  · exact .nils
  · exact .nils
  · exact .pl _
  · exact .pl _
  · exact .pl _
  · exact .nils
 exact this _ (List.getElem_mem hi)
section
variable (σ:St)
set_option maxHeartbeats 4000000 in
theorem z9S (b:Byt) (hb:b.length≤50000):Ans Tryz.prog 17 [.sl 1 (byv b)] σ (readV (ruR b) b ruV noRuV) σ:=by
 have hS:=(zf3 b).top;refine Ans.of_run' t17 (fun hbel _=>?_)
 simp -implicitDefEqProofs only[c17,r17,go_sem];refine CO.intro (z6a _ b) ?_
 have hs2:∀q,ruS b q=(mkRu ((runR listR [] b q).1,(runR listR [] b (runR listR [] b q).2).1,(runR bandR (false,0,0) b (runR listR [] b (runR listR [] b q).2).2).1,(rowSt 4 b (runR (textR 12) ⟨#[]⟩ b) (runR bandR (false,0,0) b (runR listR [] b (runR listR [] b q).2).2).2).1),
   took (rowSt 4 b (runR (textR 12) ⟨#[]⟩ b) (runR bandR (false,0,0) b (runR listR [] b (runR listR [] b q).2).2).2).2 0 (ruIs (mkRu ((runR listR [] b q).1,(runR listR [] b (runR listR [] b q).2).1,(runR bandR (false,0,0) b (runR listR [] b (runR listR [] b q).2).2).1,(rowSt 4 b (runR (textR 12) ⟨#[]⟩ b) (runR bandR (false,0,0) b (runR listR [] b (runR listR [] b q).2).2).2).1)))):=fun q=>rfl
 rw[hs2]at hS;have h1:=z8M (σ++[Z6,rob b (0,false)]) (σ.length+1) b (0,false) (g1 _ _ _ _) (Inb0 b) hb;rw[s1]at h1;have i1:=z0l listR [] b (0,false) (Inb0 b);generalize runR listR [] b (0,false)=w1 at h1 i1 hS;obtain⟨m1,q1⟩:=w1;simp only at h1 i1 hS;have h2:=z8M (σ++[Z6,rob b q1]) (σ.length+1) b q1 (g1 _ _ _ _) i1 hb;rw[s1]at h2;have i2:=z0l listR [] b q1 i1;generalize runR listR [] b q1=w2 at h2 i2 hS;obtain⟨m2,q2⟩:=w2;simp only at h2 i2 hS;have h3:=zdh (σ++[Z6,rob b q2]) (σ.length+1) b q2 (g1 _ _ _ _) i2 hb;rw[s1]at h3;have i3:=z0l bandR (false,0,0) b q2 i2;generalize runR bandR (false,0,0) b q2=w3 at h3 i3 hS;obtain⟨⟨any,lo,hi⟩,q3⟩:=w3;unfold bandV at h3;simp only at h3 i3 hS;simp -implicitDefEqProofs only[go_sem,List.append_assoc,List.length_append];refine CO.intro h1 ?_;simp -implicitDefEqProofs only[go_sem];refine CO.intro h2 ?_;simp -implicitDefEqProofs only[go_sem];refine CO.intro h3 ?_;unfold rowSt at hS;have h4:=z34 (σ++[Z6,rob b q3,.box [mlV m1,mlV m2,Bo any,Fl lo,Fl hi,.nils]]) (σ.length+1) b q3 4 (by decide) (g1 _ _ _ _) i3 hb
 rw[s1]at h4;have i4:=z0l (numR 4) 0 b q3 i3;have hn4:=z35 (most:=4) b q3;generalize runR (numR 4) 0 b q3=w4 at h4 i4 hS hn4;obtain⟨n,q4⟩:=w4;simp only at h4 i4 hS hn4;simp -implicitDefEqProofs only[go_sem,List.append_assoc,List.length_append,g0,g1,g2,s0,s1,s2];refine CO.intro h4 ?_;simp -implicitDefEqProofs only[go_sem]
 refine Go.Ab.L.count n (fun i=>mkE 44 [(2,.ptr σ.length 0),(5,.ptr (σ.length+1) 0),(6,.ptr (σ.length+2) 0),(19,UN n),(20,UN i)])
  (fun i=>σ++Z6::rob b (itSt (runR (textR 12) ⟨#[]⟩ b) q4 i).2::.box [mlV m1,mlV m2,Bo any,Fl lo,Fl hi,txC (σ.length+3) (itSt (runR (textR 12) ⟨#[]⟩ b) q4 i).1]::txS (itSt (runR (textR 12) ⟨#[]⟩ b) q4 i).1) ?_ ?_ rfl rfl
 · intro i hin J hJ;have hit:=z2x (z0l (textR 12) ⟨#[]⟩ b) q4 i4 i;have hlen:=z3u (runR (textR 12) ⟨#[]⟩ b) q4 i;simp only[itSt]at hJ;generalize itSt (runR (textR 12) ⟨#[]⟩ b) q4 i=c at hJ hit hlen⊢;obtain⟨l,q⟩:=c;simp only at hJ hit hlen⊢;have d0:decide ((i:Int)<n)=true:=dec_lt hin;have w0:=z1T (n:=i+1) (by omega)
   have e0:((i:Int)+1)=((i+1:Nat):Int):=rfl;have h5:=z3w (σ++Z6::rob b q::.box [mlV m1,mlV m2,Bo any,Fl lo,Fl hi,txC (σ.length+3) l]::txS l) (σ.length+1) b q 12 (by decide) (g1 _ _ _ _) hit hb
   rw[s1]at h5;generalize runR (textR 12) ⟨#[]⟩ b q=w5 at h5 hJ;obtain⟨s,q5⟩:=w5;simp only at h5 hJ;rw[z71 _ (z5r l s),z72 (z5r l s),z5p]at hJ;rw[List.length_append,List.length_singleton]at hJ
   cases hem:l.isEmpty with
   |true =>
    have hle:l=[]:=List.isEmpty_iff.1 hem;subst hle;unfold txC txS at h5⊢;simp only[List.isEmpty_nil,if_true]at h5⊢;simp -implicitDefEqProofs only[mkE,go_sem,d0,g0,g1,g2,s0,s1,s2];refine CD.intro h5 ?_;have p32:((1:Nat)≤2^32)=True:=eq_true (by decide)
    simp -implicitDefEqProofs only[go_sem,g0,g1,g2,s0,s1,s2,w0,e0,p32,List.length_append,List.append_assoc,List.length_cons,List.length_nil];exact hJ
   |false =>
    rw[z71 _ hem,z72 hem]at h5⊢;have hll:l.length+1≤4294967296:=by omega
    simp -implicitDefEqProofs only[mkE,go_sem,d0,g0,g1,g2,s0,s1,s2];refine CD.intro h5 ?_;simp -implicitDefEqProofs only[go_sem,g0,g1,g2,g3,s0,s1,s2,s3,w0,e0,z0A,hll,List.length_singleton];exact hJ
 · intro J;have hit:=z2x (z0l (textR 12) ⟨#[]⟩ b) q4 i4 n;have hlen:=z3u (runR (textR 12) ⟨#[]⟩ b) q4 n;generalize itSt (runR (textR 12) ⟨#[]⟩ b) q4 n=c at hS hit hlen⊢;obtain⟨l,q⟩:=c;simp only at hS hit hlen⊢;have d0:decide ((n:Int)<n)=false:=by simp
   have hru:=fun s=>z27 s (mkRu (m1,m2,(any,lo,hi),l))
   generalize ruIs (mkRu (m1,m2,(any,lo,hi),l))=ok at hru hS
   cases hem:l.isEmpty with
   |true =>
    have hle:l=[]:=List.isEmpty_iff.1 hem;subst hle;unfold txC txS;simp only[List.isEmpty_nil,if_true];have h6:=z0a (σ++[Z6,rob b q,.box [mlV m1,mlV m2,Bo any,Fl lo,Fl hi,.sl 1 (txs [])]]) (σ.length+1) b q ok (g1 _ _ _ _) hit hb;rw[s1]at h6;generalize took q 0 ok=qe at h6 hS;have h7:=z3P (σ++[Z6,rob b qe,.box [mlV m1,mlV m2,Bo any,Fl lo,Fl hi,.sl 1 (txs [])]]) (σ.length+1) b qe (g1 _ _ _ _);simp -implicitDefEqProofs only[mkE,go_sem,d0,z37,g0,g1,g2,g3,s0,s1,s2,s3];refine CO.intro (hru _) ?_;simp -implicitDefEqProofs only[go_sem];refine CO.intro h6 ?_;simp -implicitDefEqProofs only[go_sem];refine CO.intro h7 ?_
    cases hr:ruR b with
    |none =>
     have hb2:=hS.2 hr;obtain⟨qa,qb⟩:=qe;simp only at hb2;subst hb2;simp -implicitDefEqProofs only[go_sem,g0,g1,g2,g3,s0,s1,s2,s3];exact tr_ (σ':=σ) (ex:=[_,_,_]) rfl (by unfold readV;exact z0b (z1q _)) hbel
    |some p =>
     obtain⟨M,t⟩:=p;have hb2:=hS.1 M t hr;simp only[Prod.mk.injEq]at hb2;obtain⟨rfl,rfl⟩:=hb2;simp -implicitDefEqProofs only[go_sem,g0,g1,g2,g3,s0,s1,s2,s3];exact tr_ (σ':=σ) (ex:=[_,_,_]) rfl (by unfold readV;exact z0b (z6i _ _)) hbel
   |false =>
    rw[z71 _ hem,z72 hem];have ne32:(σ.length+3≠σ.length+2)=True:=eq_true (by omega)
    have h6:=z0a (σ++[Z6,rob b q,.box [mlV m1,mlV m2,Bo any,Fl lo,Fl hi,.sl 1 (txs l)],.dead]) (σ.length+1) b q ok (g1 _ _ _ _) hit hb;rw[s1]at h6;generalize took q 0 ok=qe at h6 hS;have h7:=z3P (σ++[Z6,rob b qe,.box [mlV m1,mlV m2,Bo any,Fl lo,Fl hi,.sl 1 (txs l)],.dead]) (σ.length+1) b qe (g1 _ _ _ _);simp -implicitDefEqProofs only[mkE,go_sem,d0,z0A,ne32,g0,g1,g2,g3,s0,s1,s2,s3];refine CO.intro (hru _) ?_;simp -implicitDefEqProofs only[go_sem];refine CO.intro h6 ?_;simp -implicitDefEqProofs only[go_sem];refine CO.intro h7 ?_
    cases hr:ruR b with
    |none =>
     have hb2:=hS.2 hr;obtain⟨qa,qb⟩:=qe;simp only at hb2;subst hb2;simp -implicitDefEqProofs only[go_sem,g0,g1,g2,g3,s0,s1,s2,s3];exact tr_ (σ':=σ) (ex:=[_,_,_,_]) rfl (by unfold readV;exact z0b (z1q _)) hbel
    |some p =>
     obtain⟨M,t⟩:=p;have hb2:=hS.1 M t hr;simp only[Prod.mk.injEq]at hb2;obtain⟨rfl,rfl⟩:=hb2;simp -implicitDefEqProofs only[go_sem,g0,g1,g2,g3,s0,s1,s2,s3];exact tr_ (σ':=σ) (ex:=[_,_,_,_]) rfl (by unfold readV;exact z0b (z6i _ _)) hbel
theorem z73 (b:Byt) (hb:b.length≤50000):Ans Tryz.prog 17 [.sl 1 (byv b)] σ (readV (ruR b) b ruV (ruV noRu)) σ:=by
 refine(z9S σ b hb).subR ?_;unfold readV
 cases ruR b with
 |none=>exact .tup (.cons z7G (.refl _))
 |some p=>exact .refl _
end
end Go.Proofs.YtmkmhhjkdaklbaaGreat
namespace Go.Proofs.YtmkmhhjkdaklbaaGreat
open Go Go.Ab
set_option maxRecDepth 100000
def c35:ACode :=
 (sq_ [pr_ 1 (.boxr (.tmp 0)),
 pr_ 2 mf_]
 (sq_ [pr_ 3 (fa_ 0 1),
 pr_ 4 (lf_ 1 3),
 c1_ 5 86 4,
 mv_ 6 5,
 gp_ 7 6 true (lt_ 19 1),
 gc_ 8 6 true 87 [(.tmp 7)],
 pr_ 9 (pa_ 6 8),
 mv_ 2 9]
 .ret))
def o35:List Tmp:=[]
def r35:List RV:=[.tmp 2]
theorem t35:Text Tryz.prog 35 o35 c35 r35 10:=.mk_ Tryz.f35 rfl
def c37:ACode :=
 (sq_ [pr_ 1 (.boxr (.tmp 0)),
 pr_ 2 (.mov (.const (.slice none 0 0)))]
 (.seq (sq_ [pr_ 7 (lt_ 19 1),
 c1_ 8 87 7,
 pr_ 9 (no_ 8)]
 (.cond (.tmp 9)
 (sq_ [pr_ 2 (.mov (.const (.slice none 0 0)))]
 (.ghost (.shut 2) .ret))
 .skip))
 (sq_ [pr_ 10 (fa_ 1 1),
 pr_ 11 (lf_ 1 10),
 pr_ 12 (.convi .u8 (.tmp 11)),
 pr_ 13 (.bsl true 1 false 1 [.pl (.int .u8 0)] [(0,1,(.tmp 12))]),
 pr_ 3 (.allocm [.nils]),
 st_ (so_ 1 3 13)]
 (sq_ [pr_ 15 (fa_ 1 1),
 pr_ 16 (lf_ 1 15),
 c1_ 17 90 16,
 mv_ 14 17,
 pr_ 18 (ex_ 0 14),
 pr_ 19 (ex_ 1 14),
 ⟨some 4,none,.fresh 1 4 (.tmp 18)⟩,
 mv_ 5 19]
 (sq_ [pr_ 20 (.mkfn 91 [] [(.tmp 4),(.tmp 3)]),
 mv_ 6 20]
 (sq_ [mv_ 21 6,
 pr_ 22 (fa_ 2 1),
 pr_ 23 (lf_ 1 22),
 pr_ 24 (.convi .u64 (.tmp 23)),
 c1_ 25 71 24,
 pr_ 26 (.bsl false 1 false 1 [.nils] [(0,1,(.tmp 25))]),
 ⟨some 27,none,.call (.tmp 21) [(.const (.int .i64 1)),(.tmp 26)]⟩]
 (sq_ [mv_ 28 6,
 pr_ 29 (fa_ 3 1),
 pr_ 30 (lf_ 1 29),
 c1_ 31 72 30,
 pr_ 32 (.bsl false 1 false 1 [.nils] [(0,1,(.tmp 31))]),
 ⟨some 33,none,.call (.tmp 28) [(.const (.int .i64 2)),(.tmp 32)]⟩]
 (.seq (.draw [⟨mv_ 34 6,[],false,0,2⟩,
 ⟨pr_ 35 (fa_ 4 1),[],false,0,0⟩,
 ⟨pr_ 36 (lf_ 1 35),[1],false,0,0⟩,
 ⟨c1_ 37 71 36,[1,2],true,0,0⟩,
 ⟨pr_ 38 (fa_ 5 1),[],false,0,1⟩,
 ⟨pr_ 39 (lf_ 1 38),[4],false,0,1⟩,
 ⟨c1_ 40 71 39,[1,2,3,4,5],true,0,0⟩,
 ⟨pr_ 41 (.bsl false 1 false 2 [.nils] [(0,1,(.tmp 37)),(1,1,(.tmp 40))]),[1,2,3,4,5,6],false,2,2⟩,
 ⟨⟨some 42,none,.call (.tmp 34) [(.const (.int .i64 4)),(.tmp 41)]⟩,(List.range 8),true,0,0⟩])
 (sq_ [mv_ 43 6,
 pr_ 44 (fa_ 6 1),
 pr_ 45 (lf_ 1 44),
 pr_ 46 (.convi .u8 (.tmp 45)),
 pr_ 47 (.bsl false 1 false 1 [.pl (.int .u8 0)] [(0,1,(.tmp 46))]),
 pr_ 48 (.bsl false 1 false 1 [.nils] [(0,1,(.tmp 47))]),
 ⟨some 49,none,.call (.tmp 43) [(.const (.int .i64 8)),(.tmp 48)]⟩]
 (sq_ [mv_ 50 6,
 pr_ 51 (fa_ 7 1),
 pr_ 52 (lf_ 1 51),
 c1_ 53 69 52,
 pr_ 54 (.bsl false 1 false 1 [.nils] [(0,1,(.tmp 53))]),
 ⟨some 55,none,.call (.tmp 50) [(.const (.int .i64 16)),(.tmp 54)]⟩]
 (sq_ [mv_ 56 6,
 pr_ 57 (fa_ 8 1),
 pr_ 58 (lt_ 3 57),
 c1_ 59 70 58,
 pr_ 60 (.bsl false 1 false 1 [.nils] [(0,1,(.tmp 59))]),
 ⟨some 61,none,.call (.tmp 56) [(.const (.int .i64 64)),(.tmp 60)]⟩]
 (sq_ [mv_ 62 6,
 pr_ 63 (fa_ 11 1),
 pr_ 64 (lt_ 6 63),
 c1_ 65 19 64,
 pr_ 66 (.bsl false 1 false 1 [.nils] [(0,1,(.tmp 65))]),
 ⟨some 67,none,.call (.tmp 62) [(.const (.int .i64 128)),(.tmp 66)]⟩]
 (sq_ [mv_ 68 6,
 pr_ 69 (fa_ 17 1),
 pr_ 70 (lf_ 1 69),
 c1_ 71 92 70,
 pr_ 72 (.bsl false 1 false 1 [.nils] [(0,1,(.tmp 71))]),
 ⟨some 73,none,.call (.tmp 68) [(.const (.int .i64 256)),(.tmp 72)]⟩]
 (sq_ [mv_ 74 6,
 pr_ 75 (fa_ 18 1),
 pr_ 76 (lf_ 1 75),
 c1_ 77 94 76,
 c1_ 78 93 77,
 pr_ 79 (.bsl false 1 false 1 [.nils] [(0,1,(.tmp 78))]),
 ⟨some 80,none,.call (.tmp 74) [(.const (.int .i64 512)),(.tmp 79)]⟩]
 (sq_ [pr_ 81 (lf_ 1 3),
 mv_ 2 81]
 (.ghost (.shut 2) .ret))))))))))))))))
def o37:List Tmp:=[3,13]
def r37:List RV:=[.tmp 2]
theorem t37:Text Tryz.prog 37 o37 c37 r37 82:=.mk_ Tryz.f37 rfl
def c39:ACode :=
 (sq_ [pr_ 1 (.boxr (.tmp 0)),
 pr_ 2 (.mov (.const (.slice none 0 0)))]
 (.seq (sq_ [pr_ 3 (lt_ 19 1),
 c1_ 4 35 3,
 pr_ 5 (no_ 4)]
 (.cond (.tmp 5)
 (sq_ [pr_ 2 (.mov (.const (.slice none 0 0)))]
 (.ghost (.shut 2) .ret))
 .skip))
 (.seq (.draw [⟨pr_ 6 (fa_ 0 1),[],false,0,0⟩,
 ⟨pr_ 7 (lf_ 1 6),[0],false,0,0⟩,
 ⟨c1_ 8 72 7,[0,1],true,0,0⟩,
 ⟨pr_ 9 (lt_ 19 1),[],false,0,1⟩,
 ⟨c1_ 10 37 9,[0,1,2,3],true,0,0⟩,
 ⟨pr_ 11 (.app 1 (.tmp 8) (.tmp 10)),[0,1,2,3,4],true,0,0⟩,
 ⟨mv_ 2 11,(List.range 6),false,3,3⟩])
 (.ghost (.shut 2) .ret))))
def o39:List Tmp:=[]
def r39:List RV:=[.tmp 2]
theorem t39:Text Tryz.prog 39 o39 c39 r39 12:=.mk_ Tryz.f39 rfl
def c43:ACode :=
 (sq_ [pr_ 2 (.allocm z19_),
 pr_ 3 mf_]
 (sq_ [mv_ 7 0,
 c1_ 8 54 7,
 mv_ 4 8]
 (sq_ [mv_ 9 4,
 cl_ 10 60 [(.tmp 9),(.const (.int .i64 16))],
 mv_ 5 10]
 (sq_ [mv_ 11 4,
 mv_ 12 5,
 c1_ 13 86 12,
 cl_ 14 61 [(.tmp 11),(.tmp 13)]]
 (sq_ [mv_ 15 4,
 c1_ 16 103 15,
 pr_ 6 (.allocm z19_),
 st_ (so_ 19 6 16)]
 (sq_ [mv_ 17 5,
 pr_ 18 (fa_ 0 6),
 st_ (so_ 1 18 17)]
 (sq_ [pr_ 19 (lt_ 19 6),
 mv_ 20 4,
 mv_ 21 0,
 cl_ 22 104 [(.tmp 19),(.tmp 20),(.tmp 21)],
 pr_ 23 (ex_ 0 22),
 pr_ 24 (ex_ 1 22),
 st_ (so_ 19 2 23),
 mv_ 3 24]
 .ret)))))))
def o43:List Tmp:=[2,6]
def r43:List RV:=[.cell 2 19 true,.tmp 3]
theorem t43:Text Tryz.prog 43 o43 c43 r43 25:=.mk_ Tryz.f43 rfl
def c86:ACode :=
 (sq_ [pr_ 2 mf_]
 (sq_ [mv_ 3 0,
 pr_ 4 (.lens (.tmp 3)),
 pr_ 5 (bk_ .geq 4 .i64 4),
 mv_ 6 5,
 gp_ 7 6 true (mo_ 0),
 gp_ 8 6 true (.lens (.tmp 7)),
 gp_ 9 6 true (bk_ .leq 8 .i64 16),
 pr_ 10 (pa_ 6 9),
 mv_ 2 10]
 .ret))
def o86:List Tmp:=[]
def r86:List RV:=[.tmp 2]
theorem t86:Text Tryz.prog 86 o86 c86 r86 11:=.mk_ Tryz.f86 rfl
def c87:ACode :=
 (sq_ [pr_ 1 (.boxr (.tmp 0)),
 pr_ 2 mf_]
 (sq_ [pr_ 6 (fa_ 1 1),
 pr_ 7 (lf_ 1 6),
 c1_ 8 90 7,
 mv_ 5 8,
 pr_ 9 (ex_ 0 5),
 pr_ 10 (ex_ 1 5),
 mv_ 3 9,
 mv_ 4 10]
 (sq_ [mv_ 11 4,
 mv_ 12 11,
 gp_ 13 12 true (lt_ 19 1),
 gp_ 14 12 true (mo_ 3),
 gc_ 15 12 true 125 [(.tmp 13),(.tmp 14)],
 pr_ 16 (pa_ 12 15),
 mv_ 17 16,
 gp_ 18 17 true (lt_ 19 1),
 gp_ 19 17 true (mo_ 3),
 gc_ 20 17 true 126 [(.tmp 18),(.tmp 19)],
 pr_ 21 (pa_ 17 20),
 mv_ 2 21]
 .ret)))
def o87:List Tmp:=[]
def r87:List RV:=[.tmp 2]
theorem t87:Text Tryz.prog 87 o87 c87 r87 22:=.mk_ Tryz.f87 rfl
def c90:ACode :=
 (sq_ [pr_ 2 (mi_ .i64 0),
 pr_ 3 mf_]
 (.seq (sq_ [mv_ 4 0]
 (.block 0 (.seq (sq_ [pr_ 6 (bk_ .eql 4 .i64 1),
 mv_ 5 6]
 (.cond (.tmp 5)
 .skip
 (sq_ [pr_ 7 (bk_ .eql 4 .i64 14),
 mv_ 5 7]
 (.cond (.tmp 5)
 .skip
 (sq_ [pr_ 8 (bk_ .eql 4 .i64 16),
 mv_ 5 8]
 (.cond (.tmp 5)
 .skip
 (.ops [pr_ 9 (bk_ .eql 4 .i64 17),
 mv_ 5 9])))))))
 (.cond (.tmp 5)
 (sq_ [pr_ 2 (mi_ .i64 0),
 pr_ 3 mt_]
 .ret)
 (.seq (sq_ [pr_ 11 (bk_ .eql 4 .i64 2),
 mv_ 10 11]
 (.cond (.tmp 10)
 .skip
 (sq_ [pr_ 12 (bk_ .eql 4 .i64 7),
 mv_ 10 12]
 (.cond (.tmp 10)
 .skip
 (sq_ [pr_ 13 (bk_ .eql 4 .i64 10),
 mv_ 10 13]
 (.cond (.tmp 10)
 .skip
 (sq_ [pr_ 14 (bk_ .eql 4 .i64 12),
 mv_ 10 14]
 (.cond (.tmp 10)
 .skip
 (.ops [pr_ 15 (bk_ .eql 4 .i64 15),
 mv_ 10 15])))))))))
 (.cond (.tmp 10)
 (sq_ [pr_ 2 (mi_ .i64 1),
 pr_ 3 mt_]
 .ret)
 (.seq (sq_ [pr_ 17 (bk_ .eql 4 .i64 3),
 mv_ 16 17]
 (.cond (.tmp 16)
 .skip
 (.ops [pr_ 18 (bk_ .eql 4 .i64 4),
 mv_ 16 18])))
 (.cond (.tmp 16)
 (sq_ [pr_ 2 (mi_ .i64 3),
 pr_ 3 mt_]
 .ret)
 (sq_ [pr_ 20 (bk_ .eql 4 .i64 5),
 mv_ 19 20]
 (.cond (.tmp 19)
 (sq_ [pr_ 2 (mi_ .i64 116),
 pr_ 3 mt_]
 .ret)
 (sq_ [pr_ 22 (bk_ .eql 4 .i64 6),
 mv_ 21 22]
 (.cond (.tmp 21)
 (sq_ [pr_ 2 (mi_ .i64 117),
 pr_ 3 mt_]
 .ret)
 (sq_ [pr_ 24 (bk_ .eql 4 .i64 8),
 mv_ 23 24]
 (.cond (.tmp 23)
 (sq_ [pr_ 2 (mi_ .i64 8),
 pr_ 3 mt_]
 .ret)
 (sq_ [pr_ 26 (bk_ .eql 4 .i64 9),
 mv_ 25 26]
 (.cond (.tmp 25)
 (sq_ [pr_ 2 (mi_ .i64 128),
 pr_ 3 mt_]
 .ret)
 (sq_ [pr_ 28 (bk_ .eql 4 .i64 11),
 mv_ 27 28]
 (.cond (.tmp 27)
 (sq_ [pr_ 2 (mi_ .i64 768),
 pr_ 3 mt_]
 .ret)
 (sq_ [pr_ 30 (bk_ .eql 4 .i64 13),
 mv_ 29 30]
 (.cond (.tmp 29)
 (sq_ [pr_ 2 (mi_ .i64 16),
 pr_ 3 mt_]
 .ret)
 .skip))))))))))))))))))))
 (sq_ [pr_ 2 (mi_ .i64 0),
 pr_ 3 mf_]
 .ret)))
def o90:List Tmp:=[]
def r90:List RV:=[.tmp 2,.tmp 3]
theorem t90:Text Tryz.prog 90 o90 c90 r90 31:=.mk_ Tryz.f90 rfl
def c91:ACode :=
 (sq_ [pr_ 6 (lf_ 1 2),
 mv_ 7 0,
 pr_ 8 (bt_ .and 6 7),
 pr_ 9 (bk_ .gtr 8 .i64 0)]
 (.cond (.tmp 9)
 (.draw [⟨pr_ 10 (lf_ 1 3),[],false,0,1⟩,
 ⟨mv_ 11 1,[],false,0,0⟩,
 ⟨c1_ 12 68 11,[1],true,0,0⟩,
 ⟨pr_ 13 (.app 1 (.tmp 10) (.tmp 12)),[0,1,2],true,0,0⟩,
 ⟨st_ (so_ 1 3 13),[0,1,2,3],true,0,0⟩])
 .skip))
def o91:List Tmp:=[]
def r91:List RV:=[]
theorem t91:Text Tryz.prog 91 o91 c91 r91 14:=.mk_ Tryz.f91 rfl
def c92:ACode :=
 (sq_ [pr_ 2 (.mov (.const (.slice none 0 0)))]
 (.seq (sq_ [mv_ 6 0,
 c1_ 7 131 6,
 pr_ 8 (no_ 7)]
 (.cond (.tmp 8)
 (sq_ [pr_ 2 (.mov (.const (.slice none 0 0)))]
 (.ghost (.shut 2) .ret))
 .skip))
 (sq_ [mv_ 9 0,
 pr_ 10 (.lenv (.tmp 9)),
 pr_ 11 (.convi .u64 (.tmp 10)),
 c1_ 12 71 11,
 mv_ 3 12]
 (.seq (sq_ [mv_ 13 0,
 pr_ 14 (.lenv (.tmp 13)),
 pr_ 15 (mi_ .i64 0)]
 (.block 0 (.loop [0,1,2,4,5,6,7,8,9,10,11,12,16,17,18,19,20,21,22,23,24,25,26,27,28,29,30] (sq_ [pr_ 16 (bt_ .lss 15 14)]
 (.seq (.cond (.tmp 16)
 .skip
 (.exit 0))
 (.seq (.block 1 (sq_ [pr_ 17 (.iadrs 2 (.tmp 13) (.tmp 15)),
 pr_ 18 (lt_ 2 17),
 ⟨some 5,none,.fresh 2 5 (.tmp 18)⟩]
 (sq_ [mv_ 19 3,
 pr_ 20 (fa_ 0 5),
 pr_ 21 (lf_ 1 20),
 c1_ 22 72 21,
 pr_ 23 (.app 1 (.tmp 19) (.tmp 22)),
 mv_ 3 23]
 (.ops [mv_ 24 3,
 pr_ 25 (fa_ 1 5),
 pr_ 26 (lf_ 1 25),
 c1_ 27 72 26,
 pr_ 28 (.app 1 (.tmp 24) (.tmp 27)),
 mv_ 3 28]))))
 (.ops [pr_ 29 (bk_ .add 15 .i64 1),
 mv_ 15 29])))))))
 (sq_ [mv_ 30 3,
 mv_ 2 30]
 (.ghost (.shut 2) .ret))))))
def o92:List Tmp:=[]
def r92:List RV:=[.tmp 2]
theorem t92:Text Tryz.prog 92 o92 c92 r92 31:=.mk_ Tryz.f92 rfl
def c103:ACode :=
 (sq_ [pr_ 2 (.allocm z19_)]
 (sq_ [mv_ 8 0,
 c1_ 9 83 8,
 pr_ 10 (.convi .i64 (.tmp 9)),
 pr_ 11 (.build z19_ [(1,1,(.tmp 10))]),
 pr_ 3 (.allocm z19_),
 st_ (so_ 19 3 11)]
 (sq_ [pr_ 13 (fa_ 1 3),
 pr_ 14 (lf_ 1 13),
 c1_ 15 90 14,
 mv_ 12 15,
 pr_ 16 (ex_ 0 12),
 pr_ 17 (ex_ 1 12),
 mv_ 4 16,
 mv_ 5 17]
 (sq_ [mv_ 18 0,
 mv_ 19 5,
 cl_ 20 61 [(.tmp 18),(.tmp 19)]]
 (.seq (sq_ [mv_ 21 4,
 pr_ 22 (bk_ .and 21 .i64 1),
 pr_ 23 (bk_ .gtr 22 .i64 0)]
 (.cond (.tmp 23)
 (.ops [mv_ 24 0,
 cl_ 25 59 [(.tmp 24),(.const (.int .u64 2147483647))],
 pr_ 26 (.convi .i64 (.tmp 25)),
 pr_ 27 (fa_ 2 3),
 st_ (so_ 1 27 26)])
 .skip))
 (.seq (sq_ [mv_ 28 4,
 pr_ 29 (bk_ .and 28 .i64 2),
 pr_ 30 (bk_ .gtr 29 .i64 0)]
 (.cond (.tmp 30)
 (.ops [mv_ 31 0,
 cl_ 32 60 [(.tmp 31),(.const (.int .i64 16))],
 pr_ 33 (fa_ 3 3),
 st_ (so_ 1 33 32)])
 .skip))
 (.seq (sq_ [mv_ 34 4,
 pr_ 35 (bk_ .and 34 .i64 4),
 pr_ 36 (bk_ .gtr 35 .i64 0)]
 (.cond (.tmp 36)
 (.ops [mv_ 37 0,
 cl_ 38 59 [(.tmp 37),(.const (.int .u64 1099511627776))],
 mv_ 39 0,
 cl_ 40 59 [(.tmp 39),(.const (.int .u64 1099511627776))],
 pr_ 41 (fa_ 4 3),
 st_ (so_ 1 41 38),
 pr_ 42 (fa_ 5 3),
 st_ (so_ 1 42 40)])
 .skip))
 (.seq (sq_ [mv_ 43 4,
 pr_ 44 (bk_ .and 43 .i64 8),
 pr_ 45 (bk_ .gtr 44 .i64 0)]
 (.cond (.tmp 45)
 (.ops [mv_ 46 0,
 c1_ 47 83 46,
 pr_ 48 (.convi .i64 (.tmp 47)),
 pr_ 49 (fa_ 6 3),
 st_ (so_ 1 49 48)])
 .skip))
 (.seq (sq_ [mv_ 50 4,
 pr_ 51 (bk_ .and 50 .i64 16),
 pr_ 52 (bk_ .gtr 51 .i64 0)]
 (.cond (.tmp 52)
 (.ops [mv_ 53 0,
 cl_ 54 55 [(.tmp 53),(.func 56)],
 pr_ 55 (fa_ 7 3),
 st_ (so_ 1 55 54)])
 .skip))
 (.seq (sq_ [mv_ 56 4,
 pr_ 57 (bk_ .and 56 .i64 64),
 pr_ 58 (bk_ .gtr 57 .i64 0)]
 (.cond (.tmp 58)
 (.ops [mv_ 59 0,
 cl_ 60 57 [(.tmp 59),(.func 58)],
 pr_ 61 (fa_ 8 3),
 st_ (so_ 3 61 60)])
 .skip))
 (.seq (sq_ [mv_ 62 4,
 pr_ 63 (bk_ .and 62 .i64 128),
 pr_ 64 (bk_ .gtr 63 .i64 0)]
 (.cond (.tmp 64)
 (.ops [mv_ 65 0,
 cl_ 66 136 [(.tmp 65),(.func 17)],
 pr_ 67 (fa_ 11 3),
 st_ (so_ 6 67 66)])
 .skip))
 (.seq (sq_ [mv_ 68 4,
 pr_ 69 (bk_ .and 68 .i64 256),
 pr_ 70 (bk_ .gtr 69 .i64 0)]
 (.cond (.tmp 70)
 (.ops [mv_ 71 0,
 cl_ 72 137 [(.tmp 71),(.func 138)],
 pr_ 73 (fa_ 17 3),
 st_ (so_ 1 73 72)])
 .skip))
 (.seq (sq_ [mv_ 74 4,
 pr_ 75 (bk_ .and 74 .i64 512),
 pr_ 76 (bk_ .gtr 75 .i64 0)]
 (.cond (.tmp 76)
 (sq_ [mv_ 78 0,
 c1_ 79 140 78,
 c1_ 80 139 79,
 mv_ 77 80,
 pr_ 81 (ex_ 0 77),
 pr_ 82 (ex_ 1 77),
 mv_ 6 81,
 mv_ 7 82]
 (sq_ [mv_ 83 0,
 mv_ 84 7,
 cl_ 85 61 [(.tmp 83),(.tmp 84)]]
 (.ops [mv_ 86 6,
 pr_ 87 (fa_ 18 3),
 st_ (so_ 1 87 86)])))
 .skip))
 (sq_ [mv_ 88 0,
 pr_ 89 (lt_ 19 3),
 c1_ 90 87 89,
 cl_ 91 61 [(.tmp 88),(.tmp 90)]]
 (sq_ [pr_ 92 (lt_ 19 3),
 st_ (so_ 19 2 92)]
 .ret)))))))))))))))
def o103:List Tmp:=[2,3]
def r103:List RV:=[.cell 2 19 true]
theorem t103:Text Tryz.prog 103 o103 c103 r103 93:=.mk_ Tryz.f103 rfl
def c104:ACode :=
 (sq_ [pr_ 3 (.boxr (.tmp 0)),
 pr_ 6 (.allocm z19_),
 pr_ 7 mf_]
 (.seq (sq_ [mv_ 11 1,
 c1_ 12 62 11,
 mv_ 10 12,
 pr_ 13 (ex_ 0 10),
 pr_ 14 (ex_ 1 10),
 mv_ 8 13,
 mv_ 9 14]
 (sq_ [mv_ 15 9,
 pr_ 16 (no_ 15),
 mv_ 17 16,
 gp_ 18 17 false (mo_ 8),
 gp_ 19 17 false (mo_ 2),
 gp_ 20 17 false (.lenv (.tmp 19)),
 gp_ 21 17 false (bt_ .neq 18 20),
 pr_ 22 (po_ 17 21)]
 (.cond (.tmp 22)
 (sq_ [pr_ 23 (.build z19_ []),
 st_ (so_ 19 6 23),
 pr_ 7 mf_]
 .ret)
 .skip)))
 (sq_ [pr_ 24 (lt_ 19 3),
 st_ (so_ 19 6 24),
 pr_ 7 mt_]
 .ret)))
def o104:List Tmp:=[6]
def r104:List RV:=[.cell 6 19 true,.tmp 7]
theorem t104:Text Tryz.prog 104 o104 c104 r104 25:=.mk_ Tryz.f104 rfl
def c125:ACode :=
 (sq_ [pr_ 2 (.boxr (.tmp 0)),
 pr_ 4 mf_]
 (sq_ [mv_ 5 1,
 pr_ 6 (bk_ .and 5 .i64 1),
 pr_ 7 (bk_ .gtr 6 .i64 0),
 mv_ 8 7,
 gp_ 9 8 false (fa_ 2 2),
 gp_ 10 8 false (lf_ 1 9),
 gp_ 11 8 false (bk_ .eql 10 .i64 0),
 pr_ 12 (po_ 8 11),
 mv_ 13 12,
 gp_ 14 13 true (mo_ 1),
 gp_ 15 13 true (bk_ .and 14 .i64 2),
 gp_ 16 13 true (bk_ .gtr 15 .i64 0),
 gp_ 17 13 true (mo_ 16),
 gp_ 18 17 false (fa_ 3 2),
 gp_ 19 17 false (lf_ 1 18),
 gp_ 20 17 false (.bin false .eql (.tmp 19) (.const (.string (ByteArray.mk #[])))),
 gp_ 21 13 true (po_ 17 20),
 pr_ 22 (pa_ 13 21),
 mv_ 23 22,
 gp_ 24 23 true (mo_ 1),
 gp_ 25 23 true (bk_ .and 24 .i64 4),
 gp_ 26 23 true (bk_ .gtr 25 .i64 0),
 gp_ 27 23 true (mo_ 26),
 gp_ 28 27 false (fa_ 4 2),
 gp_ 29 27 false (lf_ 1 28),
 gp_ 30 27 false (bk_ .eql 29 .u64 0),
 gp_ 31 27 false (mo_ 30),
 gp_ 32 31 true (fa_ 5 2),
 gp_ 33 31 true (lf_ 1 32),
 gp_ 34 31 true (bk_ .eql 33 .u64 0),
 gp_ 35 27 false (pa_ 31 34),
 gp_ 36 23 true (po_ 27 35),
 pr_ 37 (pa_ 23 36),
 mv_ 38 37,
 gp_ 39 38 true (mo_ 1),
 gp_ 40 38 true (bk_ .and 39 .i64 8),
 gp_ 41 38 true (bk_ .gtr 40 .i64 0),
 gp_ 42 38 true (mo_ 41),
 gp_ 43 42 false (fa_ 6 2),
 gp_ 44 42 false (lf_ 1 43),
 gp_ 45 42 false (bk_ .eql 44 .i64 0),
 gp_ 46 38 true (po_ 42 45),
 pr_ 47 (pa_ 38 46),
 mv_ 48 47,
 gp_ 49 48 true (mo_ 1),
 gp_ 50 48 true (bk_ .and 49 .i64 16),
 gp_ 51 48 true (bk_ .gtr 50 .i64 0),
 gp_ 52 48 true (mo_ 51),
 gp_ 53 52 false (fa_ 7 2),
 gp_ 54 52 false (lf_ 1 53),
 gp_ 55 52 false (.lenv (.tmp 54)),
 gp_ 56 52 false (bk_ .eql 55 .i64 0),
 gp_ 57 48 true (po_ 52 56),
 pr_ 58 (pa_ 48 57),
 mv_ 59 58,
 gp_ 60 59 true (mo_ 1),
 gp_ 61 59 true (bk_ .and 60 .i64 64),
 gp_ 62 59 true (bk_ .gtr 61 .i64 0),
 gp_ 63 59 true (mo_ 62),
 gp_ 64 63 false (fa_ 8 2),
 gp_ 65 63 false (lt_ 3 64),
 gc_ 66 63 false 153 [(.tmp 65)],
 gp_ 67 59 true (po_ 63 66),
 pr_ 68 (pa_ 59 67),
 mv_ 69 68,
 gp_ 70 69 true (mo_ 1),
 gp_ 71 69 true (bk_ .and 70 .i64 128),
 gp_ 72 69 true (bk_ .gtr 71 .i64 0),
 gp_ 73 69 true (mo_ 72),
 gp_ 74 73 false (fa_ 11 2),
 gp_ 75 73 false (lt_ 6 74),
 gc_ 76 73 false 154 [(.tmp 75)],
 gp_ 77 69 true (po_ 73 76),
 pr_ 78 (pa_ 69 77),
 mv_ 79 78,
 gp_ 80 79 true (mo_ 1),
 gp_ 81 79 true (bk_ .and 80 .i64 256),
 gp_ 82 79 true (bk_ .gtr 81 .i64 0),
 gp_ 83 79 true (mo_ 82),
 gp_ 84 83 false (fa_ 17 2),
 gp_ 85 83 false (lf_ 1 84),
 gp_ 86 83 false (.lenv (.tmp 85)),
 gp_ 87 83 false (bk_ .eql 86 .i64 0),
 gp_ 88 79 true (po_ 83 87),
 pr_ 89 (pa_ 79 88),
 mv_ 90 89,
 gp_ 91 90 true (mo_ 1),
 gp_ 92 90 true (bk_ .and 91 .i64 512),
 gp_ 93 90 true (bk_ .gtr 92 .i64 0),
 gp_ 94 90 true (mo_ 93),
 gp_ 95 94 false (fa_ 18 2),
 gp_ 96 94 false (lf_ 1 95),
 gc_ 97 94 false 155 [(.tmp 96)],
 gp_ 98 90 true (po_ 94 97),
 pr_ 99 (pa_ 90 98),
 mv_ 4 99]
 .ret))
def o125:List Tmp:=[]
def r125:List RV:=[.tmp 4]
theorem t125:Text Tryz.prog 125 o125 c125 r125 100:=.mk_ Tryz.f125 rfl
def c126:ACode :=
 (sq_ [pr_ 2 (.boxr (.tmp 0)),
 pr_ 4 mf_]
 (sq_ [pr_ 5 (fa_ 2 2),
 pr_ 6 (lf_ 1 5),
 pr_ 7 (bk_ .geq 6 .i64 0),
 mv_ 8 7,
 gp_ 9 8 true (fa_ 2 2),
 gp_ 10 8 true (lf_ 1 9),
 gp_ 11 8 true (bk_ .leq 10 .i64 2147483647),
 pr_ 12 (pa_ 8 11),
 mv_ 13 12,
 gp_ 14 13 true (mo_ 1),
 gp_ 15 13 true (bk_ .and 14 .i64 2),
 gp_ 16 13 true (bk_ .eql 15 .i64 0),
 gp_ 17 13 true (mo_ 16),
 gp_ 18 17 false (fa_ 3 2),
 gp_ 19 17 false (lf_ 1 18),
 gc_ 20 17 false 86 [(.tmp 19)],
 gp_ 21 13 true (po_ 17 20),
 pr_ 22 (pa_ 13 21),
 mv_ 23 22,
 gp_ 24 23 true (fa_ 4 2),
 gp_ 25 23 true (lf_ 1 24),
 gp_ 26 23 true (bk_ .leq 25 .u64 1099511627776),
 pr_ 27 (pa_ 23 26),
 mv_ 28 27,
 gp_ 29 28 true (fa_ 5 2),
 gp_ 30 28 true (lf_ 1 29),
 gp_ 31 28 true (bk_ .leq 30 .u64 1099511627776),
 pr_ 32 (pa_ 28 31),
 mv_ 33 32,
 gp_ 34 33 true (fa_ 6 2),
 gp_ 35 33 true (lf_ 1 34),
 gp_ 36 33 true (bk_ .geq 35 .i64 0),
 pr_ 37 (pa_ 33 36),
 mv_ 38 37,
 gp_ 39 38 true (fa_ 6 2),
 gp_ 40 38 true (lf_ 1 39),
 gp_ 41 38 true (bk_ .leq 40 .i64 3),
 pr_ 42 (pa_ 38 41),
 mv_ 43 42,
 gp_ 44 43 true (fa_ 7 2),
 gp_ 45 43 true (lf_ 1 44),
 gc_ 46 43 true 106 [(.tmp 45)],
 pr_ 47 (pa_ 43 46),
 mv_ 48 47,
 gp_ 49 48 true (mo_ 1),
 gp_ 50 48 true (bk_ .and 49 .i64 32),
 gp_ 51 48 true (bk_ .eql 50 .i64 0),
 gp_ 52 48 true (mo_ 51),
 gp_ 53 52 false (fa_ 7 2),
 gp_ 54 52 false (lf_ 1 53),
 gp_ 55 52 false (.lenv (.tmp 54)),
 gp_ 56 52 false (bk_ .gtr 55 .i64 0),
 gp_ 57 48 true (po_ 52 56),
 pr_ 58 (pa_ 48 57),
 mv_ 59 58,
 gp_ 60 59 true (mo_ 1),
 gp_ 61 59 true (bk_ .and 60 .i64 64),
 gp_ 62 59 true (bk_ .eql 61 .i64 0),
 gp_ 63 59 true (mo_ 62),
 gp_ 64 63 false (fa_ 8 2),
 gp_ 65 63 false (lt_ 3 64),
 gc_ 66 63 false 107 [(.tmp 65)],
 gp_ 67 59 true (po_ 63 66),
 pr_ 68 (pa_ 59 67),
 mv_ 69 68,
 gp_ 70 69 true (mo_ 1),
 gp_ 71 69 true (bk_ .and 70 .i64 128),
 gp_ 72 69 true (bk_ .eql 71 .i64 0),
 gp_ 73 69 true (mo_ 72),
 gp_ 74 73 false (fa_ 11 2),
 gp_ 75 73 false (lt_ 6 74),
 gc_ 76 73 false 51 [(.tmp 75)],
 gp_ 77 69 true (po_ 73 76),
 pr_ 78 (pa_ 69 77),
 mv_ 79 78,
 gp_ 80 79 true (mo_ 1),
 gp_ 81 79 true (bk_ .and 80 .i64 256),
 gp_ 82 79 true (bk_ .eql 81 .i64 0),
 gp_ 83 79 true (mo_ 82),
 gp_ 84 83 false (fa_ 17 2),
 gp_ 85 83 false (lf_ 1 84),
 gc_ 86 83 false 131 [(.tmp 85)],
 gp_ 87 79 true (po_ 83 86),
 pr_ 88 (pa_ 79 87),
 mv_ 4 88]
 .ret))
def o126:List Tmp:=[]
def r126:List RV:=[.tmp 4]
theorem t126:Text Tryz.prog 126 o126 c126 r126 89:=.mk_ Tryz.f126 rfl
def c131:ACode :=
 (sq_ [pr_ 2 mf_]
 (.seq (sq_ [mv_ 5 0,
 pr_ 6 (.lenv (.tmp 5)),
 pr_ 7 (bk_ .lss 6 .i64 1),
 mv_ 8 7,
 gp_ 9 8 false (mo_ 0),
 gp_ 10 8 false (.lenv (.tmp 9)),
 gp_ 11 8 false (bk_ .gtr 10 .i64 6),
 pr_ 12 (po_ 8 11)]
 (.cond (.tmp 12)
 (sq_ [pr_ 2 mf_]
 .ret)
 .skip))
 (.seq (sq_ [mv_ 13 0,
 pr_ 14 (.lenv (.tmp 13)),
 pr_ 15 (mi_ .i64 0)]
 (.block 0 (.loop [1,2,3,4,5,6,7,8,9,10,11,12,16,17,18,19,20,21,22,23,24,25,26,27,28,29,30,31,32,33,34,35,36,37,38,39,40,41,42,43,44,45] (sq_ [pr_ 16 (bt_ .lss 15 14)]
 (.seq (.cond (.tmp 16)
 .skip
 (.exit 0))
 (.seq (.block 1 (sq_ [mv_ 17 15,
 pr_ 18 (.iadrs 2 (.tmp 13) (.tmp 15)),
 pr_ 19 (lt_ 2 18),
 pr_ 4 (.allocm [.pl (.string .empty),.pl (.string .empty)]),
 mv_ 3 17,
 st_ (so_ 2 4 19)]
 (.seq (.after (.after (.draw [⟨pr_ 20 (fa_ 0 4),[],false,0,0⟩,
 ⟨pr_ 21 (lf_ 1 20),[0],false,0,0⟩,
 ⟨c1_ 22 108 21,[0,1],true,0,0⟩,
 ⟨pr_ 23 (no_ 22),[0,1,2],false,1,1⟩,
 ⟨mv_ 24 23,[0,1,2,3],false,1,1⟩,
 ⟨gp_ 25 24 false (fa_ 1 4),[0,1,2,3,4],false,1,1⟩,
 ⟨gp_ 26 24 false (lf_ 1 25),(List.range 6),false,1,1⟩,
 ⟨gc_ 27 24 false 157 [(.tmp 26)],(List.range 7),true,0,0⟩,
 ⟨gp_ 28 24 false (no_ 27),(List.range 8),false,2,2⟩,
 ⟨pr_ 29 (po_ 24 28),(List.range 9),false,2,2⟩,
 ⟨mv_ 30 29,(List.range 10),false,2,2⟩,
 ⟨gp_ 31 30 false (mo_ 3),(List.range 11),false,2,2⟩,
 ⟨gp_ 32 30 false (bk_ .gtr 31 .i64 0),(List.range 12),false,2,2⟩,
 ⟨gp_ 33 30 false (mo_ 32),(List.range 13),false,2,2⟩,
 ⟨gp_ 34 33 true (fa_ 0 4),(List.range 14),false,2,2⟩,
 ⟨gp_ 35 33 true (lf_ 1 34),(List.range 15),false,2,2⟩,
 ⟨gp_ 36 33 true (mo_ 0),(List.range 14),false,2,2⟩,
 ⟨gp_ 37 33 true (mo_ 3),(List.range 14),false,2,2⟩,
 ⟨gp_ 38 33 true (bk_ .sub 37 .i64 1),[0,1,2,3,4,5,6,7,8,9,10,11,12,13,17],false,2,2⟩,
 ⟨gp_ 39 33 true (.iadrs 2 (.tmp 36) (.tmp 38)),[0,1,2,3,4,5,6,7,8,9,10,11,12,13,16,17,18],false,2,2⟩,
 ⟨gp_ 40 33 true (fa_ 0 39),[0,1,2,3,4,5,6,7,8,9,10,11,12,13,16,17,18,19],false,2,2⟩,
 ⟨gp_ 41 33 true (lf_ 1 40),[0,1,2,3,4,5,6,7,8,9,10,11,12,13,16,17,18,19,20],false,2,2⟩,
 ⟨gp_ 42 33 true (bt_ .leq 35 41),(List.range 22),false,2,2⟩,
 ⟨gp_ 43 30 false (pa_ 33 42),(List.range 23),false,2,2⟩,
 ⟨pr_ 44 (po_ 30 43),(List.range 24),false,2,2⟩]) (.clear [4,20,25,34])) (.keep 0))
 (.cond (.tmp 44)
 (sq_ [pr_ 2 mf_]
 .ret)
 .skip))))
 (.ops [pr_ 45 (bk_ .add 15 .i64 1),
 mv_ 15 45])))))))
 (sq_ [pr_ 2 mt_]
 .ret))))
def o131:List Tmp:=[]
def r131:List RV:=[.tmp 2]
theorem t131:Text Tryz.prog 131 o131 c131 r131 46:=.mk_ Tryz.f131 rfl
def c136:ACode :=
 (sq_ [pr_ 4 (.allocm [.nils,.nils,.pl (.bool false),.pl (.float .f64 0),.pl (.float .f64 0),.nils])]
 (sq_ [mv_ 10 1,
 mv_ 11 0,
 c1_ 12 112 11,
 ⟨some 13,none,.call (.tmp 10) [(.tmp 12)]⟩,
 mv_ 9 13,
 pr_ 14 (ex_ 0 9),
 pr_ 15 (ex_ 1 9),
 pr_ 16 (ex_ 2 9),
 ⟨some 5,none,.fresh 6 5 (.tmp 14)⟩,
 mv_ 6 15,
 mv_ 7 16]
 (.seq (sq_ [mv_ 17 0,
 mv_ 18 6,
 mv_ 19 7,
 cl_ 20 113 [(.tmp 17),(.tmp 18),(.tmp 19)],
 pr_ 21 (no_ 20)]
 (.cond (.tmp 21)
 (sq_ [pr_ 8 (.allocm [.nils,.nils,.pl (.bool false),.pl (.float .f64 0),.pl (.float .f64 0),.nils])]
 (sq_ [pr_ 22 (lt_ 6 8),
 st_ (so_ 6 4 22)]
 .ret))
 .skip))
 (sq_ [pr_ 23 (lt_ 6 5),
 st_ (so_ 6 4 23)]
 .ret))))
def o136:List Tmp:=[4]
def r136:List RV:=[.cell 4 6 true]
theorem t136:Text Tryz.prog 136 o136 c136 r136 24:=.mk_ Tryz.f136 rfl
def c137:ACode :=
 (sq_ [pr_ 4 (.mov (.const (.slice none 0 0)))]
 (sq_ [mv_ 10 1,
 mv_ 11 0,
 c1_ 12 112 11,
 ⟨some 13,none,.call (.tmp 10) [(.tmp 12)]⟩,
 mv_ 9 13,
 pr_ 14 (ex_ 0 9),
 pr_ 15 (ex_ 1 9),
 pr_ 16 (ex_ 2 9),
 mv_ 5 14,
 mv_ 6 15,
 mv_ 7 16]
 (.seq (sq_ [mv_ 17 0,
 mv_ 18 6,
 mv_ 19 7,
 cl_ 20 113 [(.tmp 17),(.tmp 18),(.tmp 19)],
 pr_ 21 (no_ 20)]
 (.cond (.tmp 21)
 (sq_ [pr_ 8 (.mov (.const (.slice none 0 0)))]
 (sq_ [mv_ 22 8,
 mv_ 4 22]
 .ret))
 .skip))
 (sq_ [mv_ 23 5,
 mv_ 4 23]
 .ret))))
def o137:List Tmp:=[]
def r137:List RV:=[.tmp 4]
theorem t137:Text Tryz.prog 137 o137 c137 r137 24:=.mk_ Tryz.f137 rfl
def c138:ACode :=
 (sq_ [pr_ 2 (.mov (.const (.slice none 0 0))),
 pr_ 3 (mi_ .i64 0),
 pr_ 4 mf_]
 (sq_ [mv_ 9 0,
 c1_ 10 54 9,
 mv_ 5 10]
 (.seq (.after (.ops [pr_ 6 (.mov (.const (.slice none 0 0)))]) (.own 6 2))
 (.seq (sq_ [mv_ 11 5,
 cl_ 12 59 [(.tmp 11),(.const (.int .u64 6))],
 pr_ 13 (mi_ .u64 0)]
 (.block 0 (.loop [0,1,2,3,4,7,8,9,10,11,14,15,16,17,18,19,20,21,22,23,24,25,26,27,28,29,30,31,32,33,34,35,36] (sq_ [pr_ 14 (bt_ .lss 13 12)]
 (.seq (.cond (.tmp 14)
 .skip
 (.exit 0))
 (.seq (.block 1 (.ops [mv_ 15 6,
 mv_ 16 5,
 cl_ 17 60 [(.tmp 16),(.const (.int .i64 12))],
 mv_ 18 5,
 cl_ 19 60 [(.tmp 18),(.const (.int .i64 24))],
 pr_ 20 (.build [.pl (.string .empty),.pl (.string .empty)] [(0,1,(.tmp 17)),(1,1,(.tmp 19))]),
 pr_ 21 (.bsl false 2 true 1 [.pl (.string .empty),.pl (.string .empty)] [(0,2,(.tmp 20))]),
 pr_ 22 (.app 2 (.tmp 15) (.tmp 21)),
 mv_ 6 22]))
 (.ops [pr_ 23 (bk_ .add 13 .u64 1),
 mv_ 13 23])))))))
 (.seq (.ghost (.shut 6) (.ops [mv_ 24 5,
 mv_ 25 6,
 c1_ 26 131 25,
 cl_ 27 61 [(.tmp 24),(.tmp 26)]]))
 (sq_ [mv_ 29 5,
 c1_ 30 62 29,
 mv_ 28 30,
 pr_ 31 (ex_ 0 28),
 pr_ 32 (ex_ 1 28),
 mv_ 7 31,
 mv_ 8 32]
 (.seq (sq_ [mv_ 33 8,
 pr_ 34 (no_ 33)]
 (.cond (.tmp 34)
 (sq_ [pr_ 2 (.mov (.const (.slice none 0 0))),
 pr_ 3 (mi_ .i64 0),
 pr_ 4 mf_]
 (.ghost (.shut 2) .ret))
 .skip))
 (sq_ [mv_ 35 6,
 mv_ 36 7,
 mv_ 2 35,
 mv_ 3 36,
 pr_ 4 mt_]
 (.ghost (.shut 2) .ret)))))))))
def o138:List Tmp:=[]
def r138:List RV:=[.tmp 2,.tmp 3,.tmp 4]
theorem t138:Text Tryz.prog 138 o138 c138 r138 37:=.mk_ Tryz.f138 rfl
def c153:ACode :=
 (sq_ [pr_ 1 (.boxr (.tmp 0)),
 pr_ 2 mf_]
 (sq_ [pr_ 3 (fa_ 0 1),
 pr_ 4 (lf_ 1 3),
 pr_ 5 (no_ 4),
 mv_ 6 5,
 gp_ 7 6 true (fa_ 1 1),
 gp_ 8 6 true (lf_ 1 7),
 gc_ 9 6 true 155 [(.tmp 8)],
 pr_ 10 (pa_ 6 9),
 mv_ 11 10,
 gp_ 12 11 true (fa_ 2 1),
 gp_ 13 11 true (lf_ 1 12),
 gc_ 14 11 true 155 [(.tmp 13)],
 pr_ 15 (pa_ 11 14),
 mv_ 2 15]
 .ret))
def o153:List Tmp:=[]
def r153:List RV:=[.tmp 2]
theorem t153:Text Tryz.prog 153 o153 c153 r153 16:=.mk_ Tryz.f153 rfl
def c154:ACode :=
 (sq_ [pr_ 1 (.boxr (.tmp 0)),
 pr_ 2 mf_]
 (sq_ [pr_ 3 (fa_ 0 1),
 pr_ 4 (lf_ 1 3),
 pr_ 5 (.lenv (.tmp 4)),
 pr_ 6 (bk_ .eql 5 .i64 0),
 mv_ 7 6,
 gp_ 8 7 true (fa_ 1 1),
 gp_ 9 7 true (lf_ 1 8),
 gp_ 10 7 true (.lenv (.tmp 9)),
 gp_ 11 7 true (bk_ .eql 10 .i64 0),
 pr_ 12 (pa_ 7 11),
 mv_ 13 12,
 gp_ 14 13 true (fa_ 5 1),
 gp_ 15 13 true (lf_ 1 14),
 gp_ 16 13 true (.lenv (.tmp 15)),
 gp_ 17 13 true (bk_ .eql 16 .i64 0),
 pr_ 18 (pa_ 13 17),
 mv_ 19 18,
 gp_ 20 19 true (fa_ 2 1),
 gp_ 21 19 true (lt_ 3 20),
 gc_ 22 19 true 153 [(.tmp 21)],
 pr_ 23 (pa_ 19 22),
 mv_ 2 23]
 .ret))
def o154:List Tmp:=[]
def r154:List RV:=[.tmp 2]
theorem t154:Text Tryz.prog 154 o154 c154 r154 24:=.mk_ Tryz.f154 rfl
def c155:ACode :=
 (sq_ [pr_ 2 mf_]
 (sq_ [mv_ 3 0,
 c1_ 4 94 3,
 pr_ 5 (bk_ .eql 4 .u64 0),
 mv_ 2 5]
 .ret))
def o155:List Tmp:=[]
def r155:List RV:=[.tmp 2]
theorem t155:Text Tryz.prog 155 o155 c155 r155 6:=.mk_ Tryz.f155 rfl
def c157:ACode :=
 (sq_ [pr_ 2 mf_]
 (sq_ [mv_ 3 0,
 pr_ 4 (.lens (.tmp 3)),
 pr_ 5 (bk_ .geq 4 .i64 1),
 mv_ 6 5,
 gp_ 7 6 true (mo_ 0),
 gp_ 8 6 true (.lens (.tmp 7)),
 gp_ 9 6 true (bk_ .leq 8 .i64 24),
 pr_ 10 (pa_ 6 9),
 mv_ 2 10]
 .ret))
def o157:List Tmp:=[]
def r157:List RV:=[.tmp 2]
theorem t157:Text Tryz.prog 157 o157 c157 r157 11:=.mk_ Tryz.f157 rfl
end Go.Proofs.YtmkmhhjkdaklbaaGreat
namespace Go.Proofs.YtmkmhhjkdaklbaaGreat
open Go Go.Ab Go.Cod
set_option maxRecDepth 100000
abbrev noLb:Lab:=(⟨#[]⟩,⟨#[]⟩)
def valB (v:ByteArray):Bool:=decide (1≤v.size)&&decide (v.size≤24)
def labOk (L:List Lab) (i:Nat):Bool:=nameB (L.getD i noLb).1&&(valB (L.getD i noLb).2&& !(decide (0<i)&&leS (L.getD i noLb).1 (L.getD (i-1) noLb).1))
def setB (L:List Lab):Bool:=decide (1≤L.length)&&(decide (L.length≤6)&&(List.range L.length).all (labOk L))
theorem lvs_D (L:List Lab) (i:Nat) (h:i<L.length):(lvs L)[i]?=some (.agg [Sx (L.getD i noLb).1,Sx (L.getD i noLb).2]):=by
 have:=z4P L i h;rw[this,List.getD_eq_getElem?_getD,List.getElem?_eq_getElem h];rfl
theorem z7H (n:Nat) (a b:ByteArray):∀y∈([Sx a,Sx b]:List AV),Bel n y:=by
 intro y hy;simp only[List.mem_cons,List.not_mem_nil,or_false]at hy;rcases hy with rfl|rfl<;>exact .pl _
theorem z0g (n:Nat) (L:List Lab):Bel n (.sl 2 (lvs L)):=by
 refine .sl 2 _ fun i hi=>?_
 have:∀y∈lvs L,Bel n y:=by
  intro y hy;simp only[lvs,List.mem_map]at hy;obtain⟨x,_,rfl⟩:=hy;exact .agg _ fun i hi=>z7H n x.1 x.2 _ (List.getElem_mem hi)
 exact this _ (List.getElem_mem hi)
theorem zaN (n:Nat) (L:List Lab):Bel n (.sl 2 (lvs L))=True:=eq_true (z0g n L)
theorem BL_lb (n:Nat) (a b:ByteArray):Bel n (.agg [Sx a,Sx b])=True:=eq_true (.agg _ fun i hi=>z7H n a b _ (List.getElem_mem hi))
theorem BL_r2 (n:Nat) (a b:ByteArray):Bel n (.rp [Sx a,Sx b])=True:=eq_true (.rp _ fun i hi=>z7H n a b _ (List.getElem_mem hi))
theorem BL_r1 (n:Nat) (b:ByteArray):Bel n (.rp [Sx b])=True:=eq_true (.rp _ fun i hi=>by
 have:i=0:=by simp at hi;omega
 subst this;exact .pl _)
section
variable (σ:St)
theorem zh1 (v:ByteArray):Ans Tryz.prog 157 [Sx v] σ (Bo (valB v)) σ:=by
 have d1:decide ((1:Int)≤(v.size:Nat))=decide (1≤v.size):=intle 1 v.size;have d2:decide (((v.size:Nat):Int)≤24)=decide (v.size≤24):=intle v.size 24;refine Ans.of_run t157 ?_;unfold valB
 cases h:decide (1≤v.size) with
 |false =>
  simp -implicitDefEqProofs only[c157,r157,go_sem,d1,h];exact Fini.ret rfl
 |true =>
  simp -implicitDefEqProofs only[c157,r157,go_sem,d1,d2,h];exact Fini.ret rfl
theorem z28 (L:List Lab):Ans Tryz.prog 131 [.sl 2 (lvs L)] σ (Bo (setB L)) σ:=by
 have e1:decide ((L.length:Int)<1)= !decide (1≤L.length):=by
  by_cases h:1≤L.length
  · rw[decide_eq_true h,decide_eq_false (by omega)];rfl
  · rw[decide_eq_false h,decide_eq_true (by omega)];rfl
 have e2:decide ((6:Int)<L.length)= !decide (L.length≤6):=by
  by_cases h:L.length≤6
  · rw[decide_eq_true h,decide_eq_false (by omega)];rfl
  · rw[decide_eq_false h,decide_eq_true (by omega)];rfl
 refine Ans.of_run' t131 (fun hbel hba=>?_)
 have le1:(σ.length≤σ.length+1)=True:=eq_true (by omega)
 have hb0:(∀o∈σ,BelO σ.length o)=True:=eq_true hbel;have htk:∀x:Ob,(σ++[x]).take σ.length=σ:=fun x=>List.take_left' rfl
 unfold setB
 cases h1:decide (1≤L.length) with
 |false =>
  simp -implicitDefEqProofs only[c131,r131,go_sem,z0k,e1,h1];exact Fini.ret rfl
 |true =>
 cases h2:decide (L.length≤6) with
 |false =>
  simp -implicitDefEqProofs only[c131,r131,go_sem,z0k,e1,e2,h1,h2];exact Fini.ret rfl
 |true =>
 have hl6:L.length≤6:=of_decide_eq_true h2;simp -implicitDefEqProofs only[c131,r131,go_sem,z0k,e1,e2,h1,h2];refine Go.Ab.L.scan L.length (labOk L) (fun i=>mkE 46 [(0,.sl 2 (lvs L)),(13,.sl 2 (lvs L)),(14,I L.length),(15,I i)]) (fun _=>σ) ?_ ?_ rfl rfl
 · intro i hi hp J hJ;have hx:=lvs_D L i hi;have hF:labOk L i=false→(List.range L.length).all (labOk L)=false:=fun h=>List.all_eq_false.2 ⟨i,List.mem_range.2 hi,by rw[h];decide⟩
   have hin:=wrap_succ (i:=i) (by omega)
   have d0:decide ((0:Int)<i)=decide (0<i):=by rw[Bool.eq_iff_iff];simp
   have hO:labOk L i=(nameB (L.getD i noLb).1&&(valB (L.getD i noLb).2&& !(decide (0<i)&&leS (L.getD i noLb).1 (L.getD (i-1) noLb).1))):=rfl;rw[hO]at hJ hF;generalize L.getD i noLb=x at hJ hF hx;obtain⟨nm,v⟩:=x;simp only at hJ hF hx;have n1:=fun s=>z5S s nm
   have n2:=fun s=>zh1 s v
   simp -implicitDefEqProofs only[mkE,go_sem,z00,z0k,z0f hi,dec_lt hi,hx,g0,s0]
   first|refine CD.intro (n1 _) ?_|refine CS.intro n1 ?_
   cases hb1:nameB nm with
   |false =>
    rw[hb1]at hF;rw[hF rfl];simp -implicitDefEqProofs only[go_sem,z00,g0,s0,le1,B_pl,B_any,z2E,B_tup,B_osl,B_ptr,B_sl0,zaN,BL_lb,BL_r2,BL_r1,htk,Nat.add_zero,hb0,List.length_append];exact Fini.ret rfl
   |true =>
    rw[hb1]at hF hJ;simp -implicitDefEqProofs only[go_sem,z00,g0,s0]
    first|refine CD.intro (n2 _) ?_|refine CS.intro n2 ?_
    cases hb2:valB v with
    |false =>
     rw[hb2]at hF;rw[hF rfl];simp -implicitDefEqProofs only[go_sem,z00,g0,s0,le1,B_pl,B_any,z2E,B_tup,B_osl,B_ptr,B_sl0,zaN,BL_lb,BL_r2,BL_r1,htk,Nat.add_zero,hb0,List.length_append];exact Fini.ret rfl
    |true =>
     rw[hb2]at hF hJ;by_cases hz:i=0
     · subst hz;have hgo:=hJ rfl;have w01:IntKind.i64.wrap 1=1:=rfl;simp -implicitDefEqProofs only[go_sem,z00,d0,hin,w01,g0,s0,le1,B_pl,B_any,z2E,B_tup,B_osl,B_ptr,B_sl0,zaN,BL_lb,BL_r2,BL_r1,htk,Nat.add_zero,hb0,List.length_append,Int.natCast_zero];exact hgo
     · have hpos:decide (0<i)=true:=decide_eq_true (by omega)
       have hx1:=lvs_D L (i-1) (by omega)
       have w1:IntKind.i64.wrap ((i:Int)-1)=((i-1:Nat):Int):=by rw[wrapN (by omega) (by omega)];omega
       have hlt1:(((i-1:Nat):Int)<L.length)=True:=by simp;omega
       rw[hpos]at hJ hF;generalize L.getD (i-1) noLb=x1 at hJ hF hx1;obtain⟨nm1,v1⟩:=x1;simp only at hJ hF hx1;have hle:(Op.bytesLess nm.toList nm1.toList||nm.toList==nm1.toList)=leS nm nm1:=rfl;simp -implicitDefEqProofs only[go_sem,z00,d0,hpos,w1,z0k,hlt1,hx1,hle,g0,s0,hin,g0,s0,le1,B_pl,B_any,z2E,B_tup,B_osl,B_ptr,B_sl0,zaN,BL_lb,BL_r2,BL_r1,htk,Nat.add_zero,hb0,List.length_append]
       cases h7:leS nm nm1 with
       |true =>
        rw[h7]at hF;rw[hF rfl];simp -implicitDefEqProofs only[go_sem];exact Fini.ret rfl
       |false =>
        rw[h7]at hJ;have hgo:=hJ rfl;simp -implicitDefEqProofs only[go_sem,hin];exact hgo
 · intro hp J;have hd:decide ((L.length:Int)<L.length)=false:=by simp
   simp -implicitDefEqProofs only[mkE,go_sem,z0k,hd];refine Fini.ret' rfl (z0U ?_);exact(List.all_eq_true.2 fun i hi=>hp i (List.mem_range.1 hi)).symm
end
def labR:Rd Lab:=seqR (textR 12) (textR 24)
def setR:Rd (List Lab):=onlyR (rowR 6 labR) setB
def putLb (x:Lab):Byt:=txtB x.1++txtB x.2
def z40 (L:List Lab):Byt:=z2K putLb L
theorem lab_fits:Fits labR putLb (fun x=>x.1.size≤12∧x.2.size≤24):=z16 (z1B (by decide)) (z1B (by decide))
theorem zf6:EndsR labR:=lab_fits.ends
theorem z4i {L:List Lab} (h:setB L=true):L.length≤6∧∀x∈L,x.1.size≤12∧x.2.size≤24:=by
 unfold setB at h;simp only[Bool.and_eq_true,decide_eq_true_eq]at h;refine⟨h.2.1,fun x hx=>?_⟩
 obtain⟨i,hi,rfl⟩:=List.getElem_of_mem hx;have h2:=List.all_eq_true.1 h.2.2 i (List.mem_range.2 hi);unfold labOk valB at h2;simp only[Bool.and_eq_true,decide_eq_true_eq]at h2;have e:L.getD i noLb=L[i]:=by rw[List.getD_eq_getElem?_getD,List.getElem?_eq_getElem hi];rfl
 rw[e]at h2;exact⟨z6Z h2.1,h2.2.1.2⟩
theorem set_fits:Fits setR z40 (fun L=>setB L=true) :=
 (z3k (z7s (by decide) lab_fits) setB).weaken fun L=>⟨fun h=>h.2,fun h=>⟨z4i h,h⟩⟩
theorem ends_set:EndsR setR:=set_fits.ends
def labS (b:Byt):Nat×Bool→Lab×(Nat×Bool):=seqSt (runR (textR 12) ⟨#[]⟩ b) (runR (textR 24) ⟨#[]⟩ b)
theorem z6j (b:Byt):StepsR b labR (labS b):=z0G (z0q b _ _) (z0q b _ _) (z0T 12)
def setS (b:Byt):Nat×Bool→List Lab×(Nat×Bool):=z0M (rowSt 6 b (labS b)) setB
theorem zdi (b:Byt):StepsR b setR (setS b):=z18 (z68 (z6j b) zf6 6) _
theorem z8Q (L:List Lab) (x:Lab):lvs L++[lv x]=lvs (L++[x]):=by simp[lvs]
abbrev lsV (L:List Lab):AV:=.sl 2 (lvs L)
theorem zbH (σ:St) (b:Byt) (hb:b.length≤50000):Ans Tryz.prog 138 [.sl 1 (byv b)] σ (readV (setR b) b lsV .nils) σ:=by
 have hS:=(zdi b).top;refine Ans.of_run' t138 (fun hbel _=>?_)
 simp -implicitDefEqProofs only[c138,r138,go_sem];refine CO.intro (z6a σ b) ?_;simp -implicitDefEqProofs only[go_sem,List.append_assoc,List.length_append];generalize hq1:runR (numR 6) 0 b (0,false)=q1;have hin0:Inb b (0,false):=Nat.zero_le _;have hn:=z34 (σ++[rob b (0,false),.row 2 []]) σ.length b (0,false) 6 (by decide) (g0 _ _ _) hin0 hb
 rw[hq1,s0]at hn;refine CO.intro hn ?_;have hn5:q1.1≤6:=by rw[←hq1];exact z35 b _
 have hin1:Inb b q1.2:=by rw[←hq1];exact z0l _ _ _ _ hin0
 simp -implicitDefEqProofs only[go_sem];refine Go.Ab.L.count q1.1 (fun i=>mkE 37 [(5,.ptr σ.length 0),(6,.osl (σ.length+1) i),(12,UN q1.1),(13,UN i)]) (fun i=>σ++[rob b (itSt (labS b) q1.2 i).2,.row 2 (lvs (itSt (labS b) q1.2 i).1)]) ?_ ?_ rfl rfl
 · intro i hi J hJ;have hitI:=z2x (z6j b).inb q1.2 hin1 i;have hlen:=z3u (labS b) q1.2 i;simp only[itSt]at hJ;generalize itSt (labS b) q1.2 i=c at hJ hitI hlen⊢;obtain⟨l,q⟩:=c;simp only at hJ hitI hlen⊢;have d0:decide ((i:Int)<q1.1)=true:=dec_lt hi;have w0:=z1T (n:=i+1) (by omega)
   have e0:((i:Int)+1)=((i+1:Nat):Int):=rfl;unfold labS seqSt at hJ;simp only at hJ;simp -implicitDefEqProofs only[mkE,go_sem,d0];have h2:=z3w (σ++[rob b q,.row 2 (lvs l)]) σ.length b q 12 (by decide) (g0 _ _ _) hitI hb
   have hi3:=z0l (textR 12) ⟨#[]⟩ b q hitI;generalize runR (textR 12) ⟨#[]⟩ b q=r2 at h2 hi3 hJ;rw[s0]at h2;refine CO.intro h2 ?_;have h3:=z3w (σ++[rob b r2.2,.row 2 (lvs l)]) σ.length b r2.2 24 (by decide) (g0 _ _ _) hi3 hb
   generalize runR (textR 24) ⟨#[]⟩ b r2.2=r3 at h3 hJ;rw[s0]at h3;simp -implicitDefEqProofs only[go_sem];refine CO.intro h3 ?_;have hl:(lvs l).length=i:=by rw[z0k,hlen]
   have hle:i+1≤4294967296:=by omega
   have hsn:=z8Q l (r2.1,r3.1);simp -implicitDefEqProofs only[go_sem,g1,s1,hl,hle,List.length_singleton,e0,w0];rw[←hsn]at hJ;exact hJ
 · intro J;have hitI:=z2x (z6j b).inb q1.2 hin1 q1.1;have hlen:=z3u (labS b) q1.2 q1.1
   have hL:setS b (0,false)=((itSt (labS b) q1.2 q1.1).1,took (itSt (labS b) q1.2 q1.1).2 0 (setB (itSt (labS b) q1.2 q1.1).1)):=by
    unfold setS z0M rowSt;rw[hq1]
   rw[hL]at hS;generalize itSt (labS b) q1.2 q1.1=c at hS hitI hlen⊢;obtain⟨l,q⟩:=c;simp only at hS hitI hlen⊢;have hl:(lvs l).length=q1.1:=by rw[z0k,hlen]
   have d0:decide ((q1.1:Int)<q1.1)=false:=by simp
   simp -implicitDefEqProofs only[mkE,go_sem,d0,g1,s1,hl];refine CO.intro (z28 _ l) ?_;have h2:=z0a (σ++[rob b q,.dead]) σ.length b q (setB l) (g0 _ _ _) hitI hb;rw[s0]at h2;simp -implicitDefEqProofs only[go_sem];refine CO.intro h2 ?_;have h3:=z3P (σ++[rob b (took q 0 (setB l)),.dead]) σ.length b (took q 0 (setB l)) (g0 _ _ _);simp -implicitDefEqProofs only[go_sem];refine CO.intro h3 ?_;have hbm:Bel σ.length (.sl 2 (lvs l)):=z0g _ _
   cases hr:setR b with
   |none =>
    have hb2:=hS.2 hr;rw[hb2];simp -implicitDefEqProofs only[go_sem];exact Fini.trim2 (σ':=σ) rfl rfl (Nat.le_refl _) (by unfold readV;exact z0b .nils) hbel
   |some p =>
    obtain⟨M,t⟩:=p;have hb2:=hS.1 M t hr;simp only[Prod.mk.injEq]at hb2;obtain⟨rfl,hb2⟩:=hb2;rw[hb2];simp -implicitDefEqProofs only[go_sem];refine Fini.trim2 (σ':=σ) rfl rfl (Nat.le_refl _) ?_ hbel;unfold readV;exact z0b hbm
theorem z8R (σ:St) (b:Byt) (hb:b.length≤50000):Ans Tryz.prog 138 [.sl 1 (byv b)] σ (readV (setR b) b lsV (lsV [])) σ:=by
 refine(zbH σ b hb).subR ?_;unfold readV
 cases setR b with
 |none=>exact .tup (.cons (.nils 2) (.refl _))
 |some p=>exact .refl _
end Go.Proofs.YtmkmhhjkdaklbaaGreat
namespace Go.Ab
open Go Go.ChangeShapes Go.WideShapes
theorem Reads.weak {P:Program} {t:TypeId} {f:Nat} {Q Q':List AV→Prop} (h:Reads P t f Q) (hq:∀xs,Q xs→∃ys,Q' ys∧Subs xs ys):Reads P t f Q':=by
 intro H enc W cs x hx;obtain⟨xs,h1,h2⟩:=h H enc W cs x hx;obtain⟨ys,h3,h4⟩:=hq xs h2;exact⟨ys,h4.reps h1,h3⟩
def zic:List AV→Prop:=fun xs=>∃n:Nat,xs=[.pl (.float .f64 n)]
theorem Reads.float {P:Program} {t:TypeId} (ht:P.underlying t=some (.float .f64)) (f:Nat):Reads P t f zic:=by
 intro H enc W cs x h
 have:∃n,cs=[.float .f64 n]:=by
  cases f with
  |zero=>simp[DataW.trod]at h
  |succ n =>
   unfold DataW.trod at h;rw[ht]at h;split at h<;>simp_all
 obtain⟨n,rfl⟩:=this;exact⟨_,z3s (.pl _),n,rfl⟩
def QSl (sz:Nat) (ag:Bool) (Q:List AV→Prop):List AV→Prop:=fun xs=>∃ys:List (List AV),(∀y∈ys,Q y)∧ys.length≤maxLen∧xs=[.sl sz (ys.map (wrapC ag))]
theorem QSlice.weak {sz:Nat} {ag:Bool} {Q:List AV→Prop} (xs:List AV) (h:QSlice sz ag Q xs):∃ys,QSl sz ag Q ys∧Subs xs ys:=by
 rcases h with rfl|⟨ys,h1,h2,rfl⟩
 · exact⟨_,⟨[],by simp,by simp,rfl⟩,.cons (.nils sz) .nil⟩
 · exact⟨_,⟨ys,h1,h2,rfl⟩,Subs.refl _⟩
end Go.Ab
namespace Go.Proofs.YtmkmhhjkdaklbaaGreat
open Go Go.Ab Go.ChangeShapes Go.WideShapes Go.ChangeAt Go.RowKit
set_option maxRecDepth 100000
def QMat:List AV→Prop:=fun xs=>∃d:Int×Int×Int,xs=[I d.1,I d.2.1,I d.2.2]
theorem zdj (f:Nat):Reads Tryz.prog 146 f QMat:=by
 cases f with
 |zero=>exact Reads.zero
 |succ f =>
  have h:=Reads.struct (P:=Tryz.prog) (t:=146) (f:=f) (Qs:=[QInt .i64,QInt .i64,QInt .i64]) Tryz.underlying146 (by kernel_rfl) rfl (by
   intro p hp;simp only[List.zip_cons_cons,List.zip_nil_right,List.mem_cons,List.not_mem_nil,or_false]at hp;rcases hp with rfl|rfl|rfl
   · exact Reads.int Tryz.underlying3 f
   · exact Reads.int Tryz.underlying3 f
   · exact Reads.int Tryz.underlying3 f)
  refine h.mono fun xs hq=>?_
  obtain⟨_,b,rfl,⟨k,_,rfl⟩,_,d,rfl,⟨n,_,rfl⟩,_,_,rfl,⟨v,_,rfl⟩,rfl⟩:=hq;exact⟨(k,n,v),rfl⟩
theorem zaO:∀{ys:List (List AV)},(∀y∈ys,QMat y)→∃ds:List (Int×Int×Int),ds.length=ys.length∧ys.map (wrapC true)=ds.map dv
 |[],_=>⟨[],rfl,rfl⟩
 |y::ys,h=>by
  obtain⟨d,rfl⟩:=h y List.mem_cons_self;obtain⟨ds,hl,hns⟩:=zaO fun y hy=>h y (List.mem_cons_of_mem _ hy)
  exact⟨d::ds,by simp[hl],by rw[List.map_cons,hns];rfl⟩
theorem zdk:∀{ys:List (List AV)},(∀y∈ys,QInt .i64 y)→∃ns:List Int,ys.map (wrapC false)=ns.map I
 |[],_=>⟨[],rfl⟩
 |y::ys,h=>by
  obtain⟨n,_,rfl⟩:=h y List.mem_cons_self;obtain⟨ns,hns⟩:=zdk fun y hy=>h y (List.mem_cons_of_mem _ hy)
  exact⟨n::ns,by rw[List.map_cons,hns];rfl⟩
def QMats:List AV→Prop:=fun xs=>∃ds:List (Int×Int×Int),ds.length≤9223372036854775807∧xs=[.sl 3 (ds.map dv)]
def QInts:List AV→Prop:=fun xs=>∃ns:List Int,xs=[.sl 1 (ns.map I)]
theorem z4X (f:Nat):Reads Tryz.prog 37 f QMats:=by
 cases f with
 |zero=>exact Reads.zero
 |succ f =>
  refine((Reads.slice (sz:=3) true Tryz.underlying37 (by kernel_rfl) (by decide) (zdj f) (fun _ _ _=>rfl)).weak QSlice.weak).mono fun xs hq=>?_
  obtain⟨ys,h1,h2,rfl⟩:=hq;obtain⟨ds,hl,e⟩:=zaO h1;have hml:maxLen=9223372036854775807:=by decide
  exact⟨ds,by omega,by rw[e]⟩
theorem z74 (f:Nat):Reads Tryz.prog 40 f QInts:=by
 cases f with
 |zero=>exact Reads.zero
 |succ f =>
  refine((Reads.slice (sz:=1) false Tryz.underlying40 (by kernel_rfl) (by decide) (Reads.int Tryz.underlying3 f) (fun y hy _=>by obtain⟨n,_,rfl⟩:=hy;rfl)).weak QSlice.weak).mono fun xs hq=>?_
  obtain⟨ys,h1,h2,rfl⟩:=hq;obtain⟨ds,e⟩:=zdk h1;exact⟨ds,by rw[e]⟩
structure RuD where
 ds:List (Int×Int×Int)
 es:List (Int×Int×Int)
 sel:Int
 lo:Nat
 hi:Nat
 ns:List Int
 hd:ds.length≤9223372036854775807
 he:es.length≤9223372036854775807
def duC (d:RuD):List AV:=[.sl 3 (d.ds.map dv),.sl 3 (d.es.map dv),I d.sel,Fl d.lo,Fl d.hi,.sl 1 (d.ns.map I)]
def duV (d:RuD):AV:=.agg (duC d)
section
variable {H:Type} {enc:TypeId×Value→H} {W:World} {base:Nat} {v:Value} {d:DataW H} {ps:List MemPlace}
theorem zh2 (hv:Value.okWide Tryz.prog W .any base 3 v) (h:DataW.Trod enc Tryz.prog W 0 (fun _=>true) true 3 v d ps):∃n:Int,Rep noM noR W (I n) v:=by
 obtain⟨n,rfl⟩:=okWide_int Tryz.underlying3 hv;obtain⟨x,hx,m,hm,e⟩:=Reads.arg (P:=Tryz.prog) (t:=3) (fun f=>Reads.int Tryz.underlying3 f) rfl h
 simp only[List.cons.injEq,and_true]at e;subst e;exact⟨m,hx⟩
end
end Go.Proofs.YtmkmhhjkdaklbaaGreat
namespace Go.Proofs.YtmkmhhjkdaklbaaGreat
open Go Go.Ab Go.Cod
set_option maxRecDepth 100000
def z38 (d:RuD):RuM:=⟨mustL true (z0w d.ds []),mustL true (z0w d.es []),(z0H d.sel d.lo d.hi).1,(z0H d.sel d.lo d.hi).2.1,(z0H d.sel d.lo d.hi).2.2,z4h d.ns⟩
theorem zf7 (σ:St) (d:RuD):Ans Tryz.prog 22 [duV d] σ (ruV (z38 d)) σ :=
 zh0 σ d.ds d.es d.sel d.lo d.hi d.ns (z0H d.sel d.lo d.hi) _ _ (fun σ=>z3O σ true d.ds d.hd) (fun σ=>z3O σ true d.es d.he)
  (fun n=>z4f n _) (fun n=>z4f n _) (fun σ=>z7A σ _ _ _)
def subsL:List ByteArray→List (List ByteArray)
 |[]=>[[]]
 |x::xs=>subsL xs++(subsL xs).map fun l=>x::l
theorem z6k:∀{l r:List ByteArray},l.Sublist r→l∈subsL r
 |_,_,.slnil=>by simp[subsL]
 |l,x::r,.cons _ h=>List.mem_append_left _ (z6k h)
 |x::l,_::r,.cons_cons _ h=>List.mem_append_right _ (List.mem_map.2 ⟨l,z6k h,rfl⟩)
theorem z7I (ns:List Int):∀(r e:List ByteArray),∃l,eqGo ns r e=e++l∧l.Sublist r
 |[],e=>⟨[],by simp[eqGo],.slnil⟩
 |s::r,e=>by
  rw[eqGo];split
  · cases hasN (ns.take 9) s with
    |true =>
     obtain⟨l,h1,h2⟩:=z7I ns r (e++[s]);exact⟨s::l,by rw[if_pos rfl,h1];simp,.cons_cons _ h2⟩
    |false =>
     obtain⟨l,h1,h2⟩:=z7I ns r e;exact⟨l,by rw[if_neg Bool.false_ne_true,h1],.cons _ h2⟩
  · exact⟨[],by simp,List.nil_sublist _⟩
theorem zaP (ns:List Int):∀(r e:List ByteArray),e.length≤4→(eqGo ns r e).length≤4
 |[],e,h=>by simpa[eqGo] using h
 |s::r,e,h=>by
  rw[eqGo];split
  · refine zaP ns r _ ?_;split
    · simp;omega
    · omega
  · exact h
theorem subs_ok:∀l∈subsL nm5,l.length≤4→eqB l=true:=by decide +kernel
theorem z9T (ns:List Int):(z4h ns).Sublist nm5:=by
 obtain⟨l,h1,h2⟩:=z7I ns nm5 [];unfold z4h;rw[h1];exact h2
theorem z9U (ns:List Int):(z4h ns).length≤4:=zaP ns nm5 [] (by simp)
theorem zh3 {e:List ByteArray} (ns:List Int) (h:e.Sublist (z4h ns)):eqB e=true :=
 subs_ok e (z6k (h.trans (z9T ns))) (by have:=h.length_le;have:=z9U ns;omega)
theorem zf8:mtrR []=none:=rfl
theorem z8S (c:UInt8) (u:Byt):mtrR (c::u)=(textR 12 u).bind fun p=>(textR 40 p.2).map fun q=>(mkM (c,p.1,q.1),q.2):=by
 simp only[mtrR,z0Y,seqR,byteR,Option.bind_some]
 cases textR 12 u with
 |none=>rfl
 |some p =>
  simp only[Option.bind_some]
  cases textR 40 p.2 with
  |none=>rfl
  |some q=>rfl
theorem z6l {α:Type} (r:Rd α) (n:Nat) (b:Byt):manyR r (n+1) b=(r b).bind fun p=>(manyR r n p.2).map fun q=>(p.1::q.1,q.2):=rfl
theorem z4Y (σ:St) (b:Byt) (hb:b.length≤50000):Ans Tryz.prog 63 [.sl 1 (byv b)] σ (readV (listR b) b (fun M=>.sl 3 (mvs3 M)) .nils) σ:=by
 refine Ans.of_run' t63 (fun hbel _=>?_)
 simp -implicitDefEqProofs only[c63,r63,go_sem];refine CO.intro (z1I σ b (by omega)) ?_
 cases hg:getN 0 b with
 |none =>
  have hR:listR b=none:=by simp only[listR,onlyR,rowR,numR,hg,Option.bind_none]
  rw[z13 hg,hR];simp -implicitDefEqProofs only[go_sem];exact Fini.ret rfl
 |some p =>
  obtain⟨n,t⟩:=p;rw[z1a hg];have e1:decide ((5:Int)<n)=decide (5<n):=decNN 5 n;by_cases h5:5<n
  · have hR:listR b=none:=by simp only[listR,onlyR,rowR,numR,hg,Option.bind_some,show ¬n≤5 by omega,if_false,Option.bind_none]
    rw[hR];simp -implicitDefEqProofs only[go_sem,e1,decide_eq_true h5];exact Fini.ret rfl
  · have hN:numR 5 b=some (n,t):=by simp only[numR,hg,Option.bind_some,show n≤5 by omega,if_true]
    have hR:listR b=(manyR mtrR n t).bind fun x=>if listB x.1 then some x else none:=by simp only[listR,onlyR,rowR,hN,Option.bind_some]
    obtain⟨hd0,_,hl0⟩:=(ends_num 5).drop (b:=b) (a:=0) (Nat.zero_le _) hN;have hwn:=wrapI (a:=n) (by omega)
    simp -implicitDefEqProofs only[go_sem,e1,decide_eq_false h5]
    refine Go.Ab.L.intro (α:={ p:Nat×List Mtr×Nat // p.1≤n∧p.2.1.length=p.1∧p.2.2≤b.length∧(∀x∈p.2.1,x.2.1.size≤100000)∧manyR mtrR n t=(manyR mtrR (n-p.1) (b.drop p.2.2)).map fun r=>(p.2.1++r.1,r.2) }) (fun p=>n-p.1.1)
     (fun p=>mkE 84 [(0,.sl 1 (byv b)),(5,UN n),(6,I p.1.2.2),(8,.osl σ.length p.1.1),(9,I p.1.1)]) (fun p=>σ++[.row 3 (mvs3 p.1.2.1)]) ?_ ⟨(0,[],b.length-t.length),Nat.zero_le _,rfl,Nat.sub_le _ _,by simp,by rw[hd0];cases manyR mtrR n t<;>simp⟩ rfl rfl
    rintro⟨⟨i,l,at_⟩,hi,hll,hat,hsz,hm⟩ J hJ;simp only at hi hll hat hsz hm hJ;have hlm:(mvs3 l).length=i:=by rw[z0n,hll]
    have hbm:∀k,Bel k (.sl 3 (mvs3 l)):=fun k=>z09 _ _
    -- a way out: nothing was read
    by_cases hlt:i<n
    · obtain⟨m,hmm⟩:∃m,n-i=m+1:=⟨n-i-1,by omega⟩
      rw[hmm,z6l]at hm;have d0:decide ((i:Int)<n)=true:=dec_lt hlt;by_cases hend:at_<b.length
      · have hx:=z4U b at_ hend;have hdr:b.drop at_=b[at_]::b.drop (at_+1):=List.drop_eq_getElem_cons hend;have d1:decide ((b.length:Int)≤at_)=false:=by simp;omega
        have w1:=wrap_succ (i:=at_) (by omega)
        have hcl:=(b[at_]).toNat_lt;rw[hdr]at hm;generalize b[at_]=c at hx hm hcl;have wc:IntKind.i64.wrap (c.toNat:Int)=(c.toNat:Int):=wrapI (by omega)
        have hle1:(((at_+1:Nat):Int))≤(b.length:Nat):=by omega
        simp -implicitDefEqProofs only[mkE,go_sem,hwn,d0,z03,d1,z0f hend,hx,bc,wc,w1,hle1,z0O,z0P,List.take_length,Int.le_refl];refine CO.intro (z1m _ (b.drop (at_+1)) 12 (by rw[List.length_drop];omega) (by decide)) ?_
        cases ht1:textR 12 (b.drop (at_+1)) with
        |none =>
         rw[z8S,ht1]at hm;simp only[Option.bind_none,Option.map_none]at hm;rw[hm]at hR;simp only[Option.bind_none]at hR;rw[z0R ht1,hR];simp -implicitDefEqProofs only[go_sem];exact Fini.trim2 (σ':=σ) rfl rfl (Nat.le_refl _) (by unfold readV;exact z0b .nils) hbel
        |some x1 =>
         obtain⟨nm,u2⟩:=x1;obtain⟨q1,q2,q3⟩:=(z0T 12).drop (b:=b) (a:=at_+1) (by omega) ht1
         have hs1:=((z1B (most:=12) (by decide)).bwd _ _ _ ht1).1
         have a1:=addN (a:=at_+1) (b:=(b.drop (at_+1)).length-u2.length) (by rw[List.length_drop];omega)
         have e2:at_+1+((b.drop (at_+1)).length-u2.length)=b.length-u2.length:=by rw[List.length_drop];omega
         rw[e2]at a1;have hle2:(((b.length-u2.length:Nat):Int))≤(b.length:Nat):=by omega
         rw[z1t ht1];simp -implicitDefEqProofs only[go_sem,a1,z03,hle2,z0O,z0P,List.take_length,Int.le_refl,q1];refine CO.intro (z1m _ u2 40 (by omega) (by decide)) ?_
         rw[z8S,ht1]at hm;simp only[Option.bind_some]at hm
         cases ht2:textR 40 u2 with
         |none =>
          rw[ht2]at hm;simp only[Option.bind_none,Option.map_none]at hm;rw[hm]at hR;simp only[Option.bind_none]at hR;rw[z0R ht2,hR];simp -implicitDefEqProofs only[go_sem];exact Fini.trim2 (σ':=σ) rfl rfl (Nat.le_refl _) (by unfold readV;exact z0b .nils) hbel
         |some x2 =>
          obtain⟨v,u3⟩:=x2;have ht2':textR 40 (b.drop (b.length-u2.length))=some (v,u3):=by rw[q1];exact ht2
          obtain⟨z1,z2,z3⟩:=(z0T 40).drop (b:=b) (a:=b.length-u2.length) (by omega) ht2'
          have a2:=addN (a:=b.length-u2.length) (b:=u2.length-u3.length) (by omega)
          have e3:b.length-u2.length+(u2.length-u3.length)=b.length-u3.length:=by omega
          rw[e3]at a2;rw[ht2]at hm;simp only[Option.bind_some,Option.map_some]at hm;have hin:=wrap_succ (i:=i) (by omega)
          have hle:i+1≤4294967296:=by omega
          have hgo:=hJ ⟨(i+1,l++[mkM (c,nm,v)],b.length-u3.length),by simp only;omega,by simp[hll],by simp only;omega,(by
           intro y hy;simp only[List.mem_append,List.mem_singleton]at hy;rcases hy with hy|rfl
           · exact hsz y hy
           · simp only[mkM];omega),(by
           simp only;rw[hm,z1,show n-(i+1)=m by omega]
           cases manyR mtrR m u3<;>simp)⟩ (by simp only;omega)
          have hsn:=z8F l (mkM (c,nm,v));rw[z1t ht2];simp -implicitDefEqProofs only[go_sem,a2,g0,s0,hlm,List.length_singleton,hle,hin];simp only[←hsn]at hgo;exact hgo
      · have hnil:b.drop at_=[]:=List.drop_eq_nil_of_le (by omega)
        have d1:decide ((b.length:Int)≤at_)=true:=by simp;omega
        rw[hnil,zf8]at hm;simp only[Option.bind_none,Option.map_none]at hm;rw[hm]at hR;simp only[Option.bind_none]at hR;rw[hR];simp -implicitDefEqProofs only[mkE,go_sem,hwn,d0,z03,d1];exact Fini.trim2 (σ':=σ) rfl rfl (Nat.le_refl _) (by unfold readV;exact z0b .nils) hbel
    · have hie:i=n:=by omega
      subst hie;have d0:decide ((i:Int)<i)=false:=by simp
      rw[Nat.sub_self]at hm;simp only[manyR,Option.map_some,List.append_nil]at hm;rw[hm]at hR;simp only[Option.bind_some]at hR;simp -implicitDefEqProofs only[mkE,go_sem,hwn,d0,g0,s0,hlm];refine CO.intro (z1o _ l hsz) ?_
      cases hlb:listB l with
      |false =>
       rw[hlb]at hR;simp only[Bool.false_eq_true,if_false]at hR;rw[hR];simp -implicitDefEqProofs only[go_sem];exact Fini.trim2 (σ':=σ) rfl rfl (Nat.le_refl _) (by unfold readV;exact z0b .nils) hbel
      |true =>
       rw[hlb]at hR;simp only[if_true]at hR;have hlen:b.length-(b.drop at_).length=at_:=by rw[List.length_drop];omega
       rw[hR];unfold readV;simp only[hlen];simp -implicitDefEqProofs only[go_sem];exact Fini.trim2 (σ':=σ) rfl rfl (Nat.le_refl _) (z0b (hbm _)) hbel
theorem z8T (σ:St) (b:Byt) (hb:b.length≤50000):Ans Tryz.prog 63 [.sl 1 (byv b)] σ (readV (listR b) b (fun M=>.sl 3 (mvs3 M)) (.sl 3 [])) σ:=by
 refine(z4Y σ b hb).subR ?_;unfold readV
 cases listR b with
 |none=>exact .tup (.cons (.nils 3) (.refl _))
 |some p=>exact .refl _
end Go.Proofs.YtmkmhhjkdaklbaaGreat
namespace Go.Proofs.YtmkmhhjkdaklbaaGreat
open Go Go.Ab Go.Cod Go.ChangeShapes Go.WideShapes Go.ChangeAt Go.RowKit
set_option maxRecDepth 100000
def eqMt (x y:Mtr):Bool:=x.1==y.1&&(x.2.1.toList==y.2.1.toList&&(x.2.2.toList==y.2.2.toList&&true))
def sameM (A B:List Mtr):Bool:=decide (A.length=B.length)&&(List.range A.length).all fun i=>eqMt (A.getD i noM3) (B.getD i noM3)
theorem zdl (x:Mtr):eqMt x x=true:=by simp[eqMt]
theorem z75 (A:List Mtr):sameM A A=true:=by simp[sameM,zdl]
theorem z6m (σ:St) (A B:List Mtr) (hA:A.length≤1000):Ans Tryz.prog 77 [.sl 3 (mvs3 A),.sl 3 (mvs3 B)] σ (Bo (sameM A B)) σ:=by
 refine Ans.of_run t77 ?_
 have e0:((A.length:Int) != B.length)= !decide (A.length=B.length):=by
  rw[Bool.eq_iff_iff];simp only[bne_iff_ne,Bool.not_eq_true',decide_eq_false_iff_not];omega
 unfold sameM;by_cases hl:A.length=B.length
 · rw[decide_eq_true hl,Bool.true_and];rw[decide_eq_true hl]at e0;simp -implicitDefEqProofs only[c77,r77,go_sem,z0n,e0];refine Go.Ab.L.scan A.length (fun i=>eqMt (A.getD i noM3) (B.getD i noM3)) (fun i=>mkE 26 [(0,.sl 3 (mvs3 A)),(1,.sl 3 (mvs3 B)),(5,I i)]) (fun _=>σ) ?_ ?_ rfl rfl
   · intro i hi hp J hJ;have hx:=z6X A i hi;have hy:=z6X B i (by omega)
     have hlB:((i:Int)<B.length)=True:=by simp;omega
     have hF:eqMt (A.getD i noM3) (B.getD i noM3)=false→((List.range A.length).all fun i=>eqMt (A.getD i noM3) (B.getD i noM3))=false:=fun h=>List.all_eq_false.2 ⟨i,List.mem_range.2 hi,by rw[h];decide⟩
     have hin:=wrap_succ (i:=i) (by omega)
     generalize A.getD i noM3=x at hx hJ hF;generalize B.getD i noM3=y at hy hJ hF;simp -implicitDefEqProofs only[mkE,go_sem,z0n,z0f hi,dec_lt hi,hlB,hx,hy,mv3,Bool.true_xor]
     cases hb:eqMt x y with
     |true =>
      have hgo:=hJ hb;have hb':(x.1==y.1&&(x.2.1.toList==y.2.1.toList&&(x.2.2.toList==y.2.2.toList&&true)))=true:=hb;simp only[Bool.and_true]at hb';simp -implicitDefEqProofs only[go_sem,hb',hin];exact hgo
     |false =>
      have hb':(x.1==y.1&&(x.2.1.toList==y.2.1.toList&&(x.2.2.toList==y.2.2.toList&&true)))=false:=hb;simp only[Bool.and_true]at hb';rw[hF hb];simp -implicitDefEqProofs only[go_sem,hb'];exact Fini.ret rfl
   · intro hp J;have hd:decide ((A.length:Int)<A.length)=false:=by simp
     simp -implicitDefEqProofs only[mkE,go_sem,z0n,hd];refine Fini.ret' rfl (z0U ?_);exact(List.all_eq_true.2 fun i hi=>hp i (List.mem_range.1 hi)).symm
 · rw[decide_eq_false hl,Bool.false_and];rw[decide_eq_false hl]at e0;simp -implicitDefEqProofs only[c77,r77,go_sem,z0n,e0];exact Fini.ret rfl
theorem wf8 {n:Int} (h:(Lit.int .u8 n).wf=true):0≤n∧n<256:=by
 simp[Lit.wf,IntKind.min,IntKind.max,IntKind.bits,IntKind.signed]at h;omega
theorem zdm:∀{ys:List (List AV)},(∀y∈ys,QInt .u8 y)→∃b:Byt,ys.map (wrapC false)=byv b
 |[],_=>⟨[],rfl⟩
 |y::ys,h=>by
  obtain⟨m,hm,rfl⟩:=h y List.mem_cons_self;obtain⟨b,hb⟩:=zdm (ys:=ys) (fun z hz=>h z (List.mem_cons_of_mem _ hz))
  obtain⟨h0,h1⟩:=wf8 hm;obtain⟨n,rfl⟩:=Int.eq_ofNat_of_zero_le h0;refine⟨n.toUInt8::b,?_⟩;rw[List.map_cons,hb,z7t,←bc_of (show n<256 by omega)]
  rfl
end Go.Proofs.YtmkmhhjkdaklbaaGreat
namespace Go.Proofs.YtmkmhhjkdaklbaaGreat
open Go Go.Ab Go.Cod
set_option maxRecDepth 100000
theorem zf9:∀n∈names,nameB n=true:=by decide +kernel
theorem zh4:∀p∈pats,(z2G p).2=true:=by decide +kernel
theorem zfa:∀p∈vals8,p.size≤24:=by decide +kernel
theorem zh5 {x:Mz} (h:MOK x):isB x.1 x.2.1 x.2.2=true:=by
 unfold isB;rw[zf9 _ h.nm,Bool.true_and];have h1:=h.lo;have h4:=h.hi;by_cases h3:x.1<3
 · have hl:likeB x.1=false:=by unfold likeB;rw[Bool.or_eq_false_iff];exact⟨by simp;omega,by simp;omega⟩
   rw[hl];simp only[Bool.false_eq_true,if_false,Bool.and_eq_true,Bool.or_eq_true,beq_iff_eq,decide_eq_true_eq];exact⟨by omega,zfa _ (h.low h3)⟩
 · have hl:likeB x.1=true:=by unfold likeB;rw[Bool.or_eq_true];simp only[beq_iff_eq];omega
   rw[hl];simp only[if_true];exact zh4 _ (h.high h3)
theorem zh6 (x y:Mz):z3l x y=z3L x y:=by
 unfold z3l z3L;have:(x.1 != y.1)= !(x.1==y.1):=rfl;rw[this]
theorem zfb {M:List Mz} (h5:M.length≤5) (ho:∀y∈M,MOK y) (ha:Adj M):listB M=true:=by
 unfold listB;rw[decide_eq_true h5,Bool.true_and];refine List.all_eq_true.2 fun i hi=>?_
 have hi:=List.mem_range.1 hi;have e:M.getD i noM3=M[i]:=by rw[List.getD_eq_getElem?_getD,List.getElem?_eq_getElem hi];rfl
 unfold okL isM;rw[e,zh5 (ho _ (List.getElem_mem hi)),Bool.true_and]
 cases i with
 |zero=>rfl
 |succ i =>
  have e2:M.getD (i+1-1) noM3=M[i]:=by rw[List.getD_eq_getElem?_getD,Nat.add_sub_cancel,List.getElem?_eq_getElem (by omega)];rfl
  rw[e2];have:=ha i M[i] M[i+1] (by simp) (by simp[hi])
  rw[zh6]at this;rw[this];simp
theorem z76 (ds:List (Int×Int×Int)):listB (z0w ds [])=true:=by
 obtain⟨h1,h2,h3⟩:=zd6 ds;exact zfb h1 h2 h3
end Go.Proofs.YtmkmhhjkdaklbaaGreat
namespace Go.Proofs.YtmkmhhjkdaklbaaGreat
open Go Go.Ab Go.Cod Ieee
set_option maxRecDepth 100000
theorem zid (p q:Int) (h:(some (compare q p)==some Ordering.lt)=false):(some (compare p q)==some Ordering.lt||some (compare p q)==some Ordering.eq)=true:=by
 simp only[compare,compareOfLessAndEq]at h⊢;by_cases h1:q<p
 · rw[if_pos h1]at h;exact absurd h (by decide)
 · by_cases h2:p<q
   · rw[if_pos h2];rfl
   · have:p=q:=by omega
     rw[if_neg h2,if_pos this];rfl
theorem zh7 (a b:Nat) (h1:nanF a=false) (h2:nanF b=false) (h3:ltF b a=false):leF a b=true:=by
 unfold nanF at h1 h2;unfold ltF at h3;unfold leF;unfold Format.order at *;generalize FloatKind.f64.format.read a=x at *;generalize FloatKind.f64.format.read b=y at *
 cases x with
 |nan s m=>simp[Datum.order]at h1
 |infinity s =>
  cases y with
  |nan t n=>simp[Datum.order]at h2
  |infinity t=>revert h3;cases s<;>cases t<;>decide
  |number t n j =>
   revert h3;cases s<;>simp[Datum.order]
 |number s m i =>
  cases y with
  |nan t n=>simp[Datum.order]at h2
  |infinity t =>
   revert h3;cases t<;>simp[Datum.order]
  |number t n j =>
   simp only[Datum.order]at h3⊢;rw[show min j i=min i j from Int.min_comm j i]at h3
   exact zid _ _ h3
theorem z1r:bitsF 0=0:=by decide +kernel
theorem zaQ (sel:Int) (lo hi:Nat):mayB (z0H sel lo hi).1 (z0H sel lo hi).2.1 (z0H sel lo hi).2.2=true:=by
 unfold z0H;split
 · simp only[mayB,z1r];rfl
 · rename_i h
   have hn:nanF lo=false∧nanF hi=false:=by
    cases h1:nanF lo<;>cases h2:nanF hi<;>simp_all
   split
   · rename_i h3
     have:leF hi lo=true:=by
      unfold ltF at h3;unfold leF;rw[h3];rfl
     simpa[mayB] using this
   · rename_i h3;have:leF lo hi=true:=zh7 lo hi hn.1 hn.2 (by simpa using h3)
     simpa[mayB] using this
theorem zfc:∀n∈names,n.size≤100000:=by decide +kernel
theorem z6n (ds:List (Int×Int×Int)):listB (mustL true (z0w ds []))=true∧((((mustL true (z0w ds [])).length:Nat):Int)==0)=false∧∀x∈mustL true (z0w ds []),x.2.1.size≤100000:=by
 have hd:listB [(1,⟨#[115,101,118]⟩,⟨#[97]⟩)]=true:=by decide +kernel
 cases hm:z0w ds [] with
 |nil =>
  refine⟨hd,by decide,fun x hx=>?_⟩
  have:x=(1,⟨#[115,101,118]⟩,⟨#[97]⟩):=by simpa[mustL] using hx
  subst this
  decide
 |cons y l =>
  have h:=z76 ds;obtain⟨_,h2,_⟩:=zd6 ds;rw[hm]at h h2;refine⟨h,by simp[mustL];omega,fun x hx=>?_⟩
  have hx':x∈y::l:=by simpa[mustL] using hx
  exact zfc _ (h2 x hx').nm
theorem zfd (d:RuD):ruIs (z38 d)=true:=by
 have h1:=z6n d.ds;have h2:=z6n d.es;have h3:=zaQ d.sel d.lo d.hi;have h4:=zh3 d.ns (List.Sublist.refl _);unfold ruIs z38;simp only;rw[h1.1,h1.2.1,h2.1,h2.2.1,h3,h4];rfl
end Go.Proofs.YtmkmhhjkdaklbaaGreat
