/- Label sets by the document: whether any labels are one, and read out of bytes. No condition. -/
import Derived.Test.YtmkmhhjkdaklbaaGreatXRu8u
import Derived.Test.YtmkmhhjkdaklbaaGreatRd1u
import Derived.Test.YtmkmhhjkdaklbaaGreatXRu4u
import Derived.Test.YtmkmhhjkdaklbaaGreatXLs2u
import Derived.Test.YtmkmhhjkdaklbaaGreatRq2au
import Derived.Test.YtmkmhhjkdaklbaaGreatRq5du
set_option linter.unusedSimpArgs false
set_option linter.unusedVariables false
set_option linter.unusedSectionVars false
namespace Go.Proofs.YtmkmhhjkdaklbaaGreat
open Go Go.Ab Go.Cod
set_option maxRecDepth 100000
theorem zhm (b:Byt):labR b=(textR 12 b).bind fun p=>(textR 24 p.2).map fun q=>((p.1,q.1),q.2):=rfl
section
variable (σ:St)
theorem zfr (v:ByteArray):Ans Tryz.prog 156 [Sx v] σ (Bo (valB v)) σ:=by
 have d1:decide ((1:Int)≤(v.size:Nat))=decide (1≤v.size):=intle 1 v.size;have d2:decide (((v.size:Nat):Int)≤24)=decide (v.size≤24):=intle v.size 24;refine Ans.of_run t156 ?_;unfold valB
 cases h:decide (1≤v.size) with
 |false =>
  simp -implicitDefEqProofs only[c156,r156,go_sem,d1,h];exact Fini.ret rfl
 |true =>
  simp -implicitDefEqProofs only[c156,r156,go_sem,d1,d2,h];exact Fini.ret rfl
theorem z2l (L:List Lab) (hs:∀x∈L,x.1.size≤100000):Ans Tryz.prog 130 [.sl 2 (lvs L)] σ (Bo (setB L)) σ:=by
 have e1:decide ((L.length:Int)<1)= !decide (1≤L.length):=by
  by_cases h:1≤L.length
  · rw[decide_eq_true h,decide_eq_false (by omega)];rfl
  · rw[decide_eq_false h,decide_eq_true (by omega)];rfl
 have e2:decide ((6:Int)<L.length)= !decide (L.length≤6):=by
  by_cases h:L.length≤6
  · rw[decide_eq_true h,decide_eq_false (by omega)];rfl
  · rw[decide_eq_false h,decide_eq_true (by omega)];rfl
 refine Ans.of_run t130 ?_;unfold setB
 cases h1:decide (1≤L.length) with
 |false =>
  simp -implicitDefEqProofs only[c130,r130,go_sem,z0k,e1,h1];exact Fini.ret rfl
 |true =>
 cases h2:decide (L.length≤6) with
 |false =>
  simp -implicitDefEqProofs only[c130,r130,go_sem,z0k,e1,e2,h1,h2];exact Fini.ret rfl
 |true =>
 have hl6:L.length≤6:=of_decide_eq_true h2;simp -implicitDefEqProofs only[c130,r130,go_sem,z0k,e1,e2,h1,h2];refine Go.Ab.L.scan L.length (labOk L) (fun i=>mkE 52 [(0,.sl 2 (lvs L)),(3,I i)]) (fun _=>σ) ?_ ?_ rfl rfl
 · intro i hi hp J hJ;have hx:=lvs_D L i hi;have hF:labOk L i=false→(List.range L.length).all (labOk L)=false:=fun h=>List.all_eq_false.2 ⟨i,List.mem_range.2 hi,by rw[h];decide⟩
   have hin:=wrap_succ (i:=i) (by omega)
   have d0:decide ((0:Int)<i)=decide (0<i):=by rw[Bool.eq_iff_iff];simp
   have hO:labOk L i=(nameB (L.getD i noLb).1&&(valB (L.getD i noLb).2&& !(decide (0<i)&&leS (L.getD i noLb).1 (L.getD (i-1) noLb).1))):=rfl
   have hsz:(L.getD i noLb).1.size≤100000:=by
    rw[List.getD_eq_getElem?_getD,List.getElem?_eq_getElem hi];exact hs _ (List.getElem_mem hi)
   rw[hO]at hJ hF;generalize L.getD i noLb=x at hJ hF hx hsz;obtain⟨nm,v⟩:=x;simp only at hJ hF hx hsz;have n1:=fun s=>z63 s nm hsz
   have n2:=fun s=>zfr s v
   simp -implicitDefEqProofs only[mkE,go_sem,z00,z0k,z0f hi,dec_lt hi,hx]
   first|refine CD.intro (n1 _) ?_|refine CS.intro n1 ?_
   cases hb1:nameB nm with
   |false =>
    rw[hb1]at hF;rw[hF rfl];simp -implicitDefEqProofs only[go_sem,z00];exact Fini.ret rfl
   |true =>
    rw[hb1]at hF hJ;simp -implicitDefEqProofs only[go_sem,z00,z0k,z0f hi,hx]
    first|refine CD.intro (n2 _) ?_|refine CS.intro n2 ?_
    cases hb2:valB v with
    |false =>
     rw[hb2]at hF;rw[hF rfl];simp -implicitDefEqProofs only[go_sem,z00];exact Fini.ret rfl
    |true =>
     rw[hb2]at hF hJ;by_cases hz:i=0
     · subst hz;have hgo:=hJ rfl;simp -implicitDefEqProofs only[go_sem,z00,d0,hin];exact hgo
     · have hpos:decide (0<i)=true:=decide_eq_true (by omega)
       have hx1:=lvs_D L (i-1) (by omega)
       have w1:IntKind.i64.wrap ((i:Int)-1)=((i-1:Nat):Int):=by rw[wrapN (by omega) (by omega)];omega
       have hlt1:(((i-1:Nat):Int)<L.length)=True:=by simp;omega
       rw[hpos]at hJ hF;generalize L.getD (i-1) noLb=x1 at hJ hF hx1;obtain⟨nm1,v1⟩:=x1;simp only at hJ hF hx1;have hle:(Op.bytesLess nm.toList nm1.toList||nm.toList==nm1.toList)=leS nm nm1:=rfl;simp -implicitDefEqProofs only[go_sem,z00,d0,hpos,w1,z0k,z0f hi,hx,hlt1,hx1,hle]
       cases h7:leS nm nm1 with
       |true =>
        rw[h7]at hF;rw[hF rfl];simp -implicitDefEqProofs only[go_sem];exact Fini.ret rfl
       |false =>
        rw[h7]at hJ;have hgo:=hJ rfl;simp -implicitDefEqProofs only[go_sem,hin];exact hgo
 · intro hp J;have hd:decide ((L.length:Int)<L.length)=false:=by simp
   simp -implicitDefEqProofs only[mkE,go_sem,z0k,hd];refine Fini.ret' rfl (z0U ?_);exact(List.all_eq_true.2 fun i hi=>hp i (List.mem_range.1 hi)).symm
end
theorem z6r (σ:St) (b:Byt) (hb:b.length≤50000):Ans Tryz.prog 141 [.sl 1 (byv b)] σ (readV (setR b) b lsV .nils) σ:=by
 refine Ans.of_run' t141 (fun hbel _=>?_)
 simp -implicitDefEqProofs only[c141,r141,go_sem];refine CO.intro (z1I σ b (by omega)) ?_
 cases hg:getN 0 b with
 |none =>
  have hR:setR b=none:=by simp only[setR,onlyR,rowR,numR,hg,Option.bind_none]
  rw[z13 hg,hR];simp -implicitDefEqProofs only[go_sem];exact Fini.ret rfl
 |some p =>
  obtain⟨n,t⟩:=p;rw[z1a hg];have e1:decide ((6:Int)<n)=decide (6<n):=decNN 6 n;by_cases h5:6<n
  · have hR:setR b=none:=by simp only[setR,onlyR,rowR,numR,hg,Option.bind_some,show ¬n≤6 by omega,if_false,Option.bind_none]
    rw[hR];simp -implicitDefEqProofs only[go_sem,e1,decide_eq_true h5];exact Fini.ret rfl
  · have hN:numR 6 b=some (n,t):=by simp only[numR,hg,Option.bind_some,show n≤6 by omega,if_true]
    have hR:setR b=(manyR labR n t).bind fun x=>if setB x.1 then some x else none:=by simp only[setR,onlyR,rowR,hN,Option.bind_some]
    obtain⟨hd0,_,hl0⟩:=(ends_num 6).drop (b:=b) (a:=0) (Nat.zero_le _) hN;have hwn:=wrapI (a:=n) (by omega)
    simp -implicitDefEqProofs only[go_sem,e1,decide_eq_false h5]
    refine Go.Ab.L.intro (α:={ p:Nat×List Lab×Nat // p.1≤n∧p.2.1.length=p.1∧p.2.2≤b.length∧(∀x∈p.2.1,x.1.size≤100000)∧manyR labR n t=(manyR labR (n-p.1) (b.drop p.2.2)).map fun r=>(p.2.1++r.1,r.2) }) (fun p=>n-p.1.1)
     (fun p=>mkE 71 [(0,.sl 1 (byv b)),(5,UN n),(6,I p.1.2.2),(8,.osl σ.length p.1.1),(9,I p.1.1)]) (fun p=>σ++[.row 2 (lvs p.1.2.1)]) ?_ ⟨(0,[],b.length-t.length),Nat.zero_le _,rfl,Nat.sub_le _ _,by simp,by rw[hd0];cases manyR labR n t<;>simp⟩ rfl rfl
    rintro⟨⟨i,l,at_⟩,hi,hll,hat,hsz,hm⟩ J hJ;simp only at hi hll hat hsz hm hJ;have hlm:(lvs l).length=i:=by rw[z0k,hll]
    have hbm:∀k,Bel k (.sl 2 (lvs l)):=fun k=>z0g _ _
    by_cases hlt:i<n
    · obtain⟨m,hmm⟩:∃m,n-i=m+1:=⟨n-i-1,by omega⟩
      rw[hmm,z6l,zhm]at hm;have d0:decide ((i:Int)<n)=true:=dec_lt hlt;have leA:(((at_:Nat):Int)≤(b.length:Nat))=True:=eq_true (by omega)
      simp -implicitDefEqProofs only[mkE,go_sem,hwn,d0,z03,leA,z0O,z0P,List.take_length,Int.le_refl];refine CO.intro (z1m _ (b.drop at_) 12 (by rw[List.length_drop];omega) (by decide)) ?_
      cases ht1:textR 12 (b.drop at_) with
      |none =>
       rw[ht1]at hm;simp only[Option.bind_none,Option.map_none]at hm;rw[hm]at hR;simp only[Option.bind_none]at hR;rw[z0R ht1,hR];simp -implicitDefEqProofs only[go_sem];exact Fini.trim2 (σ':=σ) rfl rfl (Nat.le_refl _) (by unfold readV;exact z0b .nils) hbel
      |some x1 =>
       obtain⟨nm,u2⟩:=x1;obtain⟨q1,q2,q3⟩:=(z0T 12).drop (b:=b) (a:=at_) hat ht1;have hs1:=((z1B (most:=12) (by decide)).bwd _ _ _ ht1).1
       have a1:=addN (a:=at_) (b:=(b.drop at_).length-u2.length) (by rw[List.length_drop];omega)
       have e2:at_+((b.drop at_).length-u2.length)=b.length-u2.length:=by rw[List.length_drop];omega
       rw[e2]at a1;have hle2:(((b.length-u2.length:Nat):Int)≤(b.length:Nat))=True:=eq_true (by omega)
       rw[z1t ht1];simp -implicitDefEqProofs only[go_sem,a1,z03,hle2,z0O,z0P,List.take_length,Int.le_refl,q1];refine CO.intro (z1m _ u2 24 (by omega) (by decide)) ?_
       rw[ht1]at hm;simp only[Option.bind_some]at hm
       cases ht2:textR 24 u2 with
       |none =>
        rw[ht2]at hm;simp only[Option.bind_none,Option.map_none]at hm;rw[hm]at hR;simp only[Option.bind_none]at hR;rw[z0R ht2,hR];simp -implicitDefEqProofs only[go_sem];exact Fini.trim2 (σ':=σ) rfl rfl (Nat.le_refl _) (by unfold readV;exact z0b .nils) hbel
       |some x2 =>
        obtain⟨v,u3⟩:=x2;have ht2':textR 24 (b.drop (b.length-u2.length))=some (v,u3):=by rw[q1];exact ht2
        obtain⟨z1,z2,z3⟩:=(z0T 24).drop (b:=b) (a:=b.length-u2.length) (by omega) ht2'
        have a2:=addN (a:=b.length-u2.length) (b:=u2.length-u3.length) (by omega)
        have e3:b.length-u2.length+(u2.length-u3.length)=b.length-u3.length:=by omega
        rw[e3]at a2;rw[ht2]at hm;simp only[Option.bind_some,Option.map_some]at hm;have hin:=wrap_succ (i:=i) (by omega)
        have hle:i+1≤4294967296:=by omega
        have hgo:=hJ ⟨(i+1,l++[(nm,v)],b.length-u3.length),by simp only;omega,by simp[hll],by simp only;omega,(by
         intro y hy;simp only[List.mem_append,List.mem_singleton]at hy;rcases hy with hy|rfl
         · exact hsz y hy
         · simp only;omega),(by
         simp only;rw[hm,z1,show n-(i+1)=m by omega]
         cases manyR labR m u3<;>simp)⟩ (by simp only;omega)
        have hsn:=z8Q l (nm,v);rw[z1t ht2];simp -implicitDefEqProofs only[go_sem,a2,g0,s0,hlm,List.length_singleton,hle,hin];simp only[←hsn]at hgo;exact hgo
    · have hie:i=n:=by omega
      subst hie;have d0:decide ((i:Int)<i)=false:=by simp
      rw[Nat.sub_self]at hm;simp only[manyR,Option.map_some,List.append_nil]at hm;rw[hm]at hR;simp only[Option.bind_some]at hR;simp -implicitDefEqProofs only[mkE,go_sem,hwn,d0,g0,s0,hlm];refine CO.intro (z2l _ l hsz) ?_
      cases hlb:setB l with
      |false =>
       rw[hlb]at hR;simp only[Bool.false_eq_true,if_false]at hR;rw[hR];simp -implicitDefEqProofs only[go_sem];exact Fini.trim2 (σ':=σ) rfl rfl (Nat.le_refl _) (by unfold readV;exact z0b .nils) hbel
      |true =>
       rw[hlb]at hR;simp only[if_true]at hR;have hlen:b.length-(b.drop at_).length=at_:=by rw[List.length_drop];omega
       rw[hR];unfold readV;simp only[hlen];simp -implicitDefEqProofs only[go_sem];exact Fini.trim2 (σ':=σ) rfl rfl (Nat.le_refl _) (z0b (hbm _)) hbel
def preS (L:List Lab) (i:Nat):Byt:=putN L.length++z1d putLb (L.take i)
theorem z91 (L:List Lab) (i:Nat) (h:i<L.length):preS L (i+1)=preS L i++(txtB L[i].1++txtB L[i].2):=by
 unfold preS z1d;rw[List.take_succ_eq_append_getElem h,List.flatMap_append,List.append_assoc];simp[putLb]
theorem zaU (L:List Lab):preS L L.length=z40 L:=by unfold preS z40 z2K;rw[List.take_length]
theorem z92 (L:List Lab):preS L 0=putN L.length:=by unfold preS z1d;simp
theorem z7N {L:List Lab} (h:setB L=true):∀i,i≤L.length→(preS L i).length≤10+60*i
 |0,_=>by rw[z92];have:=z0I (n:=L.length) (by have:=(z4i h).1;omega);omega
 |i+1,hi=>by
  have ih:=z7N h i (by omega)
  have hx:=(z4i h).2 L[i] (List.getElem_mem (by omega))
  have h1:=z1Y L[i].1 (by omega)
  have h2:=z1Y L[i].2 (by omega)
  rw[z91 L i (by omega),List.length_append,List.length_append]
  omega
def z2V (L:List Lab):Byt:=if setB L then z40 L else[]
section
variable (σ:St)
theorem zbO (L:List Lab):Ans Tryz.prog 92 [.sl 2 (lvs L)] σ (.sl 1 (byv (z2V L))) σ:=by
 have hi:=fun s=>z28 s L
 unfold z2V
 cases hR:setB L with
 |false =>
  have:Ans Tryz.prog 92 [.sl 2 (lvs L)] σ .nils σ:=by
   refine Ans.of_run t92 ?_;simp -implicitDefEqProofs only[c92,r92,go_sem];refine CO.intro (hi _) ?_;rw[hR];simp -implicitDefEqProofs only[go_sem];exact Fini.ret rfl
  exact this.subR (.nils 1)
 |true =>
  obtain⟨h1,h2⟩:=z4i hR;have hpl:=z7N hR;have n1:=fun s=>z7u s L.length (by omega)
  rw[←z92]at n1;have hw:=z1T (n:=L.length) (by omega)
  refine Ans.of_run' t92 (fun hbel _=>?_)
  simp -implicitDefEqProofs only[c92,r92,go_sem];refine CO.intro (hi _) ?_;rw[hR];simp -implicitDefEqProofs only[go_sem,z0k,hw];refine CO.intro (n1 _) ?_;simp -implicitDefEqProofs only[go_sem,z0k];refine Go.Ab.L.count L.length (fun i=>mkE 31 [(3,.osl σ.length (preS L i).length),(13,.sl 2 (lvs L)),(14,I L.length),(15,I i)]) (fun i=>σ++[.row 1 (byv (preS L i))]) ?_ ?_ rfl rfl
  · intro i hi J hJ;have hx:=lvs_D L i hi;rw[List.getD_eq_getElem?_getD,List.getElem?_eq_getElem hi,Option.getD_some]at hx;have hs:=h2 L[i] (List.getElem_mem hi);have hp:=hpl (i+1) (by omega)
    rw[z91 L i hi]at hJ hp;generalize L[i]=s at hx hs hJ hp;generalize preS L i=pre at hJ hp⊢;have hin:=wrap_succ (i:=i) (by omega)
    rw[List.length_append,List.length_append]at hp hJ;have l1:pre.length+(txtB s.1).length≤4294967296:=by omega
    have l2:pre.length+(txtB s.1).length+(txtB s.2).length≤4294967296:=by omega
    simp -implicitDefEqProofs only[mkE,go_sem,z0k,z0f hi,dec_lt hi,hx];refine CO.intro (z2e _ s.1 (by omega)) ?_
    simp -implicitDefEqProofs only[go_sem,g0,s0,z03,z1z,bc,l1];refine CO.intro (z2e _ s.2 (by omega)) ?_
    simp -implicitDefEqProofs only[go_sem,g0,s0,z03,z1z,bc,l1,l2,hin,List.length_append];simp only[z1H,List.append_assoc,Nat.add_assoc]at hJ⊢;exact hJ
  · intro J;have d0:decide ((L.length:Int)<L.length)=false:=by simp
    simp -implicitDefEqProofs only[mkE,go_sem,z0k,d0,g0,s0,z03,zaU];exact Fini.trim2 (σ':=σ) (ex:=[_]) rfl rfl (Nat.le_refl _) (z2d _ _) hbel
end
def opC (op:Int):UInt8:=op.toNat.toUInt8
def layF (f k:Int) (ps:List Byt) (B:Byt):Byt:=if hasF f k then B++ps.flatten else B
def putB1 (f:Int) (r:ReM):Byt:=layF f 4 [putN r.st,putN r.en] (layF f 2 [txtB r.txt] (layF f 1 [putN r.id.toNat] [opC r.op]))
def putB2 (f:Int) (r:ReM):Byt:=layF f 64 [putBd (r.any,r.lo,r.hi)] (layF f 16 [z0Z r.mt] (layF f 8 [[opC r.sta]] (putB1 f r)))
def z0L (f:Int) (r:ReM):Byt:=layF f 512 [putV r.val] (layF f 256 [z2V r.ls] (layF f 128 [z1O r.ru] (putB2 f r)))
def z1V (r:ReM):Byt:=if mayR r then z0L (fOf r.op).1 r else[]
def laid (σ:St) (B:Byt):St:=σ++[.row 1 (byv B),.box [.osl σ.length B.length]]
theorem z7O {c:Int} (h:0≤c) (h1:c≤17):IntKind.u8.wrap c=(((opC c).toNat:Nat):Int):=by
 obtain⟨n,rfl⟩:=Int.eq_ofNat_of_zero_le h;have:n<18:=by omega
 match n,this with
 |0,_|1,_|2,_|3,_|4,_|5,_|6,_|7,_|8,_|9,_|10,_|11,_|12,_|13,_|14,_|15,_|16,_|17,_=>rfl
section
variable (σ:St)
theorem z3A (f k:Int) (ps:List Byt) (B:Byt) (hp:hasF f k=true→0<ps.flatten.length) (hps:ps.length≤100) (hl:ps.flatten.length≤1000000) (hB:B.length≤1000000) :
  Ans Tryz.prog 91 [I k,.sl 1 (bsv ps),.rp [I f],.ptr (σ.length+1) 0] (laid σ B) (.tup []) (laid σ (layF f k ps B)):=by
 have e:decide (0<aI f k)=hasF f k:=rfl;unfold layF
 cases hF:hasF f k with
 |false =>
  rw[hF]at e;unfold laid;refine Ans.of_run t91 ?_;simp -implicitDefEqProofs only[c91,r91,go_sem,e];exact Fini.normal rfl
 |true =>
  rw[hF]at e;have hc:=fun s=>z8K s ps hps (hp hF) hl
  have q1:B.length+ps.flatten.length≤4294967296:=by omega
  unfold laid;refine Ans.of_run t91 ?_;simp -implicitDefEqProofs only[c91,r91,go_sem,e,g1];refine CD.intro (hc _) ?_;simp -implicitDefEqProofs only[go_sem,g0,s0,g1,s1,z03,z1z,bc,q1];simp only[if_true,z1H,List.length_append];exact Fini.normal rfl
theorem z0y {f k:Int} {ps:List Byt} {B:Byt} {n m:Nat} (hB:B.length≤n) (hp:hasF f k=true→ps.flatten.length≤m):(layF f k ps B).length≤n+m:=by
 unfold layF;split
 · rename_i h;have:=hp h;rw[List.length_append];omega
 · omega
structure BdOk (r:ReM):Prop where
 op0:0≤r.op
 op1:r.op≤17
 id0:0≤r.id
 id1:r.id≤2147483647
 txt:r.txt.size≤16
 st:r.st≤1099511627776
 en:r.en≤1099511627776
 sta0:0≤r.sta
 sta1:r.sta≤3
 mt:listB r.mt=true
 ru:hasF (fOf r.op).1 128=true→ruIs r.ru=true
 ls:hasF (fOf r.op).1 256=true→setB r.ls=true
theorem bd_ok {r:ReM} (h:mayR r=true):BdOk r:=by
 have hop:1≤r.op∧r.op≤17:=by
  have:(fOf r.op).2=true:=by unfold mayR at h;simp only[Bool.and_eq_true]at h;exact h.1
  unfold fOf at this;split at this
  · assumption
  · cases this
 unfold mayR at h;simp only[Bool.and_eq_true]at h;obtain⟨_,hz,hr⟩:=h;unfold zeroB at hz;unfold z0c idR clkB staR at hr;simp only[Bool.and_eq_true,Bool.or_eq_true,decide_eq_true_eq,Bool.not_eq_true']at hz hr;obtain⟨hid,htx,hst,hen,hsta,hmt,_,_,hru,hls⟩:=hr;refine⟨by omega,hop.2,hid.1,hid.2,?_,by omega,by omega,hsta.1,hsta.2,hmt,fun h=>?_,fun h=>?_⟩
 · rcases htx with h|h
   · rcases hz.2.1 with h'|h'
     · rw[h]at h';cases h'
     · unfold emS at h';have:=eq_of_beq h';rw[ByteArray.toList_eq,ByteArray.toList_eq]at this;have h0:r.txt.size=0:=by rw[←z3j,this];rfl
       omega
   · unfold tokB at h;simp only[Bool.and_eq_true,decide_eq_true_eq]at h;omega
 · rcases hru with h'|h'
   · rw[h]at h';cases h'
   · exact h'
 · rcases hls with h'|h'
   · rw[h]at h';cases h'
   · exact h'
theorem z6s {M:List Mtr} (h:listB M=true):0<([z0Z M]:List Byt).flatten.length∧([z0Z M]:List Byt).flatten.length≤510:=by
 have e:z0Z M=putL M:=by unfold z0Z;rw[h];rfl
 have:=z7F M;have:=z7E h;simp only[List.flatten_cons,List.flatten_nil,List.append_nil,e];omega
theorem z93 {r:RuM} (h:ruIs r=true):0<([z1O r]:List Byt).flatten.length∧([z1O r]:List Byt).flatten.length≤100000:=by
 have e:z1O r=putR r:=by unfold z1O;rw[h];rfl
 have h0:=z7D r;have h1:=z5q h r.eq.length (Nat.le_refl _);have h5:=(z1A h).2.2.2.1;rw[h0]at h1
 have hp:0<(putR r).length:=by
  have:=z7F r.src;unfold putR;simp only[List.length_append];omega
 simp only[List.flatten_cons,List.flatten_nil,List.append_nil,e];omega
theorem z94 {L:List Lab} (h:setB L=true):0<([z2V L]:List Byt).flatten.length∧([z2V L]:List Byt).flatten.length≤1000:=by
 have e:z2V L=z40 L:=by unfold z2V;rw[h];rfl
 have h0:=zaU L;have h1:=z7N h L.length (Nat.le_refl _);have h2:=(z4i h).1;rw[h0]at h1
 have hp:0<(z40 L).length:=by
  have:=z4T L.length;unfold z40 z2K
  cases h:putN L.length with
  |nil=>exact absurd h this
  |cons a b=>simp
 simp only[List.flatten_cons,List.flatten_nil,List.append_nil,e];omega
end
theorem zdG (r:RuM):([z1O r]:List Byt).flatten.length≤100000:=by
 cases h:ruIs r with
 |true=>exact(z93 h).2
 |false=>unfold z1O;rw[h];exact Nat.zero_le _
theorem z9Y (L:List Lab):([z2V L]:List Byt).flatten.length≤1000:=by
 cases h:setB L with
 |true=>exact(z94 h).2
 |false=>unfold z2V;rw[h];exact Nat.zero_le _
section
variable (σ:St)
set_option maxHeartbeats 4000000 in
theorem zaV (r:ReM):Ans Tryz.prog 37 [reV r] σ (.sl 1 (byv (z1V r))) σ:=by
 have hi:=fun s=>z2a s r
 unfold z1V
 cases hM:mayR r with
 |false =>
  have:Ans Tryz.prog 37 [reV r] σ .nils σ:=by
   refine Ans.of_run t37 ?_;unfold reV reC at hi⊢;simp -implicitDefEqProofs only[c37,r37,go_sem];refine CO.intro (hi _) ?_;rw[hM];simp -implicitDefEqProofs only[go_sem];exact Fini.ret rfl
  exact this.subR (.nils 1)
 |true =>
  obtain⟨op0,op1,id0,id1,htx,hst,hen,sta0,sta1,hmt,hru,hls⟩:=bd_ok hM;rw[if_pos rfl];unfold z0L putB2 putB1;have hf:=fun s=>z1k s r.op
  generalize (fOf r.op).1=f at hf hru hls⊢;generalize (fOf r.op).2=ok at hf;have p1:=z0I (n:=r.id.toNat) (by omega)
  have p2:=z1Y r.txt (by omega)
  have p3:=z0I (n:=r.st) (by omega)
  have p4:=z0I (n:=r.en) (by omega)
  have p5:=z6s hmt;have p6:=z4F (r.any,r.lo,r.hi);have p6':0<(putBd (r.any,r.lo,r.hi)).length:=by unfold putBd;split<;>simp
  have p7:=zdG r.ru;have p8:=z9Y r.ls;have y1:0<(putN r.id.toNat).length:=List.length_pos_iff.2 (z4T _)
  have y2:0<(txtB r.txt).length:=by
   have:0<(putN r.txt.size).length:=List.length_pos_iff.2 (z4T _);unfold txtB;rw[List.length_append];omega
  have y3:0<(putN r.st).length:=List.length_pos_iff.2 (z4T _);have f1:∀b:Byt,([b]:List Byt).flatten=b:=fun b=>by simp
  have f2:∀b c:Byt,([b,c]:List Byt).flatten.length=b.length+c.length:=fun b c=>by simp
  have L1:=z3A σ f 1 [putN r.id.toNat] [opC r.op] (fun _=>by rw[f1];omega) (by simp) (by rw[f1];omega) (by simp)
  have n1:(layF f 1 [putN r.id.toNat] [opC r.op]).length≤1+10:=z0y (by simp) (fun _=>by rw[f1];omega)
  generalize layF f 1 [putN r.id.toNat] [opC r.op]=B1 at L1 n1⊢;have L2:=z3A σ f 2 [txtB r.txt] B1 (fun _=>by rw[f1];omega) (by simp) (by rw[f1];omega) (by omega)
  have n2:(layF f 2 [txtB r.txt] B1).length≤11+40:=z0y n1 (fun _=>by rw[f1];omega)
  generalize layF f 2 [txtB r.txt] B1=B2 at L2 n2⊢;have L3:=z3A σ f 4 [putN r.st,putN r.en] B2 (fun _=>by rw[f2];omega) (by simp) (by rw[f2];omega) (by omega)
  have n3:(layF f 4 [putN r.st,putN r.en] B2).length≤51+20:=z0y n2 (fun _=>by rw[f2];omega)
  generalize layF f 4 [putN r.st,putN r.en] B2=B3 at L3 n3⊢;have L4:=z3A σ f 8 [[opC r.sta]] B3 (fun _=>by simp) (by simp) (by simp) (by omega)
  have n4:(layF f 8 [[opC r.sta]] B3).length≤71+1:=z0y n3 (fun _=>by simp)
  generalize layF f 8 [[opC r.sta]] B3=B4 at L4 n4⊢;have L5:=z3A σ f 16 [z0Z r.mt] B4 (fun _=>by omega) (by simp) (by omega) (by omega)
  have n5:(layF f 16 [z0Z r.mt] B4).length≤72+510:=z0y n4 (fun _=>by omega)
  generalize layF f 16 [z0Z r.mt] B4=B5 at L5 n5⊢;have L6:=z3A σ f 64 [putBd (r.any,r.lo,r.hi)] B5 (fun _=>by rw[f1];omega) (by simp) (by rw[f1];omega) (by omega)
  have n6:(layF f 64 [putBd (r.any,r.lo,r.hi)] B5).length≤582+17:=z0y n5 (fun _=>by rw[f1];omega)
  generalize layF f 64 [putBd (r.any,r.lo,r.hi)] B5=B6 at L6 n6⊢;have L7:=z3A σ f 128 [z1O r.ru] B6 (fun h=>(z93 (hru h)).1) (by simp) (by omega) (by omega)
  have n7:(layF f 128 [z1O r.ru] B6).length≤599+100000:=z0y n6 (fun _=>by omega)
  generalize layF f 128 [z1O r.ru] B6=B7 at L7 n7⊢;have L8:=z3A σ f 256 [z2V r.ls] B7 (fun h=>(z94 (hls h)).1) (by simp) (by omega) (by omega)
  have n8:(layF f 256 [z2V r.ls] B7).length≤100599+1000:=z0y n7 (fun _=>by omega)
  generalize layF f 256 [z2V r.ls] B7=B8 at L8 n8⊢;have L9:=z3A σ f 512 [putV r.val] B8 (fun _=>by rw[f1];exact Nat.zero_lt_succ _) (by simp) (by rw[f1];exact Nat.le_of_ble_eq_true rfl) (by omega)
  generalize layF f 512 [putV r.val] B8=B9 at L9⊢;have m1:=fun s=>zaM s r.id.toNat (by omega)
  have m2:=fun s=>z2e s r.txt (by omega)
  have m3:=fun s=>zaM s r.st (by omega)
  have m4:=fun s=>zaM s r.en (by omega)
  have m5:=fun s=>z4V s r.mt
  have m6:=fun s=>z6h s (r.any,r.lo,r.hi)
  have m7:=fun s=>z9R s r.ru
  have m8:=fun s=>zbO s r.ls
  have m9:=fun s=>z3v s r.val
  have mA:=fun s=>z4g s (bitsF r.val)
  have w1:IntKind.u64.wrap r.id=((r.id.toNat:Nat):Int):=by
   rw[show r.id=((r.id.toNat:Nat):Int) from by omega,z1T (by omega)];rfl
  have w2:=z7O op0 op1;have w3:=z7O sta0 (by omega)
  clear p1 p2 p3 p4 p5 p6 p6' p7 p8 y1 y2 y3 f1 f2 n1 n2 n3 n4 n5 n6 n7 n8 hru hls hmt;obtain⟨tok,op,id,txt,st,en,sta,mt,any,lo,hi',⟨src,tgt,ra,rl,rh,eq⟩,ls,val⟩:=r;simp only at *;refine Ans.of_run' t37 (fun hbel _=>?_)
  unfold reV reC at hi⊢;unfold bandV at m6;unfold ruV at m7;simp -implicitDefEqProofs only[c37,r37,go_sem];refine CO.intro (hi _) ?_;rw[hM];simp -implicitDefEqProofs only[go_sem,w2,g0,g1,s0,s1,List.append_assoc,List.length_append];refine CO.intro (hf _) ?_;simp -implicitDefEqProofs only[go_sem,w1];refine CO.intro (m1 _) ?_;simp -implicitDefEqProofs only[go_sem];refine CO.intro L1 ?_;simp -implicitDefEqProofs only[go_sem];refine CO.intro (m2 _) ?_;simp -implicitDefEqProofs only[go_sem];refine CO.intro L2 ?_;simp -implicitDefEqProofs only[go_sem];refine CD.intro (m3 _) ?_;simp -implicitDefEqProofs only[go_sem];refine CD.intro (m4 _) ?_;simp -implicitDefEqProofs only[go_sem];refine CD.intro L3 ?_;simp -implicitDefEqProofs only[go_sem,w3];refine CO.intro L4 ?_;simp -implicitDefEqProofs only[go_sem];refine CO.intro (m5 _) ?_;simp -implicitDefEqProofs only[go_sem];refine CO.intro L5 ?_;simp -implicitDefEqProofs only[go_sem];refine CO.intro (m6 _) ?_;simp -implicitDefEqProofs only[go_sem];refine CO.intro L6 ?_;simp -implicitDefEqProofs only[go_sem];refine CO.intro (m7 _) ?_;simp -implicitDefEqProofs only[go_sem];refine CO.intro L7 ?_;simp -implicitDefEqProofs only[go_sem];refine CO.intro (m8 _) ?_;simp -implicitDefEqProofs only[go_sem];refine CO.intro L8 ?_;simp -implicitDefEqProofs only[go_sem];refine CO.intro (m9 _) ?_;simp -implicitDefEqProofs only[go_sem];refine CO.intro (mA _) ?_;simp -implicitDefEqProofs only[go_sem];refine CO.intro L9 ?_;unfold laid;simp -implicitDefEqProofs only[go_sem,g0,g1,s0,s1,z03]
  exact Fini.trim2 (σ':=σ) (ex:=[_,_]) rfl rfl (Nat.le_refl _) (z2d _ _) hbel
end
def z20 (r:ReM):Byt:=if reIs r then txtB r.tok++z1V r else[]
theorem zbP (r:ReM):(z1V r).length≤200000:=by
 unfold z1V
 cases hM:mayR r with
 |false=>exact Nat.zero_le _
 |true =>
  obtain⟨op0,op1,id0,id1,htx,hst,hen,sta0,sta1,hmt,hru,hls⟩:=bd_ok hM;rw[if_pos rfl];unfold z0L putB2 putB1;have f1:∀b:Byt,([b]:List Byt).flatten=b:=fun b=>by simp
  have f2:∀b c:Byt,([b,c]:List Byt).flatten.length=b.length+c.length:=fun b c=>by simp
  refine Nat.le_trans (z0y (n:=101600) (m:=8) (z0y (n:=100600) (m:=1000) (z0y (n:=600) (m:=100000) (z0y (n:=583) (m:=17) (z0y (n:=73) (m:=510) (z0y (n:=72) (m:=1) (z0y (n:=52) (m:=20) (z0y (n:=12) (m:=40) (z0y (n:=2) (m:=10) (by simp) ?_) ?_) ?_) ?_) ?_) ?_) ?_) ?_) ?_) (by decide)<;>intro _
  · rw[f1];exact z0I (by omega)
  · rw[f1];have:=z1Y r.txt (by omega);omega
  · rw[f2];have:=z0I (n:=r.st) (by omega);have:=z0I (n:=r.en) (by omega);omega
  · simp
  · exact(z6s hmt).2
  · rw[f1];exact z4F _
  · exact zdG _
  · exact z9Y _
  · rw[f1];exact Nat.le_of_eq (z2j _)
theorem z3Y {r:ReM} (h:reIs r=true):r.tok.size≤16∧4≤r.tok.size∧mayR r=true:=by
 unfold reIs tokB at h;simp only[Bool.and_eq_true,decide_eq_true_eq]at h;exact⟨h.1.2,h.1.1,h.2⟩
section
variable (σ:St)
theorem z5f (r:ReM):Ans Tryz.prog 39 [reV r] σ (.sl 1 (byv (z20 r))) σ:=by
 have hi:=fun s=>zaS s r
 unfold z20
 cases hM:reIs r with
 |false =>
  have:Ans Tryz.prog 39 [reV r] σ .nils σ:=by
   refine Ans.of_run t39 ?_;unfold reV reC at hi⊢;simp -implicitDefEqProofs only[c39,r39,go_sem];refine CO.intro (hi _) ?_;rw[hM];simp -implicitDefEqProofs only[go_sem];exact Fini.ret rfl
  exact this.subR (.nils 1)
 |true =>
  obtain⟨ht,_,_⟩:=z3Y hM;have hl:=zbP r;have m1:=fun s=>z66 s r.tok (by omega)
  have m2:=fun s=>zaV s r
  have p1:=z1Y r.tok (by omega)
  rw[if_pos rfl];generalize z1V r=B at hl m2⊢;have q1:(txtB r.tok).length+B.length≤4294967296:=by omega
  have hbb:=fun n=>z2d n (txtB r.tok++B)
  simp only[z1H]at hbb⊢;refine Ans.of_run' t39 (fun hbel _=>?_)
  unfold reV reC at hi m2⊢;simp -implicitDefEqProofs only[c39,r39,go_sem];refine CO.intro (hi _) ?_;rw[hM];simp -implicitDefEqProofs only[go_sem];refine CD.intro (m1 _) ?_;simp -implicitDefEqProofs only[go_sem];refine CD.intro (m2 _) ?_;simp -implicitDefEqProofs only[go_sem,g0,s0,z03,z1z,bc,q1,List.length_append];exact Fini.trim2 (σ':=σ) (ex:=[_]) rfl rfl (Nat.le_refl _) (hbb _) hbel
end
theorem z1D {α β:Type} {rd:Rd α} {wr:α→Byt} {ok:α→Prop} (h:Fits rd wr ok) (f:α→β) (g:β→α) (hgf:∀a,g (f a)=a):Fits (z0Y rd f) (fun r=>wr (g r)) (fun r=>ok (g r)∧f (g r)=r) :=
 dress_fits h (fun a ha=>⟨⟨by rw[hgf];exact ha,by rw[hgf]⟩,by rw[hgf]⟩) (fun b hb=>hb)
theorem zaW (c:UInt8):opC ((c.toNat:Nat):Int)=c:=by
 unfold opC;rw[Int.toNat_natCast];simp
theorem z2m {n:Int} (h0:0≤n) (h1:n≤17):(((opC n).toNat:Nat):Int)=n:=by
 have:=z7O h0 h1;rw[←this];obtain⟨k,rfl⟩:=Int.eq_ofNat_of_zero_le h0;have:k<18:=by omega
 match k,this with
 |0,_|1,_|2,_|3,_|4,_|5,_|6,_|7,_|8,_|9,_|10,_|11,_|12,_|13,_|14,_|15,_|16,_|17,_=>rfl
theorem z3B (s:ByteArray):emS s=true↔s=⟨#[]⟩:=by
 unfold emS;rw[beq_iff_eq];exact⟨toList_inj,fun h=>by rw[h]⟩
theorem z3C (n:Nat):emU n=true↔n=0:=by unfold emU;rw[beq_iff_eq];omega
theorem z39 {α:Type} (l:List α):emI l.length=true↔l=[]:=by
 unfold emI;rw[beq_iff_eq,←List.length_eq_zero_iff];omega
theorem z42 (v:Nat):zF v=true↔v=0:=by
 unfold zF;rw[beq_iff_eq];exact⟨fun h=>z3m (Int.ofNat.inj h),fun h=>by rw[h,z1r];rfl⟩
theorem z2b (x:Bnd):noBd x=true↔x=(false,0,0):=by
 obtain⟨a,lo,hi⟩:=x;unfold noBd;simp only[Bool.and_eq_true,z42,Bool.not_eq_true',Prod.mk.injEq]
theorem z2n (r:RuM):noRl r=true↔r=noRu:=by
 obtain⟨a,b,c,lo,hi,e⟩:=r;unfold noRl noRu;simp only[Bool.and_eq_true,z39,z2b,RuM.mk.injEq,Prod.mk.injEq];constructor
 · rintro⟨rfl,rfl,rfl,rfl,rfl,rfl⟩;simp
 · rintro⟨rfl,rfl,rfl,rfl,rfl,rfl⟩;simp
def mkI (op:Int) (n:Nat):ReM:={ x0 op with id:=(n:Nat) }
def mkIT (op:Int) (p:Nat×ByteArray):ReM:={ x0 op with id:=(p.1:Nat),txt:=p.2 }
def mkZ (op:Int) (c:UInt8):ReM:={ x0 op with sta:=(c.toNat:Nat) }
def mkR (op:Int) (r:RuM):ReM:={ x0 op with ru:=r }
def mkLV (op:Int) (p:List Lab×Nat):ReM:={ x0 op with ls:=p.1,val:=p.2 }
def mkMt (op:Int) (M:List Mtr):ReM:={ x0 op with mt:=M }
structure ReSz (r:ReM):Prop where
 tok:r.tok=⟨#[]⟩
 val:r.val<2^64∧bitsF r.val=r.val
 bd:r.lo<2^64∧r.hi<2^64
 ru:r.ru.lo<2^64∧r.ru.hi<2^64
theorem fit_0 (op:Int):Fits (clR 0 op) (fun r=>[]) (fun r=>r=x0 op):=⟨fun a t h=>by rw[h];rfl,fun b a t h=>by have h:(some (x0 op,b):Option (ReM×Byt))=some (a,t):=h;simp only[Option.some.injEq,Prod.mk.injEq]at h;exact⟨h.1.symm,h.2⟩⟩
theorem fit_1 (op:Int):Fits (clR 1 op) (fun r=>putN r.id.toNat) (fun r=>(r.id.toNat≤2147483647)∧(mkI op) ((fun r=>r.id.toNat) r)=r):=z1D (z24 (most:=2147483647) (by decide)) (mkI op) (fun r=>r.id.toNat) (fun _=>rfl)
theorem fit_3 (op:Int):Fits (clR 3 op) (fun r=>putN r.id.toNat++txtB r.txt) (fun r=>(r.id.toNat≤2147483647∧r.txt.size≤16)∧(mkIT op) ((fun r=>(r.id.toNat,r.txt)) r)=r):=z1D (z16 (z24 (most:=2147483647) (by decide)) (z1B (most:=16) (by decide))) (mkIT op) (fun r=>(r.id.toNat,r.txt)) (fun _=>rfl)
theorem zdH (op:Int):Fits (clR 116 op) (fun r=>putN r.st++(putN r.en++(putL r.mt++putBd (r.any,r.lo,r.hi)))) (fun r=>(r.st≤1099511627776∧r.en≤1099511627776∧listB r.mt=true∧(bMay (r.any,r.lo,r.hi)=true∧bSz (r.any,r.lo,r.hi)))∧(mk116 op) ((fun r=>(r.st,r.en,r.mt,r.any,r.lo,r.hi)) r)=r):=z1D (z16 (z24 (most:=1099511627776) (by decide)) (z16 (z24 (most:=1099511627776) (by decide)) (z16 listB_fits band_fits))) (mk116 op) (fun r=>(r.st,r.en,r.mt,r.any,r.lo,r.hi)) (fun _=>rfl)
theorem zdI (op:Int):Fits (clR 117 op) (fun r=>putN r.id.toNat++(putN r.st++(putN r.en++(putL r.mt++putBd (r.any,r.lo,r.hi))))) (fun r=>(r.id.toNat≤2147483647∧r.st≤1099511627776∧r.en≤1099511627776∧listB r.mt=true∧(bMay (r.any,r.lo,r.hi)=true∧bSz (r.any,r.lo,r.hi)))∧(mk117 op) ((fun r=>(r.id.toNat,r.st,r.en,r.mt,r.any,r.lo,r.hi)) r)=r):=z1D (z16 (z24 (most:=2147483647) (by decide)) (z16 (z24 (most:=1099511627776) (by decide)) (z16 (z24 (most:=1099511627776) (by decide)) (z16 listB_fits band_fits)))) (mk117 op) (fun r=>(r.id.toNat,r.st,r.en,r.mt,r.any,r.lo,r.hi)) (fun _=>rfl)
theorem fit_8 (op:Int):Fits (clR 8 op) (fun r=>[opC r.sta]) (fun r=>(True)∧(mkZ op) ((fun r=>opC r.sta) r)=r):=z1D byte_fits (mkZ op) (fun r=>opC r.sta) (fun c=>zaW c)
theorem zdJ (op:Int):Fits (clR 128 op) (fun r=>putR r.ru) (fun r=>(ruIs r.ru=true∧ruSz r.ru)∧(mkR op) ((fun r=>r.ru) r)=r):=z1D ru_fits (mkR op) (fun r=>r.ru) (fun _=>rfl)
theorem zdK (op:Int):Fits (clR 768 op) (fun r=>z40 r.ls++putV r.val) (fun r=>(setB r.ls=true∧(r.val<2^64∧bitsF r.val=r.val))∧(mkLV op) ((fun r=>(r.ls,r.val)) r)=r):=z1D (z16 set_fits val_fits) (mkLV op) (fun r=>(r.ls,r.val)) (fun _=>rfl)
theorem zgq (op:Int):Fits (clR 16 op) (fun r=>putL r.mt) (fun r=>(listB r.mt=true)∧(mkMt op) ((fun r=>r.mt) r)=r):=z1D listB_fits (mkMt op) (fun r=>r.mt) (fun _=>rfl)
theorem cls_0 {r:ReM} (hm:mayR r=true) (hs:ReSz r) (hf:(fOf r.op).1=0):(r=x0 r.op)∧z0L 0 r=opC r.op::([]):=by
 have hok:=bd_ok hm;unfold mayR at hm;rw[hf]at hm;simp only[Bool.and_eq_true]at hm;obtain⟨_,hz,hr⟩:=hm;unfold zeroB at hz;unfold z0c at hr;simp only[hs_0,Bool.true_or,Bool.false_or,Bool.not_true,Bool.not_false,Bool.true_and,Bool.and_true,Bool.and_eq_true,z3B,z3C,z39,z42,z2b,z2n,beq_iff_eq,Prod.mk.injEq]at hz hr;obtain⟨op0,op1,id0,id1,htx,hst,hen,sta0,sta1,hmt,hru,hls⟩:=hok;obtain⟨h1,h2,h3,h4⟩:=hs;have hid:((r.id.toNat:Nat):Int)=r.id:=by omega
 have hsta:=z2m sta0 (by omega)
 have eL:z0Z r.mt=putL r.mt:=by unfold z0Z;rw[hmt];rfl
 rw[hf]at hru hls;refine⟨?_,by simp[z0L,putB2,putB1,layF,hs_0]⟩
 obtain⟨tok,op,id,txt,st,en,sta,mt,any,lo,hi,ru,ls,val⟩:=r;simp only[x0,mk116,mk117,mkI,mkIT,mkZ,mkR,mkLV,mkMt,ReM.mk.injEq]at *
 simp_all
theorem cls_1 {r:ReM} (hm:mayR r=true) (hs:ReSz r) (hf:(fOf r.op).1=1):((r.id.toNat≤2147483647)∧(mkI r.op) ((fun r=>r.id.toNat) r)=r)∧z0L 1 r=opC r.op::(putN r.id.toNat):=by
 have hok:=bd_ok hm;unfold mayR at hm;rw[hf]at hm;simp only[Bool.and_eq_true]at hm;obtain⟨_,hz,hr⟩:=hm;unfold zeroB at hz;unfold z0c at hr;simp only[hs_1,Bool.true_or,Bool.false_or,Bool.not_true,Bool.not_false,Bool.true_and,Bool.and_true,Bool.and_eq_true,z3B,z3C,z39,z42,z2b,z2n,beq_iff_eq,Prod.mk.injEq]at hz hr;obtain⟨op0,op1,id0,id1,htx,hst,hen,sta0,sta1,hmt,hru,hls⟩:=hok;obtain⟨h1,h2,h3,h4⟩:=hs;have hid:((r.id.toNat:Nat):Int)=r.id:=by omega
 have hsta:=z2m sta0 (by omega)
 have eL:z0Z r.mt=putL r.mt:=by unfold z0Z;rw[hmt];rfl
 rw[hf]at hru hls;refine⟨⟨by omega,?_⟩,by simp[z0L,putB2,putB1,layF,hs_1]⟩
 obtain⟨tok,op,id,txt,st,en,sta,mt,any,lo,hi,ru,ls,val⟩:=r;simp only[x0,mk116,mk117,mkI,mkIT,mkZ,mkR,mkLV,mkMt,ReM.mk.injEq]at *
 simp_all
theorem cls_3 {r:ReM} (hm:mayR r=true) (hs:ReSz r) (hf:(fOf r.op).1=3):((r.id.toNat≤2147483647∧r.txt.size≤16)∧(mkIT r.op) ((fun r=>(r.id.toNat,r.txt)) r)=r)∧z0L 3 r=opC r.op::(putN r.id.toNat++txtB r.txt):=by
 have hok:=bd_ok hm;unfold mayR at hm;rw[hf]at hm;simp only[Bool.and_eq_true]at hm;obtain⟨_,hz,hr⟩:=hm;unfold zeroB at hz;unfold z0c at hr;simp only[hs_3,Bool.true_or,Bool.false_or,Bool.not_true,Bool.not_false,Bool.true_and,Bool.and_true,Bool.and_eq_true,z3B,z3C,z39,z42,z2b,z2n,beq_iff_eq,Prod.mk.injEq]at hz hr;obtain⟨op0,op1,id0,id1,htx,hst,hen,sta0,sta1,hmt,hru,hls⟩:=hok;obtain⟨h1,h2,h3,h4⟩:=hs;have hid:((r.id.toNat:Nat):Int)=r.id:=by omega
 have hsta:=z2m sta0 (by omega)
 have eL:z0Z r.mt=putL r.mt:=by unfold z0Z;rw[hmt];rfl
 rw[hf]at hru hls;refine⟨⟨⟨by omega,htx⟩,?_⟩,by simp[z0L,putB2,putB1,layF,hs_3]⟩
 obtain⟨tok,op,id,txt,st,en,sta,mt,any,lo,hi,ru,ls,val⟩:=r;simp only[x0,mk116,mk117,mkI,mkIT,mkZ,mkR,mkLV,mkMt,ReM.mk.injEq]at *
 simp_all
theorem z9Z {r:ReM} (hm:mayR r=true) (hs:ReSz r) (hf:(fOf r.op).1=116):((r.st≤1099511627776∧r.en≤1099511627776∧listB r.mt=true∧(bMay (r.any,r.lo,r.hi)=true∧bSz (r.any,r.lo,r.hi)))∧(mk116 r.op) ((fun r=>(r.st,r.en,r.mt,r.any,r.lo,r.hi)) r)=r)∧z0L 116 r=opC r.op::(putN r.st++(putN r.en++(putL r.mt++putBd (r.any,r.lo,r.hi)))):=by
 have hok:=bd_ok hm;unfold mayR at hm;rw[hf]at hm;simp only[Bool.and_eq_true]at hm;obtain⟨_,hz,hr⟩:=hm;unfold zeroB at hz;unfold z0c at hr;simp only[z78,Bool.true_or,Bool.false_or,Bool.not_true,Bool.not_false,Bool.true_and,Bool.and_true,Bool.and_eq_true,z3B,z3C,z39,z42,z2b,z2n,beq_iff_eq,Prod.mk.injEq]at hz hr;obtain⟨op0,op1,id0,id1,htx,hst,hen,sta0,sta1,hmt,hru,hls⟩:=hok;obtain⟨h1,h2,h3,h4⟩:=hs;have hid:((r.id.toNat:Nat):Int)=r.id:=by omega
 have hsta:=z2m sta0 (by omega)
 have eL:z0Z r.mt=putL r.mt:=by unfold z0Z;rw[hmt];rfl
 rw[hf]at hru hls;refine⟨⟨⟨hst,hen,hmt,hr.2.2.2.2.2.2,h3⟩,?_⟩,by simp[z0L,putB2,putB1,layF,z78,eL]⟩
 obtain⟨tok,op,id,txt,st,en,sta,mt,any,lo,hi,ru,ls,val⟩:=r;simp only[x0,mk116,mk117,mkI,mkIT,mkZ,mkR,mkLV,mkMt,ReM.mk.injEq]at *
 simp_all
theorem za0 {r:ReM} (hm:mayR r=true) (hs:ReSz r) (hf:(fOf r.op).1=117):((r.id.toNat≤2147483647∧r.st≤1099511627776∧r.en≤1099511627776∧listB r.mt=true∧(bMay (r.any,r.lo,r.hi)=true∧bSz (r.any,r.lo,r.hi)))∧(mk117 r.op) ((fun r=>(r.id.toNat,r.st,r.en,r.mt,r.any,r.lo,r.hi)) r)=r)∧z0L 117 r=opC r.op::(putN r.id.toNat++(putN r.st++(putN r.en++(putL r.mt++putBd (r.any,r.lo,r.hi))))):=by
 have hok:=bd_ok hm;unfold mayR at hm;rw[hf]at hm;simp only[Bool.and_eq_true]at hm;obtain⟨_,hz,hr⟩:=hm;unfold zeroB at hz;unfold z0c at hr;simp only[z79,Bool.true_or,Bool.false_or,Bool.not_true,Bool.not_false,Bool.true_and,Bool.and_true,Bool.and_eq_true,z3B,z3C,z39,z42,z2b,z2n,beq_iff_eq,Prod.mk.injEq]at hz hr;obtain⟨op0,op1,id0,id1,htx,hst,hen,sta0,sta1,hmt,hru,hls⟩:=hok;obtain⟨h1,h2,h3,h4⟩:=hs;have hid:((r.id.toNat:Nat):Int)=r.id:=by omega
 have hsta:=z2m sta0 (by omega)
 have eL:z0Z r.mt=putL r.mt:=by unfold z0Z;rw[hmt];rfl
 rw[hf]at hru hls;refine⟨⟨⟨by omega,hst,hen,hmt,hr.2.2.2.2.2.2,h3⟩,?_⟩,by simp[z0L,putB2,putB1,layF,z79,eL]⟩
 obtain⟨tok,op,id,txt,st,en,sta,mt,any,lo,hi,ru,ls,val⟩:=r;simp only[x0,mk116,mk117,mkI,mkIT,mkZ,mkR,mkLV,mkMt,ReM.mk.injEq]at *
 simp_all
theorem cls_8 {r:ReM} (hm:mayR r=true) (hs:ReSz r) (hf:(fOf r.op).1=8):((True)∧(mkZ r.op) ((fun r=>opC r.sta) r)=r)∧z0L 8 r=opC r.op::([opC r.sta]):=by
 have hok:=bd_ok hm;unfold mayR at hm;rw[hf]at hm;simp only[Bool.and_eq_true]at hm;obtain⟨_,hz,hr⟩:=hm;unfold zeroB at hz;unfold z0c at hr;simp only[hs_8,Bool.true_or,Bool.false_or,Bool.not_true,Bool.not_false,Bool.true_and,Bool.and_true,Bool.and_eq_true,z3B,z3C,z39,z42,z2b,z2n,beq_iff_eq,Prod.mk.injEq]at hz hr;obtain⟨op0,op1,id0,id1,htx,hst,hen,sta0,sta1,hmt,hru,hls⟩:=hok;obtain⟨h1,h2,h3,h4⟩:=hs;have hid:((r.id.toNat:Nat):Int)=r.id:=by omega
 have hsta:=z2m sta0 (by omega)
 have eL:z0Z r.mt=putL r.mt:=by unfold z0Z;rw[hmt];rfl
 rw[hf]at hru hls;refine⟨⟨trivial,?_⟩,by simp[z0L,putB2,putB1,layF,hs_8]⟩
 obtain⟨tok,op,id,txt,st,en,sta,mt,any,lo,hi,ru,ls,val⟩:=r;simp only[x0,mk116,mk117,mkI,mkIT,mkZ,mkR,mkLV,mkMt,ReM.mk.injEq]at *
 simp_all
theorem za1 {r:ReM} (hm:mayR r=true) (hs:ReSz r) (hf:(fOf r.op).1=128):((ruIs r.ru=true∧ruSz r.ru)∧(mkR r.op) ((fun r=>r.ru) r)=r)∧z0L 128 r=opC r.op::(putR r.ru):=by
 have hok:=bd_ok hm;unfold mayR at hm;rw[hf]at hm;simp only[Bool.and_eq_true]at hm;obtain⟨_,hz,hr⟩:=hm;unfold zeroB at hz;unfold z0c at hr;simp only[hs_128,Bool.true_or,Bool.false_or,Bool.not_true,Bool.not_false,Bool.true_and,Bool.and_true,Bool.and_eq_true,z3B,z3C,z39,z42,z2b,z2n,beq_iff_eq,Prod.mk.injEq]at hz hr;obtain⟨op0,op1,id0,id1,htx,hst,hen,sta0,sta1,hmt,hru,hls⟩:=hok;obtain⟨h1,h2,h3,h4⟩:=hs;have hid:((r.id.toNat:Nat):Int)=r.id:=by omega
 have hsta:=z2m sta0 (by omega)
 have eL:z0Z r.mt=putL r.mt:=by unfold z0Z;rw[hmt];rfl
 rw[hf]at hru hls;have eR:z1O r.ru=putR r.ru:=by unfold z1O;rw[hru hs_128.2.2.2.2.2.2.2.1];rfl
 refine⟨⟨⟨hru hs_128.2.2.2.2.2.2.2.1,h4⟩,?_⟩,by simp[z0L,putB2,putB1,layF,hs_128,eR]⟩
 obtain⟨tok,op,id,txt,st,en,sta,mt,any,lo,hi,ru,ls,val⟩:=r;simp only[x0,mk116,mk117,mkI,mkIT,mkZ,mkR,mkLV,mkMt,ReM.mk.injEq]at *
 simp_all
theorem za2 {r:ReM} (hm:mayR r=true) (hs:ReSz r) (hf:(fOf r.op).1=768):((setB r.ls=true∧(r.val<2^64∧bitsF r.val=r.val))∧(mkLV r.op) ((fun r=>(r.ls,r.val)) r)=r)∧z0L 768 r=opC r.op::(z40 r.ls++putV r.val):=by
 have hok:=bd_ok hm;unfold mayR at hm;rw[hf]at hm;simp only[Bool.and_eq_true]at hm;obtain⟨_,hz,hr⟩:=hm;unfold zeroB at hz;unfold z0c at hr;simp only[hs_768,Bool.true_or,Bool.false_or,Bool.not_true,Bool.not_false,Bool.true_and,Bool.and_true,Bool.and_eq_true,z3B,z3C,z39,z42,z2b,z2n,beq_iff_eq,Prod.mk.injEq]at hz hr;obtain⟨op0,op1,id0,id1,htx,hst,hen,sta0,sta1,hmt,hru,hls⟩:=hok;obtain⟨h1,h2,h3,h4⟩:=hs;have hid:((r.id.toNat:Nat):Int)=r.id:=by omega
 have hsta:=z2m sta0 (by omega)
 have eL:z0Z r.mt=putL r.mt:=by unfold z0Z;rw[hmt];rfl
 rw[hf]at hru hls;have eS:z2V r.ls=z40 r.ls:=by unfold z2V;rw[hls hs_768.2.2.2.2.2.2.2.2.1];rfl
 refine⟨⟨⟨hls hs_768.2.2.2.2.2.2.2.2.1,h2⟩,?_⟩,by simp[z0L,putB2,putB1,layF,hs_768,eS]⟩
 obtain⟨tok,op,id,txt,st,en,sta,mt,any,lo,hi,ru,ls,val⟩:=r;simp only[x0,mk116,mk117,mkI,mkIT,mkZ,mkR,mkLV,mkMt,ReM.mk.injEq]at *
 simp_all
theorem zdL {r:ReM} (hm:mayR r=true) (hs:ReSz r) (hf:(fOf r.op).1=16):((listB r.mt=true)∧(mkMt r.op) ((fun r=>r.mt) r)=r)∧z0L 16 r=opC r.op::(putL r.mt):=by
 have hok:=bd_ok hm;unfold mayR at hm;rw[hf]at hm;simp only[Bool.and_eq_true]at hm;obtain⟨_,hz,hr⟩:=hm;unfold zeroB at hz;unfold z0c at hr;simp only[hs_16,Bool.true_or,Bool.false_or,Bool.not_true,Bool.not_false,Bool.true_and,Bool.and_true,Bool.and_eq_true,z3B,z3C,z39,z42,z2b,z2n,beq_iff_eq,Prod.mk.injEq]at hz hr;obtain⟨op0,op1,id0,id1,htx,hst,hen,sta0,sta1,hmt,hru,hls⟩:=hok;obtain⟨h1,h2,h3,h4⟩:=hs;have hid:((r.id.toNat:Nat):Int)=r.id:=by omega
 have hsta:=z2m sta0 (by omega)
 have eL:z0Z r.mt=putL r.mt:=by unfold z0Z;rw[hmt];rfl
 rw[hf]at hru hls;refine⟨⟨hmt,?_⟩,by simp[z0L,putB2,putB1,layF,hs_16,eL]⟩
 obtain⟨tok,op,id,txt,st,en,sta,mt,any,lo,hi,ru,ls,val⟩:=r;simp only[x0,mk116,mk117,mkI,mkIT,mkZ,mkR,mkLV,mkMt,ReM.mk.injEq]at *
 simp_all
theorem zhn {op:Int} {r:ReM} (h:r=x0 op):ReSz r:=by
 subst h;have z:(0:Nat)<2^64:=by decide
 exact⟨rfl,⟨z,z1r⟩,⟨z,z⟩,⟨z,z⟩⟩
theorem zho {op:Int} {r:ReM} (h:(r.id.toNat≤2147483647)∧(mkI op) ((fun r=>r.id.toNat) r)=r):ReSz r:=⟨by rw[←h.2];rfl,(by rw[←h.2];exact(show(0:Nat)<2^64∧bitsF 0=0 from⟨by decide,z1r⟩)),(by rw[←h.2];show(0:Nat)<2^64∧(0:Nat)<2^64;decide),(by rw[←h.2];show(0:Nat)<2^64∧(0:Nat)<2^64;decide)⟩
theorem zhp {op:Int} {r:ReM} (h:(r.id.toNat≤2147483647∧r.txt.size≤16)∧(mkIT op) ((fun r=>(r.id.toNat,r.txt)) r)=r):ReSz r:=⟨by rw[←h.2];rfl,(by rw[←h.2];exact(show(0:Nat)<2^64∧bitsF 0=0 from⟨by decide,z1r⟩)),(by rw[←h.2];show(0:Nat)<2^64∧(0:Nat)<2^64;decide),(by rw[←h.2];show(0:Nat)<2^64∧(0:Nat)<2^64;decide)⟩
theorem zdM {op:Int} {r:ReM} (h:(r.st≤1099511627776∧r.en≤1099511627776∧listB r.mt=true∧(bMay (r.any,r.lo,r.hi)=true∧bSz (r.any,r.lo,r.hi)))∧(mk116 op) ((fun r=>(r.st,r.en,r.mt,r.any,r.lo,r.hi)) r)=r):ReSz r:=⟨by rw[←h.2];rfl,(by rw[←h.2];exact(show(0:Nat)<2^64∧bitsF 0=0 from⟨by decide,z1r⟩)),h.1.2.2.2.2,(by rw[←h.2];show(0:Nat)<2^64∧(0:Nat)<2^64;decide)⟩
theorem zdN {op:Int} {r:ReM} (h:(r.id.toNat≤2147483647∧r.st≤1099511627776∧r.en≤1099511627776∧listB r.mt=true∧(bMay (r.any,r.lo,r.hi)=true∧bSz (r.any,r.lo,r.hi)))∧(mk117 op) ((fun r=>(r.id.toNat,r.st,r.en,r.mt,r.any,r.lo,r.hi)) r)=r):ReSz r:=⟨by rw[←h.2];rfl,(by rw[←h.2];exact(show(0:Nat)<2^64∧bitsF 0=0 from⟨by decide,z1r⟩)),h.1.2.2.2.2.2,(by rw[←h.2];show(0:Nat)<2^64∧(0:Nat)<2^64;decide)⟩
theorem zhq {op:Int} {r:ReM} (h:(True)∧(mkZ op) ((fun r=>opC r.sta) r)=r):ReSz r:=⟨by rw[←h.2];rfl,(by rw[←h.2];exact(show(0:Nat)<2^64∧bitsF 0=0 from⟨by decide,z1r⟩)),(by rw[←h.2];show(0:Nat)<2^64∧(0:Nat)<2^64;decide),(by rw[←h.2];show(0:Nat)<2^64∧(0:Nat)<2^64;decide)⟩
theorem zdO {op:Int} {r:ReM} (h:(ruIs r.ru=true∧ruSz r.ru)∧(mkR op) ((fun r=>r.ru) r)=r):ReSz r:=⟨by rw[←h.2];rfl,(by rw[←h.2];exact(show(0:Nat)<2^64∧bitsF 0=0 from⟨by decide,z1r⟩)),(by rw[←h.2];show(0:Nat)<2^64∧(0:Nat)<2^64;decide),h.1.2⟩
theorem zdP {op:Int} {r:ReM} (h:(setB r.ls=true∧(r.val<2^64∧bitsF r.val=r.val))∧(mkLV op) ((fun r=>(r.ls,r.val)) r)=r):ReSz r:=⟨by rw[←h.2];rfl,h.1.2,(by rw[←h.2];show(0:Nat)<2^64∧(0:Nat)<2^64;decide),(by rw[←h.2];show(0:Nat)<2^64∧(0:Nat)<2^64;decide)⟩
theorem zfs {op:Int} {r:ReM} (h:(listB r.mt=true)∧(mkMt op) ((fun r=>r.mt) r)=r):ReSz r:=⟨by rw[←h.2];rfl,(by rw[←h.2];exact(show(0:Nat)<2^64∧bitsF 0=0 from⟨by decide,z1r⟩)),(by rw[←h.2];show(0:Nat)<2^64∧(0:Nat)<2^64;decide),(by rw[←h.2];show(0:Nat)<2^64∧(0:Nat)<2^64;decide)⟩
theorem zbQ {b:Byt} {x:ReM} {t:Byt} (h:bodyR b=some (x,t)):mayR x=true:=by
 cases b with
 |nil=>cases h
 |cons c u =>
  have h:onlyR (clR (fOf (c.toNat:Int)).1 (c.toNat:Int)) mayR u=some (x,t):=h;simp only[onlyR]at h
  cases h3:clR (fOf (c.toNat:Int)).1 (c.toNat:Int) u with
  |none=>simp[h3]at h
  |some y =>
   simp only[h3,Option.bind_some]at h;split at h
   · rename_i hm;simp only[Option.some.injEq]at h;subst h;exact hm
   · cases h
theorem zdQ:Fits bodyR z1V (fun r=>mayR r=true∧ReSz r) where
 fwd r t h:=by
  obtain⟨hm,hs⟩:=h;have hok:=bd_ok hm;have hc:z1V r=z0L (fOf r.op).1 r:=by unfold z1V;rw[hm];rfl
  have hop:=z2m hok.op0 hok.op1
  have fin:∀(f:Int) (w:Byt),(fOf r.op).1=f→z0L f r=opC r.op::w→clR f r.op (w++t)=some (r,t)→bodyR (z1V r++t)=some (r,t):=by
   intro f w hf hw hcl;rw[hc,hf,hw];show onlyR (clR (fOf (((opC r.op).toNat:Nat):Int)).1 (((opC r.op).toNat:Nat):Int)) mayR (w++t)=some (r,t);rw[hop,hf];simp only[onlyR,hcl,Option.bind_some,hm,if_true]
  have hmem:=z6p r.op;generalize hf:(fOf r.op).1=f at hmem;simp only[List.mem_cons,List.not_mem_nil,or_false]at hmem;rcases hmem with rfl|rfl|rfl|rfl|rfl|rfl|rfl|rfl|rfl
  · exact fin _ _ hf (cls_0 hm hs hf).2 ((fit_0 r.op).fwd r t (cls_0 hm hs hf).1)
  · exact fin _ _ hf (cls_1 hm hs hf).2 ((fit_1 r.op).fwd r t (cls_1 hm hs hf).1)
  · exact fin _ _ hf (cls_3 hm hs hf).2 ((fit_3 r.op).fwd r t (cls_3 hm hs hf).1)
  · exact fin _ _ hf (z9Z hm hs hf).2 ((zdH r.op).fwd r t (z9Z hm hs hf).1)
  · exact fin _ _ hf (za0 hm hs hf).2 ((zdI r.op).fwd r t (za0 hm hs hf).1)
  · exact fin _ _ hf (cls_8 hm hs hf).2 ((fit_8 r.op).fwd r t (cls_8 hm hs hf).1)
  · exact fin _ _ hf (za1 hm hs hf).2 ((zdJ r.op).fwd r t (za1 hm hs hf).1)
  · exact fin _ _ hf (za2 hm hs hf).2 ((zdK r.op).fwd r t (za2 hm hs hf).1)
  · exact fin _ _ hf (zdL hm hs hf).2 ((zgq r.op).fwd r t (zdL hm hs hf).1)
 bwd b r t h:=by
  have hm:=zbQ h
  cases b with
  |nil=>cases h
  |cons c u =>
   have h:onlyR (clR (fOf (c.toNat:Int)).1 (c.toNat:Int)) mayR u=some (r,t):=h
   have h3:clR (fOf (c.toNat:Int)).1 (c.toNat:Int) u=some (r,t):=by
    simp only[onlyR]at h
    cases h3:clR (fOf (c.toNat:Int)).1 (c.toNat:Int) u with
    |none=>simp[h3]at h
    |some y =>
     simp only[h3,Option.bind_some]at h;split at h
     · exact h
     · cases h
   have hop:=zgn h3;have hoc:opC r.op=c:=by rw[hop];exact zaW c
   have hc:z1V r=z0L (fOf r.op).1 r:=by unfold z1V;rw[hm];rfl
   rw[←hop]at h3
   have fin:∀(f:Int) (w:Byt),(fOf r.op).1=f→z0L f r=opC r.op::w→u=w++t→c::u=z1V r++t:=by
    intro f w hf hw hu;rw[hc,hf,hw,hoc,hu];rfl
   have hmem:=z6p r.op;generalize hf:(fOf r.op).1=f at hmem h3;simp only[List.mem_cons,List.not_mem_nil,or_false]at hmem;rcases hmem with rfl|rfl|rfl|rfl|rfl|rfl|rfl|rfl|rfl
   · have k:=(fit_0 r.op).bwd u r t h3;have s:=zhn k.1;exact⟨⟨hm,s⟩,fin _ _ hf (cls_0 hm s hf).2 k.2⟩
   · have k:=(fit_1 r.op).bwd u r t h3;have s:=zho k.1;exact⟨⟨hm,s⟩,fin _ _ hf (cls_1 hm s hf).2 k.2⟩
   · have k:=(fit_3 r.op).bwd u r t h3;have s:=zhp k.1;exact⟨⟨hm,s⟩,fin _ _ hf (cls_3 hm s hf).2 k.2⟩
   · have k:=(zdH r.op).bwd u r t h3;have s:=zdM k.1;exact⟨⟨hm,s⟩,fin _ _ hf (z9Z hm s hf).2 k.2⟩
   · have k:=(zdI r.op).bwd u r t h3;have s:=zdN k.1;exact⟨⟨hm,s⟩,fin _ _ hf (za0 hm s hf).2 k.2⟩
   · have k:=(fit_8 r.op).bwd u r t h3;have s:=zhq k.1;exact⟨⟨hm,s⟩,fin _ _ hf (cls_8 hm s hf).2 k.2⟩
   · have k:=(zdJ r.op).bwd u r t h3;have s:=zdO k.1;exact⟨⟨hm,s⟩,fin _ _ hf (za1 hm s hf).2 k.2⟩
   · have k:=(zdK r.op).bwd u r t h3;have s:=zdP k.1;exact⟨⟨hm,s⟩,fin _ _ hf (za2 hm s hf).2 k.2⟩
   · have k:=(zgq r.op).bwd u r t h3;have s:=zfs k.1;exact⟨⟨hm,s⟩,fin _ _ hf (zdL hm s hf).2 k.2⟩
structure RqSz (r:ReM):Prop where
 val:r.val<2^64∧bitsF r.val=r.val
 bd:r.lo<2^64∧r.hi<2^64
 ru:r.ru.lo<2^64∧r.ru.hi<2^64
def noTok (r:ReM):ReM:={ r with tok:=⟨#[]⟩ }
theorem zft (r:ReM) (s:ByteArray):mayR { r with tok:=s }=mayR r:=rfl
theorem req_fits:Fits reqR z20 (fun r=>reIs r=true∧RqSz r):=by
 refine dress_fits (z16 (z3k (z1B (most:=16) (by decide)) tokB) zdQ) (g:=fun r=>(r.tok,noTok r)) (fun a h=>?_) (fun r h=>?_)
 · obtain⟨s,x⟩:=a;obtain⟨⟨h1,h2⟩,hm,hs⟩:=h;have hi:reIs { x with tok:=s }=true:=by unfold reIs;rw[zft,hm];simp only[h2,Bool.and_self]
   refine⟨⟨hi,hs.val,hs.bd,hs.ru⟩,?_⟩;unfold z20;rw[if_pos hi];rfl
 · obtain⟨hi,hs⟩:=h;obtain⟨t1,t2,hm⟩:=z3Y hi;have ht:tokB r.tok=true:=by unfold reIs at hi;simp only[Bool.and_eq_true]at hi;exact hi.1
   exact⟨⟨⟨t1,ht⟩,hm,rfl,hs.val,hs.bd,hs.ru⟩,rfl⟩
def eqLb (x y:Lab):Bool:=x.1.toList==y.1.toList&&(x.2.toList==y.2.toList&&true)
def sameL (A B:List Lab):Bool:=decide (A.length=B.length)&&(List.range A.length).all fun i=>eqLb (A.getD i noLb) (B.getD i noLb)
theorem zbR (A:List Lab):sameL A A=true:=by simp[sameL,eqLb]
theorem zdR (σ:St) (A B:List Lab) (hA:A.length≤1000):Ans Tryz.prog 102 [.sl 2 (lvs A),.sl 2 (lvs B)] σ (Bo (sameL A B)) σ:=by
 refine Ans.of_run t102 ?_
 have e0:((A.length:Int) != B.length)= !decide (A.length=B.length):=by
  rw[Bool.eq_iff_iff];simp only[bne_iff_ne,Bool.not_eq_true',decide_eq_false_iff_not];omega
 unfold sameL;by_cases hl:A.length=B.length
 · rw[decide_eq_true hl,Bool.true_and];rw[decide_eq_true hl]at e0;simp -implicitDefEqProofs only[c102,r102,go_sem,z0k,e0];refine Go.Ab.L.scan A.length (fun i=>eqLb (A.getD i noLb) (B.getD i noLb)) (fun i=>mkE 26 [(0,.sl 2 (lvs A)),(1,.sl 2 (lvs B)),(5,I i)]) (fun _=>σ) ?_ ?_ rfl rfl
   · intro i hi hp J hJ;have hx:=lvs_D A i hi;have hy:=lvs_D B i (by omega)
     have hlB:((i:Int)<B.length)=True:=by simp;omega
     have hF:eqLb (A.getD i noLb) (B.getD i noLb)=false→((List.range A.length).all fun i=>eqLb (A.getD i noLb) (B.getD i noLb))=false:=fun h=>List.all_eq_false.2 ⟨i,List.mem_range.2 hi,by rw[h];decide⟩
     have hin:=wrap_succ (i:=i) (by omega)
     generalize A.getD i noLb=x at hx hJ hF;generalize B.getD i noLb=y at hy hJ hF;simp -implicitDefEqProofs only[mkE,go_sem,z00,z0k,z0f hi,dec_lt hi,hlB,hx,hy,Bool.true_xor]
     cases hb:eqLb x y with
     |true =>
      have hgo:=hJ hb;have hb':(x.1.toList==y.1.toList&&(x.2.toList==y.2.toList&&true))=true:=hb;simp only[Bool.and_true]at hb';simp -implicitDefEqProofs only[go_sem,hb',hin];exact hgo
     |false =>
      have hb':(x.1.toList==y.1.toList&&(x.2.toList==y.2.toList&&true))=false:=hb;simp only[Bool.and_true]at hb';rw[hF hb];simp -implicitDefEqProofs only[go_sem,hb'];exact Fini.ret rfl
   · intro hp J;have hd:decide ((A.length:Int)<A.length)=false:=by simp
     simp -implicitDefEqProofs only[mkE,go_sem,z0k,hd];refine Fini.ret' rfl (z0U ?_);exact(List.all_eq_true.2 fun i hi=>hp i (List.mem_range.1 hi)).symm
 · rw[decide_eq_false hl,Bool.false_and];rw[decide_eq_false hl]at e0;simp -implicitDefEqProofs only[c102,r102,go_sem,z0k,e0];exact Fini.ret rfl
def z2W (x y:ReM):Bool :=
 (x.tok.toList==y.tok.toList)&&((x.op==y.op)&&((x.id==y.id)&&((x.txt.toList==y.txt.toList)&&(((x.st:Int)==(y.st:Int))&&(((x.en:Int)==(y.en:Int))&&((x.sta==y.sta)&&(sameM x.mt y.mt&&(z41 (x.any,x.lo,x.hi) (y.any,y.lo,y.hi)&&(z5b x.ru y.ru&&(sameL x.ls y.ls&&eqBf x.val y.val))))))))))
theorem z6t (x:ReM):z2W x x=true:=by simp[z2W,z75,z6o,z9V,zbR,eqBf]
set_option maxHeartbeats 4000000 in
theorem z7b (σ:St) (x y:ReM) (h1:x.mt.length≤1000) (h2:x.ru.src.length≤1000) (h3:x.ru.tgt.length≤1000) (h4:x.ru.eq.length≤100000) (h5:x.ls.length≤1000):Ans Tryz.prog 42 [reV x,reV y] σ (Bo (z2W x y)) σ:=by
 have i1:=fun s=>z6m s x.mt y.mt h1
 have i2:=fun s=>z5c s (x.any,x.lo,x.hi) (y.any,y.lo,y.hi)
 have i3:=fun s=>zdo s x.ru y.ru h2 h3 h4
 have i4:=fun s=>zdR s x.ls y.ls h5
 have i5:=fun s=>z0D s x.val
 have i6:=fun s=>z0D s y.val
 unfold bandV at i2;unfold ruV at i3;refine Ans.of_run t42 ?_;unfold reV reC z2W eqBf
 cases a0:(x.tok.toList==y.tok.toList) with
 |false =>
  simp -implicitDefEqProofs only[c42,r42,go_sem,z00,a0];exact Fini.ret rfl
 |true =>
 cases a1:(x.op==y.op) with
 |false =>
  simp -implicitDefEqProofs only[c42,r42,go_sem,z00,a0,a1];exact Fini.ret rfl
 |true =>
 cases a2:(x.id==y.id) with
 |false =>
  simp -implicitDefEqProofs only[c42,r42,go_sem,z00,a0,a1,a2];exact Fini.ret rfl
 |true =>
 cases a3:(x.txt.toList==y.txt.toList) with
 |false =>
  simp -implicitDefEqProofs only[c42,r42,go_sem,z00,a0,a1,a2,a3];exact Fini.ret rfl
 |true =>
 cases a4:((x.st:Int)==(y.st:Int)) with
 |false =>
  simp -implicitDefEqProofs only[c42,r42,go_sem,z00,a0,a1,a2,a3,a4];exact Fini.ret rfl
 |true =>
 cases a5:((x.en:Int)==(y.en:Int)) with
 |false =>
  simp -implicitDefEqProofs only[c42,r42,go_sem,z00,a0,a1,a2,a3,a4,a5];exact Fini.ret rfl
 |true =>
 cases a6:(x.sta==y.sta) with
 |false =>
  simp -implicitDefEqProofs only[c42,r42,go_sem,z00,a0,a1,a2,a3,a4,a5,a6];exact Fini.ret rfl
 |true =>
 simp -implicitDefEqProofs only[c42,r42,go_sem,z00,a0,a1,a2,a3,a4,a5,a6]
 first|refine CD.intro (i1 _) ?_|refine CS.intro i1 ?_
 cases sameM x.mt y.mt with
 |false =>
  simp -implicitDefEqProofs only[go_sem,z00];exact Fini.ret rfl
 |true =>
 simp -implicitDefEqProofs only[go_sem,z00]
 first|refine CD.intro (i2 _) ?_|refine CS.intro i2 ?_
 cases z41 (x.any,x.lo,x.hi) (y.any,y.lo,y.hi) with
 |false =>
  simp -implicitDefEqProofs only[go_sem,z00];exact Fini.ret rfl
 |true =>
 simp -implicitDefEqProofs only[go_sem,z00]
 first|refine CD.intro (i3 _) ?_|refine CS.intro i3 ?_
 cases z5b x.ru y.ru with
 |false =>
  simp -implicitDefEqProofs only[go_sem,z00];exact Fini.ret rfl
 |true =>
 simp -implicitDefEqProofs only[go_sem,z00]
 first|refine CD.intro (i4 _) ?_|refine CS.intro i4 ?_
 cases sameL x.ls y.ls with
 |false =>
  simp -implicitDefEqProofs only[go_sem,z00];exact Fini.ret rfl
 |true =>
 simp -implicitDefEqProofs only[go_sem,z00]
 first|refine CD.intro (i5 _) ?_|refine CS.intro i5 ?_
 simp -implicitDefEqProofs only[go_sem,z00]
 first|refine CD.intro (i6 _) ?_|refine CS.intro i6 ?_
 simp -implicitDefEqProofs only[go_sem,z00];exact Fini.ret rfl
theorem zfu:bitsF 9221120237041090561=9221120237041090561:=by decide +kernel
theorem z4H (v:Nat):bitsF (bitsF v)=bitsF v:=by
 cases h:nanF v with
 |true =>
  have e:bitsF v=9221120237041090561:=by unfold bitsF;rw[if_pos h]
  rw[e,zfu]
 |false =>
  have e:bitsF v=v:=by unfold bitsF;rw[h];rfl
  rw[e,e]
theorem zhr {v:Nat} (h:v<2^64):bitsF v<2^64:=by
 unfold bitsF;split
 · decide
 · exact h
def z2v (r:ReM):ReM:={ r with val:=bitsF r.val }
theorem z95 (r:ReM):mayR (z2v r)=mayR r:=by
 have hz:zF (bitsF r.val)=zF r.val:=by unfold zF;rw[z4H]
 unfold mayR zeroB z0c z2v;simp only[hz]
theorem zaX (r:ReM):reIs (z2v r)=reIs r:=by
 unfold reIs;rw[z95];rfl
theorem zbS (r:ReM):z1V (z2v r)=z1V r:=by
 have hp:putV (bitsF r.val)=putV r.val:=by unfold putV;rw[z4H]
 unfold z1V;rw[z95];unfold z0L putB2 putB1 z2v;simp only[hp]
theorem z3D (r:ReM):z20 (z2v r)=z20 r:=by
 unfold z20;rw[zaX,zbS];rfl
structure SzA (r:ReM):Prop where
 val:r.val<2^64
 bd:r.lo<2^64∧r.hi<2^64
 ru:r.ru.lo<2^64∧r.ru.hi<2^64
theorem zaY {r:ReM} (hi:reIs r=true) (hs:SzA r):reIs (z2v r)=true∧RqSz (z2v r) :=
 ⟨by rw[zaX];exact hi,⟨zhr hs.val,z4H _⟩,hs.bd,hs.ru⟩
theorem zhs {b:Byt} {x:ReM} {t:Byt} (h:reqR b=some (x,t)):b=z20 x++t∧reIs x=true∧RqSz x:=by
 have:=req_fits.bwd b x t h;exact⟨this.2,this.1.1,this.1.2⟩
theorem RqSz.a {x:ReM} (h:RqSz x):SzA x:=⟨h.val.1,h.bd,h.ru⟩
theorem z96 {r:ReM} (h:mayR r=true):bMay (r.any,r.lo,r.hi)=true∧bMay (r.ru.any,r.ru.lo,r.ru.hi)=true:=by
 have z:bMay (false,0,0)=true:=by decide +kernel
 unfold mayR zeroB z0c at h;generalize (fOf r.op).1=f at h;simp only[Bool.and_eq_true]at h;obtain⟨_,⟨_,_,_,_,_,z6,z7,_,_⟩,_,_,_,_,_,_,_,r8,r9,_⟩:=h;constructor
 · cases h64:hasF f 64 with
   |true=>rw[h64]at r8;exact r8
   |false =>
    rw[h64]at z6;have:=(z2b (r.any,r.lo,r.hi)).1 z6;rw[this];exact z
 · cases h128:hasF f 128 with
   |true=>rw[h128]at r9;exact(z1A (show ruIs r.ru=true from r9)).2.2.1
   |false =>
    rw[h128]at z7;have:=(z2n r.ru).1 z7;rw[this];exact z
theorem zfv {x y:RuM} (hx:bMay (x.any,x.lo,x.hi)=true) (wx:ruSz x) (hy:bMay (y.any,y.lo,y.hi)=true) (wy:ruSz y) (h:z5b x y=true):x=y:=by
 unfold z5b at h;simp only[Bool.and_eq_true,decide_eq_true_eq]at h;obtain⟨h1,h2,h3,h4,h5⟩:=h;have e1:=z7K h2;have e2:=z7K h3;have e3:=z8U hx wx hy wy h4;have e4:=zha h1 h5;obtain⟨a,b,c,d,e,f⟩:=x;obtain⟨a',b',c',d',e',f'⟩:=y;simp only[Prod.mk.injEq]at e1 e2 e3 e4;obtain⟨rfl,rfl,rfl⟩:=e3;rw[e1,e2,e4]
theorem sameL_eq {A B:List Lab} (h:sameL A B=true):A=B:=by
 unfold sameL at h;simp only[Bool.and_eq_true,decide_eq_true_eq]at h;refine zdp (z:=noLb) h.1 fun i hi=>?_
 have:=List.all_eq_true.1 h.2 i (List.mem_range.2 hi);unfold eqLb at this;simp only[Bool.and_eq_true,beq_iff_eq,and_true]at this;exact Prod.ext (toList_inj this.1) (toList_inj this.2)
theorem zbT {x y:ReM} (hx:mayR x=true) (wx:SzA x) (hy:mayR y=true) (wy:SzA y) (h:z2W x y=true):z2v x=z2v y:=by
 unfold z2W eqBf at h;simp only[Bool.and_eq_true,beq_iff_eq]at h;obtain⟨h1,h2,h3,h4,h5,h6,h7,h8,h9,h10,h11,h12⟩:=h;have b1:=z96 hx;have b2:=z96 hy;have e1:=toList_inj h1;have e4:=toList_inj h4;have e8:=z7K h8;have e9:=z8U b1.1 wx.bd b2.1 wy.bd h9;have e10:=zfv b1.2 wx.ru b2.2 wy.ru h10;have e11:=sameL_eq h11;unfold z2v;obtain⟨a0,a1,a2,a3,a4,a5,a6,a7,a8,a9,aa,ab,ac,ad⟩:=x;obtain⟨c0,c1,c2,c3,c4,c5,c6,c7,c8,c9,ca,cb,cc,cd⟩:=y;simp only[Prod.mk.injEq]at e1 h2 h3 e4 h5 h6 h7 e8 e9 e10 e11 h12;obtain⟨rfl,rfl,rfl⟩:=e9;have:=Int.ofNat.inj h5;have:=Int.ofNat.inj h6;have:=Int.ofNat.inj h12;subst e1 h2 h3 e4 h7 e8 e10 e11
 simp_all
theorem z7P {x y:ReM} (h:z2v x=z2v y):z2W x y=true:=by
 have e:z2W x y=z2W (z2v x) (z2v y):=by
  unfold z2W eqBf z2v;simp only[z4H]
 rw[e,h,z6t]
theorem zbU {x y:ReM} (hx:reIs x=true) (wx:SzA x) (hy:reIs y=true) (wy:SzA y):z2W x y=decide (z20 x=z20 y):=by
 rw[Bool.eq_iff_iff,decide_eq_true_eq];constructor
 · intro h;have:=zbT (z3Y hx).2.2 wx (z3Y hy).2.2 wy h;rw[←z3D x,this,z3D]
 · intro h;rw[←z3D x,←z3D y]at h;exact z7P (req_fits.apart (zaY hx wx) (zaY hy wy) h)
end Go.Proofs.YtmkmhhjkdaklbaaGreat
namespace Go.Proofs.YtmkmhhjkdaklbaaGreat
open Go Go.Ab Go.Cod Go.ChangeShapes Go.WideShapes Go.ChangeAt Go.RowKit
set_option maxRecDepth 100000
structure ActSz (a:AcM):Prop where
 val:a.val<2^64
 bd:a.lo<2^64∧a.hi<2^64
 ru:a.ru.lo<2^64∧a.ru.hi<2^64
theorem z97 {sel:Int} {lo hi:Nat} (h1:lo<2^64) (h2:hi<2^64):(z0H sel lo hi).2.1<2^64∧(z0H sel lo hi).2.2<2^64:=by
 unfold z0H;split
 · exact⟨by decide,by decide⟩
 · split
   · exact⟨h2,h1⟩
   · exact⟨h1,h2⟩
theorem zdS {a:AcM} (h:ActSz a):SzA (z07 a):=by
 have hb:=z97 (sel:=a.sel) h.bd.1 h.bd.2;have hr:ruSz (z38 a.ru):=zfe h.ru.1 h.ru.2;have z:(0:Nat)<2^64:=by decide
 unfold z07;simp only
 repeat' split
 all_goals first
  |exact⟨z,⟨z,z⟩,⟨z,z⟩⟩
  |exact⟨z,hb,⟨z,z⟩⟩
  |exact⟨z,⟨z,z⟩,hr⟩
  |exact⟨h.val,⟨z,z⟩,⟨z,z⟩⟩
theorem wf64i {n:Int} (h:(Lit.int .u64 n).wf=true):0≤n∧n<18446744073709551616:=by
 simp[Lit.wf,IntKind.min,IntKind.max,IntKind.bits,IntKind.signed]at h;omega
def QBytA:List AV→Prop:=fun xs=>∃b:Byt,xs=[.sl 1 (byv b)]
theorem zbV (f:Nat):Reads Tryz.prog 29 f QBytA:=by
 cases f with
 |zero=>exact Reads.zero
 |succ f =>
  refine((Reads.slice (sz:=1) false Tryz.underlying29 (by kernel_rfl) (by decide) (Reads.int Tryz.underlying5 f) (fun y hy _=>by obtain⟨n,_,rfl⟩:=hy;rfl)).weak QSlice.weak).mono fun xs hq=>?_
  obtain⟨ys,h1,h2,rfl⟩:=hq;obtain⟨b,e⟩:=zdm h1;exact⟨b,by rw[e]⟩
def QAct:List AV→Prop:=fun xs=>∃a:AcM,ActSz a∧xs=acC a
theorem zdT (f:Nat):Reads Tryz.prog 56 f QAct:=by
 cases f with
 |zero=>exact Reads.zero
 |succ f =>
  have h:=Reads.struct (P:=Tryz.prog) (t:=56) (f:=f) (Qs:=[QInt .i64,QInt .i64,QInt .i64,QInt .i64,QInt .u64,QInt .u64,QMats,QInts,z9W,QDRuW,z7J,QBytA]) Tryz.underlying56 (by kernel_rfl) rfl (by
   intro p hp;simp only[List.zip_cons_cons,List.zip_nil_right,List.mem_cons,List.not_mem_nil,or_false]at hp;rcases hp with rfl|rfl|rfl|rfl|rfl|rfl|rfl|rfl|rfl|rfl|rfl|rfl
   · exact Reads.int Tryz.underlying3 f
   · exact Reads.int Tryz.underlying3 f
   · exact Reads.int Tryz.underlying3 f
   · exact Reads.int Tryz.underlying3 f
   · exact Reads.int Tryz.underlying45 f
   · exact Reads.int Tryz.underlying45 f
   · exact z4X f
   · exact z74 f
   · exact z5d f
   · exact z8V f
   · exact Reads.floatW Tryz.underlying23 f
   · exact zbV f)
  refine h.mono fun xs hq=>?_
  obtain⟨_,_,rfl,⟨what,_,rfl⟩,_,_,rfl,⟨who,_,rfl⟩,_,_,rfl,⟨id,_,rfl⟩,_,_,rfl,⟨sta,_,rfl⟩,_,_,rfl,⟨st,hst,rfl⟩,_,_,rfl,⟨en,hen,rfl⟩,
   _,_,rfl,⟨ds,hd,rfl⟩,_,_,rfl,⟨ns,rfl⟩,_,_,rfl,⟨sel,lo,hi,h1,h2,rfl⟩,_,_,rfl,⟨ru,h3,h4,rfl⟩,_,_,rfl,⟨val,hv,rfl⟩,_,_,rfl,⟨raw,rfl⟩,rfl⟩:=hq
  obtain⟨a1,a2⟩:=wf64i hst;obtain⟨b1,b2⟩:=wf64i hen;obtain⟨n,rfl⟩:=Int.eq_ofNat_of_zero_le a1;obtain⟨m,rfl⟩:=Int.eq_ofNat_of_zero_le b1;exact⟨⟨what,who,id,sta,n,m,ds,ns,sel,lo,hi,ru,val,raw,hd,by omega,by omega⟩,⟨hv,⟨h1,h2⟩,⟨h3,h4⟩⟩,rfl⟩
theorem zht {H:Type} {enc:TypeId×Value→H} {W:World} {base:Nat} {v:Value} {d:DataW H} {ps:List MemPlace} (hv:Value.okWide Tryz.prog W .any base 56 v)
  (h:DataW.Trod enc Tryz.prog W 0 (fun _=>true) true 56 v d ps):∃a:AcM,ActSz a∧Rep noM noR W (acV a) v:=by
 obtain⟨cs,rfl,_⟩:=okWide_struct Tryz.underlying56 hv;obtain⟨xs,h1,r,h2,rfl⟩:=Reads.argS zdT h;exact⟨r,h2,h1⟩
end Go.Proofs.YtmkmhhjkdaklbaaGreat
namespace Go.Proofs.YtmkmhhjkdaklbaaGreat
open Go Go.Ab Go.Cod
set_option maxRecDepth 100000
structure ReSm (r:ReM):Prop where
 mt:∀x∈r.mt,x.2.1.size≤100000
 ru:RSm r.ru
 ls:∀x∈r.ls,x.1.size≤100000
def docB (r:ReM) (s:ByteArray):Bool :=
 (hasC s 73||r.id==0)&&(decide (0≤r.id)&&(decide (r.id≤2147483647)&&((!hasC s 84||tokB r.txt)&&((hasC s 84||emS r.txt)&&((hasC s 83||emU r.st)&&((hasC s 83||emU r.en)&&(clkB r.st&&(clkB r.en&&((hasC s 90||r.sta==0)&&(decide (0≤r.sta)&&(decide (r.sta≤3)&&((hasC s 77||emI r.mt.length)&&((!hasC s 83|| !emI r.mt.length)&&(listB r.mt&&((hasC s 66||noBd (r.any,r.lo,r.hi))&&(mayB r.any r.lo r.hi&&((!hasC s 82||ruIs r.ru)&&((hasC s 82||noRl r.ru)&&(if hasC s 76 then setB r.ls else emI r.ls.length&&zF r.val)))))))))))))))))))
theorem ne_of {x:Int} {v:Bool} (h:(x==0)=v):(x != 0)= !v:=by rw[bne,h]
theorem lt_of {x:Int} {v:Bool} (h:decide (0≤x)=v):decide (x<0)= !v:=by
 rw[←h,Bool.eq_iff_iff];simp
theorem gt_of {x c:Int} {v:Bool} (h:decide (x≤c)=v):decide (c<x)= !v:=by
 rw[←h,Bool.eq_iff_iff];simp
abbrev S0:ByteArray:=⟨#[45]⟩
theorem hc_0:hasC S0 73=false∧hasC S0 84=false∧hasC S0 83=false∧hasC S0 90=false∧hasC S0 77=false∧hasC S0 66=false∧hasC S0 82=false∧hasC S0 76=false:=by decide +kernel
theorem hn_0:(S0.toList==(⟨#[]⟩:ByteArray).toList)=false:=by decide +kernel
abbrev S1:ByteArray:=⟨#[73]⟩
theorem hc_1:hasC S1 73=true∧hasC S1 84=false∧hasC S1 83=false∧hasC S1 90=false∧hasC S1 77=false∧hasC S1 66=false∧hasC S1 82=false∧hasC S1 76=false:=by decide +kernel
theorem hn_1:(S1.toList==(⟨#[]⟩:ByteArray).toList)=false:=by decide +kernel
abbrev S3:ByteArray:=⟨#[73,84]⟩
theorem hc_3:hasC S3 73=true∧hasC S3 84=true∧hasC S3 83=false∧hasC S3 90=false∧hasC S3 77=false∧hasC S3 66=false∧hasC S3 82=false∧hasC S3 76=false:=by decide +kernel
theorem hn_3:(S3.toList==(⟨#[]⟩:ByteArray).toList)=false:=by decide +kernel
abbrev S116:ByteArray:=⟨#[83,69,77,66]⟩
theorem zdU:hasC S116 73=false∧hasC S116 84=false∧hasC S116 83=true∧hasC S116 90=false∧hasC S116 77=true∧hasC S116 66=true∧hasC S116 82=false∧hasC S116 76=false:=by decide +kernel
theorem ziE:(S116.toList==(⟨#[]⟩:ByteArray).toList)=false:=by decide +kernel
abbrev S117:ByteArray:=⟨#[73,83,69,77,66]⟩
theorem zdV:hasC S117 73=true∧hasC S117 84=false∧hasC S117 83=true∧hasC S117 90=false∧hasC S117 77=true∧hasC S117 66=true∧hasC S117 82=false∧hasC S117 76=false:=by decide +kernel
theorem ziF:(S117.toList==(⟨#[]⟩:ByteArray).toList)=false:=by decide +kernel
abbrev S8:ByteArray:=⟨#[90]⟩
theorem hc_8:hasC S8 73=false∧hasC S8 84=false∧hasC S8 83=false∧hasC S8 90=true∧hasC S8 77=false∧hasC S8 66=false∧hasC S8 82=false∧hasC S8 76=false:=by decide +kernel
theorem hn_8:(S8.toList==(⟨#[]⟩:ByteArray).toList)=false:=by decide +kernel
abbrev S128:ByteArray:=⟨#[82]⟩
theorem zdW:hasC S128 73=false∧hasC S128 84=false∧hasC S128 83=false∧hasC S128 90=false∧hasC S128 77=false∧hasC S128 66=false∧hasC S128 82=true∧hasC S128 76=false:=by decide +kernel
theorem ziG:(S128.toList==(⟨#[]⟩:ByteArray).toList)=false:=by decide +kernel
abbrev S768:ByteArray:=⟨#[76,86]⟩
theorem zdX:hasC S768 73=false∧hasC S768 84=false∧hasC S768 83=false∧hasC S768 90=false∧hasC S768 77=false∧hasC S768 66=false∧hasC S768 82=false∧hasC S768 76=true:=by decide +kernel
theorem ziH:(S768.toList==(⟨#[]⟩:ByteArray).toList)=false:=by decide +kernel
abbrev S16:ByteArray:=⟨#[77]⟩
theorem hc_16:hasC S16 73=false∧hasC S16 84=false∧hasC S16 83=false∧hasC S16 90=false∧hasC S16 77=true∧hasC S16 66=false∧hasC S16 82=false∧hasC S16 76=false:=by decide +kernel
theorem hn_16:(S16.toList==(⟨#[]⟩:ByteArray).toList)=false:=by decide +kernel
attribute [go_sem] Bool.not_false Bool.not_true hn_0 hn_1 hn_3 ziE ziF hn_8 ziG ziH hn_16
section
variable (σ:St)
set_option maxHeartbeats 8000000 in
theorem z5s (r:ReM) (hr:ReSm r) (hd:dOf r.op=S0):Ans Tryz.prog 89 [reV r] σ (Bo (docB r S0)) σ:=by
 obtain⟨tok,op,id,txt,st,en,sta,mt,any,lo,hi,⟨src,tgt,ra,rl,rh,eq⟩,ls,val⟩:=r;obtain⟨hm,hru,hls⟩:=hr;simp only at hm hru hls hd;have k1:=z0r σ op;rw[hd]at k1;have ii:=fun c h=>z2y σ S0 c h
 have i73:=ii 73 (by decide)
 have i84:=ii 84 (by decide)
 have i83:=ii 83 (by decide)
 have i90:=ii 90 (by decide)
 have i77:=ii 77 (by decide)
 have i66:=ii 66 (by decide)
 have i82:=ii 82 (by decide)
 have i76:=ii 76 (by decide)
 simp only[hc_0]at i73 i84 i83 i90 i77 i66 i82 i76;have b0:=z2k σ txt;have b1:=z1o σ mt hm;have b2:=z1v σ (any,lo,hi);have b3:=z29 σ any lo hi;have b4:=z1U σ ⟨src,tgt,ra,rl,rh,eq⟩ hru;have b5:=z1K σ ⟨src,tgt,ra,rl,rh,eq⟩;have b6:=z2l σ ls hls;have b7:=z0D σ val;unfold bandV at b2;unfold ruV at b4 b5;unfold docB;simp only[hc_0,Bool.true_or,Bool.false_or,Bool.not_true,Bool.not_false,Bool.true_and,if_true,Bool.false_eq_true,if_false];refine Ans.of_run t89 ?_;unfold reV reC;simp -implicitDefEqProofs only[c89,r89,go_sem];refine CO.intro k1 ?_;simp -implicitDefEqProofs only[go_sem];refine CO.intro i73 ?_
 cases h0:(id==0) with
 |false =>
  have fh00:=ne_of h0;simp -implicitDefEqProofs only[go_sem,h0,fh00];exact Fini.ret rfl
 |true =>
 have fh00:=ne_of h0
 cases h1:(decide (0≤id)) with
 |false =>
  have fh10:=lt_of h1;simp -implicitDefEqProofs only[go_sem,h0,fh00,h1,fh10];exact Fini.ret rfl
 |true =>
 have fh10:=lt_of h1
 cases h2:(decide (id≤2147483647)) with
 |false =>
  have fh20:=gt_of h2;simp -implicitDefEqProofs only[go_sem,h0,fh00,h1,fh10,h2,fh20];exact Fini.ret rfl
 |true =>
 have fh20:=gt_of h2;simp -implicitDefEqProofs only[go_sem,h0,fh00,h1,fh10,h2,fh20];refine CO.intro i84 ?_;simp -implicitDefEqProofs only[go_sem];refine CO.intro i84 ?_;unfold emS
 cases h3:(txt.toList==(⟨#[]⟩:ByteArray).toList) with
 |false =>
  simp -implicitDefEqProofs only[go_sem,h3];exact Fini.ret rfl
 |true =>
 simp -implicitDefEqProofs only[go_sem,h3];refine CO.intro i83 ?_;unfold emU
 cases h4:(((st:Nat):Int)==0) with
 |false =>
  have fh40:=ne_of h4;simp -implicitDefEqProofs only[go_sem,h4,fh40];exact Fini.ret rfl
 |true =>
 have fh40:=ne_of h4
 cases h5:(((en:Nat):Int)==0) with
 |false =>
  have fh50:=ne_of h5;simp -implicitDefEqProofs only[go_sem,h4,fh40,h5,fh50];exact Fini.ret rfl
 |true =>
 have fh50:=ne_of h5;unfold clkB
 cases h6:(decide (((st:Nat):Int)≤1099511627776)) with
 |false =>
  have fh60:=gt_of h6;simp -implicitDefEqProofs only[go_sem,h4,fh40,h5,fh50,h6,fh60];exact Fini.ret rfl
 |true =>
 have fh60:=gt_of h6
 cases h7:(decide (((en:Nat):Int)≤1099511627776)) with
 |false =>
  have fh70:=gt_of h7;simp -implicitDefEqProofs only[go_sem,h4,fh40,h5,fh50,h6,fh60,h7,fh70];exact Fini.ret rfl
 |true =>
 have fh70:=gt_of h7;simp -implicitDefEqProofs only[go_sem,h4,fh40,h5,fh50,h6,fh60,h7,fh70];refine CO.intro i90 ?_
 cases h8:(sta==0) with
 |false =>
  have fh80:=ne_of h8;simp -implicitDefEqProofs only[go_sem,h8,fh80];exact Fini.ret rfl
 |true =>
 have fh80:=ne_of h8
 cases h9:(decide (0≤sta)) with
 |false =>
  have fh90:=lt_of h9;simp -implicitDefEqProofs only[go_sem,h8,fh80,h9,fh90];exact Fini.ret rfl
 |true =>
 have fh90:=lt_of h9
 cases h10:(decide (sta≤3)) with
 |false =>
  have fh100:=gt_of h10;simp -implicitDefEqProofs only[go_sem,h8,fh80,h9,fh90,h10,fh100];exact Fini.ret rfl
 |true =>
 have fh100:=gt_of h10;simp -implicitDefEqProofs only[go_sem,h8,fh80,h9,fh90,h10,fh100];refine CO.intro i77 ?_;have hl:=z5e mt.length
 cases hm0:(emI mt.length) with
 |false =>
  rw[hm0]at hl;simp -implicitDefEqProofs only[go_sem,hl];exact Fini.ret rfl
 |true =>
 rw[hm0]at hl;simp -implicitDefEqProofs only[go_sem,hl];refine CO.intro i83 ?_;simp -implicitDefEqProofs only[go_sem];refine CO.intro b1 ?_
 cases h11:(listB mt) with
 |false =>
  simp -implicitDefEqProofs only[go_sem];exact Fini.ret rfl
 |true =>
 simp -implicitDefEqProofs only[go_sem];refine CO.intro i66 ?_;simp -implicitDefEqProofs only[go_sem];refine CO.intro b2 ?_
 cases h12:(noBd (any,lo,hi)) with
 |false =>
  simp -implicitDefEqProofs only[go_sem];exact Fini.ret rfl
 |true =>
 simp -implicitDefEqProofs only[go_sem];refine CO.intro b3 ?_
 cases h13:(mayB any lo hi) with
 |false =>
  simp -implicitDefEqProofs only[go_sem];exact Fini.ret rfl
 |true =>
 simp -implicitDefEqProofs only[go_sem];refine CO.intro i82 ?_;simp -implicitDefEqProofs only[go_sem];refine CO.intro i82 ?_;simp -implicitDefEqProofs only[go_sem];refine CO.intro b5 ?_
 cases h14:(noRl ⟨src,tgt,ra,rl,rh,eq⟩) with
 |false =>
  simp -implicitDefEqProofs only[go_sem];exact Fini.ret rfl
 |true =>
 simp -implicitDefEqProofs only[go_sem];refine CO.intro i76 ?_;unfold emI zF
 cases h15:(((ls.length:Nat):Int)==0) with
 |false =>
  simp -implicitDefEqProofs only[go_sem,h15];exact Fini.ret rfl
 |true =>
 simp -implicitDefEqProofs only[go_sem,h15];refine CO.intro b7 ?_;simp -implicitDefEqProofs only[go_sem];exact Fini.ret rfl
set_option maxHeartbeats 8000000 in
theorem z4I (r:ReM) (hr:ReSm r) (hd:dOf r.op=S1):Ans Tryz.prog 89 [reV r] σ (Bo (docB r S1)) σ:=by
 obtain⟨tok,op,id,txt,st,en,sta,mt,any,lo,hi,⟨src,tgt,ra,rl,rh,eq⟩,ls,val⟩:=r;obtain⟨hm,hru,hls⟩:=hr;simp only at hm hru hls hd;have k1:=z0r σ op;rw[hd]at k1;have ii:=fun c h=>z2y σ S1 c h
 have i73:=ii 73 (by decide)
 have i84:=ii 84 (by decide)
 have i83:=ii 83 (by decide)
 have i90:=ii 90 (by decide)
 have i77:=ii 77 (by decide)
 have i66:=ii 66 (by decide)
 have i82:=ii 82 (by decide)
 have i76:=ii 76 (by decide)
 simp only[hc_1]at i73 i84 i83 i90 i77 i66 i82 i76;have b0:=z2k σ txt;have b1:=z1o σ mt hm;have b2:=z1v σ (any,lo,hi);have b3:=z29 σ any lo hi;have b4:=z1U σ ⟨src,tgt,ra,rl,rh,eq⟩ hru;have b5:=z1K σ ⟨src,tgt,ra,rl,rh,eq⟩;have b6:=z2l σ ls hls;have b7:=z0D σ val;unfold bandV at b2;unfold ruV at b4 b5;unfold docB;simp only[hc_1,Bool.true_or,Bool.false_or,Bool.not_true,Bool.not_false,Bool.true_and,if_true,Bool.false_eq_true,if_false];refine Ans.of_run t89 ?_;unfold reV reC;simp -implicitDefEqProofs only[c89,r89,go_sem];refine CO.intro k1 ?_;simp -implicitDefEqProofs only[go_sem];refine CO.intro i73 ?_
 cases h0:(decide (0≤id)) with
 |false =>
  have fh00:=lt_of h0;simp -implicitDefEqProofs only[go_sem,h0,fh00];exact Fini.ret rfl
 |true =>
 have fh00:=lt_of h0
 cases h1:(decide (id≤2147483647)) with
 |false =>
  have fh10:=gt_of h1;simp -implicitDefEqProofs only[go_sem,h0,fh00,h1,fh10];exact Fini.ret rfl
 |true =>
 have fh10:=gt_of h1;simp -implicitDefEqProofs only[go_sem,h0,fh00,h1,fh10];refine CO.intro i84 ?_;simp -implicitDefEqProofs only[go_sem];refine CO.intro i84 ?_;unfold emS
 cases h2:(txt.toList==(⟨#[]⟩:ByteArray).toList) with
 |false =>
  simp -implicitDefEqProofs only[go_sem,h2];exact Fini.ret rfl
 |true =>
 simp -implicitDefEqProofs only[go_sem,h2];refine CO.intro i83 ?_;unfold emU
 cases h3:(((st:Nat):Int)==0) with
 |false =>
  have fh30:=ne_of h3;simp -implicitDefEqProofs only[go_sem,h3,fh30];exact Fini.ret rfl
 |true =>
 have fh30:=ne_of h3
 cases h4:(((en:Nat):Int)==0) with
 |false =>
  have fh40:=ne_of h4;simp -implicitDefEqProofs only[go_sem,h3,fh30,h4,fh40];exact Fini.ret rfl
 |true =>
 have fh40:=ne_of h4;unfold clkB
 cases h5:(decide (((st:Nat):Int)≤1099511627776)) with
 |false =>
  have fh50:=gt_of h5;simp -implicitDefEqProofs only[go_sem,h3,fh30,h4,fh40,h5,fh50];exact Fini.ret rfl
 |true =>
 have fh50:=gt_of h5
 cases h6:(decide (((en:Nat):Int)≤1099511627776)) with
 |false =>
  have fh60:=gt_of h6;simp -implicitDefEqProofs only[go_sem,h3,fh30,h4,fh40,h5,fh50,h6,fh60];exact Fini.ret rfl
 |true =>
 have fh60:=gt_of h6;simp -implicitDefEqProofs only[go_sem,h3,fh30,h4,fh40,h5,fh50,h6,fh60];refine CO.intro i90 ?_
 cases h7:(sta==0) with
 |false =>
  have fh70:=ne_of h7;simp -implicitDefEqProofs only[go_sem,h7,fh70];exact Fini.ret rfl
 |true =>
 have fh70:=ne_of h7
 cases h8:(decide (0≤sta)) with
 |false =>
  have fh80:=lt_of h8;simp -implicitDefEqProofs only[go_sem,h7,fh70,h8,fh80];exact Fini.ret rfl
 |true =>
 have fh80:=lt_of h8
 cases h9:(decide (sta≤3)) with
 |false =>
  have fh90:=gt_of h9;simp -implicitDefEqProofs only[go_sem,h7,fh70,h8,fh80,h9,fh90];exact Fini.ret rfl
 |true =>
 have fh90:=gt_of h9;simp -implicitDefEqProofs only[go_sem,h7,fh70,h8,fh80,h9,fh90];refine CO.intro i77 ?_;have hl:=z5e mt.length
 cases hm0:(emI mt.length) with
 |false =>
  rw[hm0]at hl;simp -implicitDefEqProofs only[go_sem,hl];exact Fini.ret rfl
 |true =>
 rw[hm0]at hl;simp -implicitDefEqProofs only[go_sem,hl];refine CO.intro i83 ?_;simp -implicitDefEqProofs only[go_sem];refine CO.intro b1 ?_
 cases h10:(listB mt) with
 |false =>
  simp -implicitDefEqProofs only[go_sem];exact Fini.ret rfl
 |true =>
 simp -implicitDefEqProofs only[go_sem];refine CO.intro i66 ?_;simp -implicitDefEqProofs only[go_sem];refine CO.intro b2 ?_
 cases h11:(noBd (any,lo,hi)) with
 |false =>
  simp -implicitDefEqProofs only[go_sem];exact Fini.ret rfl
 |true =>
 simp -implicitDefEqProofs only[go_sem];refine CO.intro b3 ?_
 cases h12:(mayB any lo hi) with
 |false =>
  simp -implicitDefEqProofs only[go_sem];exact Fini.ret rfl
 |true =>
 simp -implicitDefEqProofs only[go_sem];refine CO.intro i82 ?_;simp -implicitDefEqProofs only[go_sem];refine CO.intro i82 ?_;simp -implicitDefEqProofs only[go_sem];refine CO.intro b5 ?_
 cases h13:(noRl ⟨src,tgt,ra,rl,rh,eq⟩) with
 |false =>
  simp -implicitDefEqProofs only[go_sem];exact Fini.ret rfl
 |true =>
 simp -implicitDefEqProofs only[go_sem];refine CO.intro i76 ?_;unfold emI zF
 cases h14:(((ls.length:Nat):Int)==0) with
 |false =>
  simp -implicitDefEqProofs only[go_sem,h14];exact Fini.ret rfl
 |true =>
 simp -implicitDefEqProofs only[go_sem,h14];refine CO.intro b7 ?_;simp -implicitDefEqProofs only[go_sem];exact Fini.ret rfl
set_option maxHeartbeats 8000000 in
theorem zaZ (r:ReM) (hr:ReSm r) (hd:dOf r.op=S3):Ans Tryz.prog 89 [reV r] σ (Bo (docB r S3)) σ:=by
 obtain⟨tok,op,id,txt,st,en,sta,mt,any,lo,hi,⟨src,tgt,ra,rl,rh,eq⟩,ls,val⟩:=r;obtain⟨hm,hru,hls⟩:=hr;simp only at hm hru hls hd;have k1:=z0r σ op;rw[hd]at k1;have ii:=fun c h=>z2y σ S3 c h
 have i73:=ii 73 (by decide)
 have i84:=ii 84 (by decide)
 have i83:=ii 83 (by decide)
 have i90:=ii 90 (by decide)
 have i77:=ii 77 (by decide)
 have i66:=ii 66 (by decide)
 have i82:=ii 82 (by decide)
 have i76:=ii 76 (by decide)
 simp only[hc_3]at i73 i84 i83 i90 i77 i66 i82 i76;have b0:=z2k σ txt;have b1:=z1o σ mt hm;have b2:=z1v σ (any,lo,hi);have b3:=z29 σ any lo hi;have b4:=z1U σ ⟨src,tgt,ra,rl,rh,eq⟩ hru;have b5:=z1K σ ⟨src,tgt,ra,rl,rh,eq⟩;have b6:=z2l σ ls hls;have b7:=z0D σ val;unfold bandV at b2;unfold ruV at b4 b5;unfold docB;simp only[hc_3,Bool.true_or,Bool.false_or,Bool.not_true,Bool.not_false,Bool.true_and,if_true,Bool.false_eq_true,if_false];refine Ans.of_run t89 ?_;unfold reV reC;simp -implicitDefEqProofs only[c89,r89,go_sem];refine CO.intro k1 ?_;simp -implicitDefEqProofs only[go_sem];refine CO.intro i73 ?_
 cases h0:(decide (0≤id)) with
 |false =>
  have fh00:=lt_of h0;simp -implicitDefEqProofs only[go_sem,h0,fh00];exact Fini.ret rfl
 |true =>
 have fh00:=lt_of h0
 cases h1:(decide (id≤2147483647)) with
 |false =>
  have fh10:=gt_of h1;simp -implicitDefEqProofs only[go_sem,h0,fh00,h1,fh10];exact Fini.ret rfl
 |true =>
 have fh10:=gt_of h1;simp -implicitDefEqProofs only[go_sem,h0,fh00,h1,fh10];refine CO.intro i84 ?_;simp -implicitDefEqProofs only[go_sem];refine CO.intro b0 ?_
 cases h2:(tokB txt) with
 |false =>
  simp -implicitDefEqProofs only[go_sem];exact Fini.ret rfl
 |true =>
 simp -implicitDefEqProofs only[go_sem];refine CO.intro i84 ?_;simp -implicitDefEqProofs only[go_sem];refine CO.intro i83 ?_;unfold emU
 cases h3:(((st:Nat):Int)==0) with
 |false =>
  have fh30:=ne_of h3;simp -implicitDefEqProofs only[go_sem,h3,fh30];exact Fini.ret rfl
 |true =>
 have fh30:=ne_of h3
 cases h4:(((en:Nat):Int)==0) with
 |false =>
  have fh40:=ne_of h4;simp -implicitDefEqProofs only[go_sem,h3,fh30,h4,fh40];exact Fini.ret rfl
 |true =>
 have fh40:=ne_of h4;unfold clkB
 cases h5:(decide (((st:Nat):Int)≤1099511627776)) with
 |false =>
  have fh50:=gt_of h5;simp -implicitDefEqProofs only[go_sem,h3,fh30,h4,fh40,h5,fh50];exact Fini.ret rfl
 |true =>
 have fh50:=gt_of h5
 cases h6:(decide (((en:Nat):Int)≤1099511627776)) with
 |false =>
  have fh60:=gt_of h6;simp -implicitDefEqProofs only[go_sem,h3,fh30,h4,fh40,h5,fh50,h6,fh60];exact Fini.ret rfl
 |true =>
 have fh60:=gt_of h6;simp -implicitDefEqProofs only[go_sem,h3,fh30,h4,fh40,h5,fh50,h6,fh60];refine CO.intro i90 ?_
 cases h7:(sta==0) with
 |false =>
  have fh70:=ne_of h7;simp -implicitDefEqProofs only[go_sem,h7,fh70];exact Fini.ret rfl
 |true =>
 have fh70:=ne_of h7
 cases h8:(decide (0≤sta)) with
 |false =>
  have fh80:=lt_of h8;simp -implicitDefEqProofs only[go_sem,h7,fh70,h8,fh80];exact Fini.ret rfl
 |true =>
 have fh80:=lt_of h8
 cases h9:(decide (sta≤3)) with
 |false =>
  have fh90:=gt_of h9;simp -implicitDefEqProofs only[go_sem,h7,fh70,h8,fh80,h9,fh90];exact Fini.ret rfl
 |true =>
 have fh90:=gt_of h9;simp -implicitDefEqProofs only[go_sem,h7,fh70,h8,fh80,h9,fh90];refine CO.intro i77 ?_;have hl:=z5e mt.length
 cases hm0:(emI mt.length) with
 |false =>
  rw[hm0]at hl;simp -implicitDefEqProofs only[go_sem,hl];exact Fini.ret rfl
 |true =>
 rw[hm0]at hl;simp -implicitDefEqProofs only[go_sem,hl];refine CO.intro i83 ?_;simp -implicitDefEqProofs only[go_sem];refine CO.intro b1 ?_
 cases h10:(listB mt) with
 |false =>
  simp -implicitDefEqProofs only[go_sem];exact Fini.ret rfl
 |true =>
 simp -implicitDefEqProofs only[go_sem];refine CO.intro i66 ?_;simp -implicitDefEqProofs only[go_sem];refine CO.intro b2 ?_
 cases h11:(noBd (any,lo,hi)) with
 |false =>
  simp -implicitDefEqProofs only[go_sem];exact Fini.ret rfl
 |true =>
 simp -implicitDefEqProofs only[go_sem];refine CO.intro b3 ?_
 cases h12:(mayB any lo hi) with
 |false =>
  simp -implicitDefEqProofs only[go_sem];exact Fini.ret rfl
 |true =>
 simp -implicitDefEqProofs only[go_sem];refine CO.intro i82 ?_;simp -implicitDefEqProofs only[go_sem];refine CO.intro i82 ?_;simp -implicitDefEqProofs only[go_sem];refine CO.intro b5 ?_
 cases h13:(noRl ⟨src,tgt,ra,rl,rh,eq⟩) with
 |false =>
  simp -implicitDefEqProofs only[go_sem];exact Fini.ret rfl
 |true =>
 simp -implicitDefEqProofs only[go_sem];refine CO.intro i76 ?_;unfold emI zF
 cases h14:(((ls.length:Nat):Int)==0) with
 |false =>
  simp -implicitDefEqProofs only[go_sem,h14];exact Fini.ret rfl
 |true =>
 simp -implicitDefEqProofs only[go_sem,h14];refine CO.intro b7 ?_;simp -implicitDefEqProofs only[go_sem];exact Fini.ret rfl
end
end Go.Proofs.YtmkmhhjkdaklbaaGreat
