/- A request laid as bytes, by the document. No condition. -/
import Derived.Test.YtmkmhhjkdaklbaaGreatRh1v
import Derived.Test.YtmkmhhjkdaklbaaGreatRd4v
import Derived.Test.YtmkmhhjkdaklbaaGreatXMr3v
import Derived.Test.YtmkmhhjkdaklbaaGreatRcR0v
set_option linter.unusedSimpArgs false
set_option linter.unusedVariables false
set_option linter.unusedSectionVars false
namespace Go.Proofs.YtmkmhhjkdaklbaaGreat
open Go Go.Ab Go.Cod
set_option maxRecDepth 100000
def putC (r:ReM) (c:UInt8):Byt :=
 if c=73 then putN r.id.toNat else if c=84 then txtB r.txt else if c=83 then putN r.st else if c=69 then putN r.en else if c=90 then[opC r.sta]
 else if c=77 then z3t r.mt else if c=66 then putBd (r.any,r.lo,r.hi) else if c=82 then z24 r.ru else if c=76 then z3v r.ls else if c=86 then putV r.val else[]
def preC (r:ReM) (s:ByteArray) (i:Nat):Byt:=opC r.op::(s.data.toList.take i).flatMap (putC r)
def z16 (c:UInt8):Prop:=c=73∨c=84∨c=83∨c=69∨c=90∨c=77∨c=66∨c=82∨c=76∨c=86∨c=45
theorem z94 (r:ReM) (s:ByteArray) (i:Nat) (h:i<s.data.toList.length):preC r s (i+1)=preC r s i++putC r s.data.toList[i]:=by
 unfold preC;rw[List.take_succ_eq_append_getElem h,List.flatMap_append];simp
theorem ziz {r:ReM} (h:mayR r=true):(∀c∈(dOf r.op).data.toList,z16 c)∧(dOf r.op).size≤5∧preC r (dOf r.op) (dOf r.op).size=z0C (fOf r.op).1 r:=by
 have hop:1≤r.op∧r.op≤17:=by
  have:(fOf r.op).2=true:=by unfold mayR at h;simp only[Bool.and_eq_true]at h;exact h.1
  unfold fOf at this;split at this
  · assumption
  · cases this
 have key:∀(s:ByteArray) (f:Int),dOf r.op=s→(fOf r.op).1=f→((∀c∈s.data.toList,z16 c)∧s.size≤5∧preC r s s.size=z0C f r) →
   (∀c∈(dOf r.op).data.toList,z16 c)∧(dOf r.op).size≤5∧preC r (dOf r.op) (dOf r.op).size=z0C (fOf r.op).1 r:=by
  intro s f h1 h2 h3;rw[h1,h2];exact h3
 have a0:(∀c∈S0.data.toList,z16 c)∧S0.size≤5∧preC r S0 S0.size=z0C 0 r:=⟨by unfold z16;decide,by decide,by show preC r S0 1=z0C 0 r;simp[preC,z0C,putB2,putB1,layF,hs_0,putC]⟩
 have a1:(∀c∈S1.data.toList,z16 c)∧S1.size≤5∧preC r S1 S1.size=z0C 1 r:=⟨by unfold z16;decide,by decide,by show preC r S1 1=z0C 1 r;simp[preC,z0C,putB2,putB1,layF,hs_1,putC]⟩
 have a3:(∀c∈S3.data.toList,z16 c)∧S3.size≤5∧preC r S3 S3.size=z0C 3 r:=⟨by unfold z16;decide,by decide,by show preC r S3 2=z0C 3 r;simp[preC,z0C,putB2,putB1,layF,hs_3,putC]⟩
 have a116:(∀c∈S116.data.toList,z16 c)∧S116.size≤5∧preC r S116 S116.size=z0C 116 r:=⟨by unfold z16;decide,by decide,by show preC r S116 4=z0C 116 r;simp[preC,z0C,putB2,putB1,layF,z8L,putC]⟩
 have a117:(∀c∈S117.data.toList,z16 c)∧S117.size≤5∧preC r S117 S117.size=z0C 117 r:=⟨by unfold z16;decide,by decide,by show preC r S117 5=z0C 117 r;simp[preC,z0C,putB2,putB1,layF,z8M,putC]⟩
 have a8:(∀c∈S8.data.toList,z16 c)∧S8.size≤5∧preC r S8 S8.size=z0C 8 r:=⟨by unfold z16;decide,by decide,by show preC r S8 1=z0C 8 r;simp[preC,z0C,putB2,putB1,layF,hs_8,putC]⟩
 have a128:(∀c∈S128.data.toList,z16 c)∧S128.size≤5∧preC r S128 S128.size=z0C 128 r:=⟨by unfold z16;decide,by decide,by show preC r S128 1=z0C 128 r;simp[preC,z0C,putB2,putB1,layF,z8N,putC]⟩
 have a768:(∀c∈S768.data.toList,z16 c)∧S768.size≤5∧preC r S768 S768.size=z0C 768 r:=⟨by unfold z16;decide,by decide,by show preC r S768 2=z0C 768 r;simp[preC,z0C,putB2,putB1,layF,z8O,putC]⟩
 have a16:(∀c∈S16.data.toList,z16 c)∧S16.size≤5∧preC r S16 S16.size=z0C 16 r:=⟨by unfold z16;decide,by decide,by show preC r S16 1=z0C 16 r;simp[preC,z0C,putB2,putB1,layF,hs_16,putC]⟩
 rcases ops17 r.op with e|e|e|e|e|e|e|e|e|e|e|e|e|e|e|e|e|e
 all_goals first
  |omega
  |exact key S0 0 (by rw[e];rfl) (by rw[e];rfl) a0
  |exact key S1 1 (by rw[e];rfl) (by rw[e];rfl) a1
  |exact key S3 3 (by rw[e];rfl) (by rw[e];rfl) a3
  |exact key S116 116 (by rw[e];rfl) (by rw[e];rfl) a116
  |exact key S117 117 (by rw[e];rfl) (by rw[e];rfl) a117
  |exact key S8 8 (by rw[e];rfl) (by rw[e];rfl) a8
  |exact key S128 128 (by rw[e];rfl) (by rw[e];rfl) a128
  |exact key S768 768 (by rw[e];rfl) (by rw[e];rfl) a768
  |exact key S16 16 (by rw[e];rfl) (by rw[e];rfl) a16
theorem zaY {r:ReM} (h:BdOk r) (c:UInt8):(putC r c).length≤100000:=by
 have p1:=z0v (n:=r.id.toNat) (by have:=h.id1;omega)
 have p2:=z2e r.txt (by have:=h.txt;omega)
 have p3:=z0v (n:=r.st) (by have:=h.st;omega)
 have p4:=z0v (n:=r.en) (by have:=h.en;omega)
 have p5:=(z91 h.mt).2;have p6:=z65 (r.any,r.lo,r.hi);have p7:=zh3 r.ru;have p8:=zdL r.ls;have p9:(putV r.val).length=8:=z2f _;have p10:=h.txt;simp only[List.flatten_cons,List.flatten_nil,List.append_nil]at p5 p7 p8;unfold putC
 repeat' split
 all_goals first|omega|simp
theorem zaZ {r:ReM} (h:BdOk r) (s:ByteArray):∀i,i≤s.data.toList.length→(preC r s i).length≤1+100000*i
 |0,_=>by simp[preC]
 |i+1,hi=>by
  have ih:=zaZ h s i (by omega)
  have:=zaY h s.data.toList[i];rw[z94 r s i (by omega),List.length_append]
  omega
section
variable (σ:St)
set_option maxHeartbeats 8000000 in
theorem zdP (r:ReM) (hsm:ReSm r):Ans Tryz.prog 38 [reV r] σ (.sl 1 (byv (z75 r))) σ:=by
 have hi:=fun s=>z1z s r hsm
 unfold z75
 cases hM:mayR r with
 |false =>
  have:Ans Tryz.prog 38 [reV r] σ .nils σ:=by
   refine Ans.of_run t38 ?_;unfold reV reC at hi⊢;simp -implicitDefEqProofs only[c38,r38,go_sem];refine CO.intro (hi _) ?_;rw[hM];simp -implicitDefEqProofs only[go_sem];exact Fini.ret rfl
  exact this.subR (.nils 1)
 |true =>
  have hok:=bd_ok hM;obtain⟨hlet,hsz,hend⟩:=ziz hM;rw[if_pos rfl,←hend];have hf:=fun s=>z0o s r.op
  have hpl:=zaZ hok (dOf r.op);have hcl:=zaY hok;have hsucc:=z94 r (dOf r.op);have hzero:preC r (dOf r.op) 0=[opC r.op]:=by simp[preC]
  have hss:=z1E (dOf r.op);generalize dOf r.op=s at *;obtain⟨op0,op1,id0,id1,htx,hst,hen,sta0,sta1,hmt,hru,hls⟩:=hok;have m1:=fun s=>z6e s r.id.toNat (by omega)
  have m2:=fun s=>z1F s r.txt (by omega)
  have m3:=fun s=>z6e s r.st (by omega)
  have m4:=fun s=>z6e s r.en (by omega)
  have m5:=fun s=>z6W s r.mt hsm.mt
  have m6:=fun s=>z3O s (r.any,r.lo,r.hi)
  have m7:=fun s=>z8V s r.ru hsm.ru
  have m8:=fun s=>z9U s r.ls hsm.ls
  have m9:=fun s=>z0U s r.val
  have mA:=fun s=>z3D s (bitsF r.val)
  have w1:IntKind.u64.wrap r.id=((r.id.toNat:Nat):Int):=by
   rw[show r.id=((r.id.toNat:Nat):Int) from by omega,z1k (by omega)];rfl
  have w2:=zaW op0 op1;have w3:=zaW sta0 (by omega)
  have c73:putC r 73=putN r.id.toNat:=rfl;have c84:putC r 84=txtB r.txt:=rfl;have c83:putC r 83=putN r.st:=rfl;have c69:putC r 69=putN r.en:=rfl;have c90:putC r 90=[opC r.sta]:=rfl;have c77:putC r 77=z3t r.mt:=rfl;have c66:putC r 66=putBd (r.any,r.lo,r.hi):=rfl;have c82:putC r 82=z24 r.ru:=rfl;have c76:putC r 76=z3v r.ls:=rfl;have c86:putC r 86=putV r.val:=rfl;have c45:putC r 45=[]:=rfl;have hl45:=hcl 45;clear hmt hru hls hend;obtain⟨tok,op,id,txt,st,en,sta,mt,any,lo,hi',⟨src,tgt,ra,rl,rh,eq⟩,ls,val⟩:=r;simp only at m1 m2 m3 m4 m5 m6 m7 m8 m9 mA w1 w2 w3 hf c73 c84 c83 c69 c90 c77 c66 c82 c76 c86 hzero;refine Ans.of_run' t38 (fun hbel _=>?_)
  unfold reV reC at hi⊢;unfold bandV at m6;unfold ruV at m7;simp -implicitDefEqProofs only[c38,r38,go_sem];refine CO.intro (hi _) ?_;rw[hM];simp -implicitDefEqProofs only[go_sem];refine CO.intro (hf _) ?_;simp -implicitDefEqProofs only[go_sem,w2,g0,s0];generalize hR:({ tok:=tok,op:=op,id:=id,txt:=txt,st:=st,en:=en,sta:=sta,mt:=mt,any:=any,lo:=lo,hi:=hi',ru:={ src:=src,tgt:=tgt,any:=ra,lo:=rl,hi:=rh,eq:=eq },ls:=ls,val:=val }:ReM)=R at *;refine Go.Ab.L.count s.size (fun i=>mkE 99 [(1,.rp [Sx tok,I op,I id,Sx txt,UN st,UN en,I sta,mlV mt,Bo any,Fl lo,Fl hi',mlV src,mlV tgt,Bo ra,Fl rl,Fl rh,.sl 1 (txs eq),lsV ls,Fl val]),(3,Sx s),(4,.osl σ.length (preC R s i).length),(5,I i)]) (fun i=>σ++[.row 1 (byv (preC R s i))]) ?_ ?_ (by rw[hzero];rfl) (by rw[hzero];rfl)
  · intro i hi0 J hJ;have hil:i<s.data.toList.length:=by omega
    have hp:=hpl i (by omega)
    have hc:=hlet s.data.toList[i] (List.getElem_mem hil)
    have hx:byteAt s i=(s.data.toList[i]).toNat:=by
     unfold byteAt;rw[List.getD_eq_getElem?_getD,List.getElem?_eq_getElem hil,Option.getD_some]
    rw[hsucc i hil,List.length_append]at hJ;have hcl:=hcl s.data.toList[i];generalize s.data.toList[i]=c at hx hc hJ hcl;generalize preC R s i=pre at hJ hp⊢;have hin:=wrap_succ (i:=i) (by omega)
    unfold z16 at hc;rcases hc with rfl|rfl|rfl|rfl|rfl|rfl|rfl|rfl|rfl|rfl|rfl
    · rw[c73]at hJ hcl;have hb:((byteAt s i:Nat):Int)=73:=by rw[hx];rfl
      have q1:pre.length+(putN id.toNat).length≤4294967296:=by omega
      simp -implicitDefEqProofs only[mkE,go_sem,z09 hi0,dec_lt hi0,hb,z06,w1];refine CO.intro (m1 _) ?_;simp -implicitDefEqProofs only[go_sem,g0,s0,z01,z0l,bc,q1,hin];simp only[z0r]at hJ;exact hJ
    · rw[c84]at hJ hcl;have hb:((byteAt s i:Nat):Int)=84:=by rw[hx];rfl
      have q1:pre.length+(txtB txt).length≤4294967296:=by omega
      simp -implicitDefEqProofs only[mkE,go_sem,z09 hi0,dec_lt hi0,hb,z06,w1];refine CO.intro (m2 _) ?_;simp -implicitDefEqProofs only[go_sem,g0,s0,z01,z0l,bc,q1,hin];simp only[z0r]at hJ;exact hJ
    · rw[c83]at hJ hcl;have hb:((byteAt s i:Nat):Int)=83:=by rw[hx];rfl
      have q1:pre.length+(putN st).length≤4294967296:=by omega
      simp -implicitDefEqProofs only[mkE,go_sem,z09 hi0,dec_lt hi0,hb,z06,w1];refine CO.intro (m3 _) ?_;simp -implicitDefEqProofs only[go_sem,g0,s0,z01,z0l,bc,q1,hin];simp only[z0r]at hJ;exact hJ
    · rw[c69]at hJ hcl;have hb:((byteAt s i:Nat):Int)=69:=by rw[hx];rfl
      have q1:pre.length+(putN en).length≤4294967296:=by omega
      simp -implicitDefEqProofs only[mkE,go_sem,z09 hi0,dec_lt hi0,hb,z06,w1];refine CO.intro (m4 _) ?_;simp -implicitDefEqProofs only[go_sem,g0,s0,z01,z0l,bc,q1,hin];simp only[z0r]at hJ;exact hJ
    · rw[c90]at hJ hcl;have hb:((byteAt s i:Nat):Int)=90:=by rw[hx];rfl
      have q1:pre.length+1≤4294967296:=by omega
      simp -implicitDefEqProofs only[mkE,go_sem,z09 hi0,dec_lt hi0,hb,z06,w3,g0,s0,z01,z0l,bc,q1,hin];simp only[z0r]at hJ;exact hJ
    · rw[c77]at hJ hcl;have hb:((byteAt s i:Nat):Int)=77:=by rw[hx];rfl
      have q1:pre.length+(z3t mt).length≤4294967296:=by omega
      simp -implicitDefEqProofs only[mkE,go_sem,z09 hi0,dec_lt hi0,hb,z06,w1];refine CO.intro (m5 _) ?_;simp -implicitDefEqProofs only[go_sem,g0,s0,z01,z0l,bc,q1,hin];simp only[z0r]at hJ;exact hJ
    · rw[c66]at hJ hcl;have hb:((byteAt s i:Nat):Int)=66:=by rw[hx];rfl
      have q1:pre.length+(putBd (any,lo,hi')).length≤4294967296:=by omega
      simp -implicitDefEqProofs only[mkE,go_sem,z09 hi0,dec_lt hi0,hb,z06,w1];refine CO.intro (m6 _) ?_;simp -implicitDefEqProofs only[go_sem,g0,s0,z01,z0l,bc,q1,hin];simp only[z0r]at hJ;exact hJ
    · rw[c82]at hJ hcl;have hb:((byteAt s i:Nat):Int)=82:=by rw[hx];rfl
      have q1:pre.length+(z24 ⟨src,tgt,ra,rl,rh,eq⟩).length≤4294967296:=by omega
      simp -implicitDefEqProofs only[mkE,go_sem,z09 hi0,dec_lt hi0,hb,z06,w1];refine CO.intro (m7 _) ?_;simp -implicitDefEqProofs only[go_sem,g0,s0,z01,z0l,bc,q1,hin];simp only[z0r]at hJ;exact hJ
    · rw[c76]at hJ hcl;have hb:((byteAt s i:Nat):Int)=76:=by rw[hx];rfl
      have q1:pre.length+(z3v ls).length≤4294967296:=by omega
      simp -implicitDefEqProofs only[mkE,go_sem,z09 hi0,dec_lt hi0,hb,z06,w1];refine CO.intro (m8 _) ?_;simp -implicitDefEqProofs only[go_sem,g0,s0,z01,z0l,bc,q1,hin];simp only[z0r]at hJ;exact hJ
    · rw[c86]at hJ hcl;have hb:((byteAt s i:Nat):Int)=86:=by rw[hx];rfl
      have q1:pre.length+(wrdB (bitsF val)).length≤4294967296:=by have:(wrdB (bitsF val)).length=8:=z2f _;omega
      simp -implicitDefEqProofs only[mkE,go_sem,z09 hi0,dec_lt hi0,hb,z06,w1];refine CO.intro (m9 _) ?_;simp -implicitDefEqProofs only[go_sem];refine CO.intro (mA _) ?_;simp -implicitDefEqProofs only[go_sem,g0,s0,z01,z0l,bc,q1,hin];unfold putV at hJ;simp only[z0r]at hJ;exact hJ
    · rw[c45]at hJ;have hb:((byteAt s i:Nat):Int)=45:=by rw[hx];rfl
      simp -implicitDefEqProofs only[mkE,go_sem,z09 hi0,dec_lt hi0,hb,z06,hin];simp only[List.append_nil,List.length_nil,Nat.add_zero]at hJ;exact hJ
  · intro J;have d0:decide ((s.size:Int)<s.size)=false:=by simp
    simp -implicitDefEqProofs only[mkE,go_sem,d0,g0,s0,z01];exact Fini.trim2 (σ':=σ) (ex:=[_]) rfl rfl (Nat.le_refl _) (z1Q _ _) hbel
end
end Go.Proofs.YtmkmhhjkdaklbaaGreat
namespace Go.Proofs.YtmkmhhjkdaklbaaGreat
open Go Go.Ab Go.Cod Go.ChangeShapes Go.WideShapes Go.ChangeAt Go.RowKit
set_option maxRecDepth 100000
theorem zhb (r:RuM):([z24 r]:List Byt).flatten.length≤2000:=by
 unfold z24
 cases h:ruIs r with
 |false=>simp
 |true =>
  have hp:=z5e h r.eq.length (Nat.le_refl _);have hl:=(z1M h).2.2.2.1;rw[z7y]at hp;simp;omega
theorem z9X (r:ReM):(z75 r).length≤4000:=by
 unfold z75
 cases hM:mayR r with
 |false=>exact Nat.zero_le _
 |true =>
  obtain⟨op0,op1,id0,id1,htx,hst,hen,sta0,sta1,hmt,hru,hls⟩:=bd_ok hM;rw[if_pos rfl];unfold z0C putB2 putB1;have f1:∀b:Byt,([b]:List Byt).flatten=b:=fun b=>by simp
  have f2:∀b c:Byt,([b,c]:List Byt).flatten.length=b.length+c.length:=fun b c=>by simp
  refine Nat.le_trans (z2x (n:=3600) (m:=8) (z2x (n:=2600) (m:=1000) (z2x (n:=600) (m:=2000) (z2x (n:=583) (m:=17) (z2x (n:=73) (m:=510) (z2x (n:=72) (m:=1) (z2x (n:=52) (m:=20) (z2x (n:=12) (m:=40) (z2x (n:=2) (m:=10) (by simp) ?_) ?_) ?_) ?_) ?_) ?_) ?_) ?_) ?_) (by decide)<;>intro _
  · rw[f1];exact z0v (by omega)
  · rw[f1];have:=z2e r.txt (by omega);omega
  · rw[f2];have:=z0v (n:=r.st) (by omega);have:=z0v (n:=r.en) (by omega);omega
  · simp
  · exact(z91 hmt).2
  · rw[f1];exact z65 _
  · exact zhb _
  · exact zdL _
  · rw[f1];exact Nat.le_of_eq (z2f _)
theorem ziA {x:ReM} (h:mayR x=true):ReSm x:=by
 unfold mayR zeroB z0n at h;generalize (fOf x.op).1=f at h;simp only[Bool.and_eq_true]at h;obtain⟨_,⟨_,_,_,_,_,_,z7,z8,_⟩,_,_,_,_,_,r6,_,_,r9,r10⟩:=h;refine⟨fun m hm=>by have:=(z2Q r6).2 m hm;omega,?_,?_⟩
 · cases h128:hasF f 128 with
   |true =>
    rw[h128]at r9;obtain⟨q1,q2,q3,q4,q5⟩:=z1M (show ruIs x.ru=true from r9)
    exact⟨fun m hm=>by have:=(z2Q q1).2 m hm;omega,fun m hm=>by have:=(z2Q q2).2 m hm;omega,fun s hs=>by have:=q5 s hs;omega⟩
   |false =>
    rw[h128]at z7;have:=(zfu x.ru).1 z7;rw[this];exact⟨fun _ h=>(by cases h),fun _ h=>(by cases h),fun _ h=>(by cases h)⟩
 · intro l hl
   cases h256:hasF f 256 with
   |true =>
    rw[h256]at r10;have:=(z43 (show setB x.ls=true from r10)).2 l hl
    omega
   |false =>
    rw[h256]at z8;have:=zfv (show emI x.ls.length=true from z8)
    rw[List.length_eq_zero_iff.1 this]at hl;cases hl
section
variable {H:Type} {enc:TypeId×Value→H} {W:World} {base:Nat} {v:Value} {d:DataW H} {ps:List MemPlace}
theorem zhc (hv:Value.okWide Tryz.prog W .any base 45 v) (h:DataW.Trod enc Tryz.prog W 0 (fun _=>true) true 45 v d ps):∃n:Nat,n<18446744073709551616∧Rep noM noR W (UN n) v:=by
 obtain⟨n,rfl⟩:=okWide_int Tryz.underlying45 hv;obtain⟨x,hx,m,hm,e⟩:=Reads.arg (P:=Tryz.prog) (t:=45) (fun f=>Reads.int Tryz.underlying45 f) rfl h
 simp only[List.cons.injEq,and_true]at e;subst e;obtain⟨h0,h1⟩:=wf64i hm;obtain⟨k,rfl⟩:=Int.eq_ofNat_of_zero_le h0;exact⟨k,by omega,hx⟩
end
end Go.Proofs.YtmkmhhjkdaklbaaGreat
namespace Go.Proofs.YtmkmhhjkdaklbaaGreat
open Go Go.Ab Go.Cod
set_option maxRecDepth 100000
def recOf (ix:Int) (ck:Nat) (a:AcM) (cd:Int):RcM:=⟨ix,ck,z75 (z08 a),cd⟩
theorem zfz (σ:St) (ix:Int) (ck:Nat) (a:AcM) (cd:Int):Ans Tryz.prog 32 [I ix,UN ck,acV a,I cd] σ (rcV (recOf ix ck a cd)) σ:=by
 have u1:=fun s=>z9W s a
 have m1:=zdN a;unfold recOf;generalize z08 a=r at u1 m1⊢;have p1:=fun s=>zdP s r (ziA m1)
 have hb:∀B,Bel σ.length (rcV ⟨ix,ck,B,cd⟩):=fun B=>zdE _ _
 generalize z75 r=B at p1⊢;unfold acV acC at u1⊢;unfold reV reC at *;unfold rcV rcC at *;refine Ans.of_run' t32 (fun hbel _=>?_)
 simp -implicitDefEqProofs only[c32,r32,go_sem];refine CO.intro (u1 _) ?_;simp -implicitDefEqProofs only[go_sem];refine CO.intro (p1 _) ?_;simp -implicitDefEqProofs only[go_sem,g0,s0];exact tr_ (σ':=σ) (ex:=[_]) rfl (hb _) hbel
theorem zdQ (ix:Int) (ck:Nat) (a:AcM) (cd:Int):(recOf ix ck a cd).bd.length≤4000:=z9X _
theorem z95 {r:RcM} (h:rcIs r=true) (hb:r.bd.length≤4000):(putRc r).length≤4100∧1≤(putRc r).length:=by
 have h1:=z5i h;have h2:(putN r.ix.toNat).length≤10:=z0v (by omega)
 have h3:(putN r.ck).length≤10:=z0v (by omega)
 have h4:=z2e ⟨r.bd.toArray⟩ (by rw[z3q];omega)
 rw[z3q]at h4;unfold putRc;simp only[List.length_append,List.length_cons,List.length_nil];omega
theorem z9Y {r:RcM} (hb:r.bd.length≤4000):(z1S r).length≤4100:=by
 unfold z1S;split
 · rename_i h;exact(z95 h hb).1
 · exact Nat.zero_le _
theorem zfA:rdRc []=none:=rfl
theorem zbS {r:RcM} (hb:r.bd.length≤4000):rdRc (z1S r)=if rcIs r then some r else none:=by
 cases h:rcIs r with
 |true =>
  have:=(z95 h hb).1;rw[zbP h,zfx h (by omega)];rfl
 |false =>
  have:z1S r=[]:=by unfold z1S;rw[h];rfl
  rw[this,zfA];rfl
theorem z6n (ix:Int) (ck:Nat) (hck:ck<18446744073709551616) (a:AcM) (ha:ActSz a) (cd:Int):Ans Tryz.prog 7 [I ix,UN ck,acV a,I cd] [] (.pl (.bool true)) []:=by
 have u1:=fun s=>zfz s ix ck a cd
 have hl:=zdQ ix ck a cd;generalize recOf ix ck a cd=x at u1 hl;have p1:=fun s=>z45 s x (by omega)
 have p2:=fun s=>z50 s x (by omega)
 have p3:=fun s=>z4t s x (by omega)
 have p4:=fun s=>z4u s x (by omega)
 have hb:=z9Y hl;have p5:=fun s=>(z3L s (z1S x) (by omega)).subR (z8X _)
 rw[zbS hl]at p5;have s1:=fun s=>z74 s x x
 rw[z6h]at s1;generalize z1S x=b at p1 p2 p5 hb;unfold acV acC at u1⊢;refine Ans.of_run t7 ?_
 cases h:rcIs x with
 |true =>
  have w:rcT (some x)=.tup [rcV x,Bo true]:=rfl;simp only[h,if_true,w]at p3 p4 p5;simp only[rcV,rcC]at u1 p1 p2 p3 p4 p5 s1;simp -implicitDefEqProofs only[c7,r7,go_sem];refine CO.intro (u1 _) ?_;simp -implicitDefEqProofs only[go_sem];refine CO.intro (p1 _) ?_;simp -implicitDefEqProofs only[go_sem];refine CO.intro (p5 _) ?_;simp -implicitDefEqProofs only[go_sem];refine CD.intro (p3 _) ?_;simp -implicitDefEqProofs only[go_sem];refine CD.intro (p4 _) ?_;simp -implicitDefEqProofs only[go_sem,z0l,bc,z1j,z17,AV.isStr,BEq.rfl];refine CD.intro (p2 _) ?_;simp -implicitDefEqProofs only[go_sem,z0l,bc,z1j,z17,AV.isStr,BEq.rfl];refine CD.intro (p3 _) ?_;simp -implicitDefEqProofs only[go_sem,BEq.rfl];refine CD.intro (s1 _) ?_;simp -implicitDefEqProofs only[go_sem];refine CD.intro (rd_b _) ?_;simp -implicitDefEqProofs only[go_sem];exact Fini.ret rfl
 |false =>
  have w:rcT none=.tup [rcV noRc,Bo false]:=rfl;simp only[h,Bool.false_eq_true,if_false,w]at p3 p4 p5;simp only[rcV,rcC,noRc]at u1 p1 p2 p3 p4 p5 s1;simp -implicitDefEqProofs only[c7,r7,go_sem];refine CO.intro (u1 _) ?_;simp -implicitDefEqProofs only[go_sem];refine CO.intro (p1 _) ?_;simp -implicitDefEqProofs only[go_sem];refine CO.intro (p5 _) ?_;simp -implicitDefEqProofs only[go_sem];refine CD.intro (p3 _) ?_;simp -implicitDefEqProofs only[go_sem];refine CD.intro (p4 _) ?_;simp -implicitDefEqProofs only[go_sem,z0l,bc,z1j,z17,AV.isStr,BEq.rfl];refine CD.intro (p2 _) ?_;simp -implicitDefEqProofs only[go_sem,z0l,bc,z1j,z17,AV.isStr,BEq.rfl];refine CD.intro (p3 _) ?_;simp -implicitDefEqProofs only[go_sem,BEq.rfl];refine CD.intro (rd_b _) ?_;simp -implicitDefEqProofs only[go_sem];exact Fini.ret rfl
end Go.Proofs.YtmkmhhjkdaklbaaGreat
