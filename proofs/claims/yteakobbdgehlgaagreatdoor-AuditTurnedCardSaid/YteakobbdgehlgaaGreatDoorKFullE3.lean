/- Requests and their bytes: what is laid is read, what is read was laid. Printed by a program. No condition. -/
import Derived.Test.YteakobbdgehlgaaGreatDoorKRc12E3
import Derived.Test.YteakobbdgehlgaaGreatDoorKRd3E3
import Derived.Test.YteakobbdgehlgaaGreatDoorKRq2cE3
import Derived.Test.YteakobbdgehlgaaGreatDoorKShA1E3
import Derived.Test.YteakobbdgehlgaaGreatDoorKXPPar6E3
import Derived.Test.YteakobbdgehlgaaGreatDoorAbGloE3
import Derived.Test.YteakobbdgehlgaaGreatDoorKXVi3E3
set_option linter.unusedSimpArgs false
set_option linter.unusedVariables false
set_option linter.unusedSectionVars false
set_option maxRecDepth 100000
set_option maxHeartbeats 4000000
namespace Go.Proofs.YteakobbdgehlgaaGreatDoor
open Go Go.Ab Go.Cod
theorem z1x {α β:Type} {rd:Rd α} {wr:α→Byt} {ok:α→Prop} (h:Fits rd wr ok) (f:α→β) (g:β→α) (hgf:∀a,g (f a)=a):Fits (z1K rd f) (fun r=>wr (g r)) (fun r=>ok (g r)∧f (g r)=r) :=
 dress_fits h (fun a ha=>⟨⟨by rw[hgf];exact ha,by rw[hgf]⟩,by rw[hgf]⟩) (fun b hb=>hb)
theorem zaY (c:UInt8):opC ((c.toNat:Nat):Int)=c:=by
 unfold opC;rw[Int.toNat_natCast];simp
theorem z2d {n:Int} (h0:0≤n) (h1:n≤17):(((opC n).toNat:Nat):Int)=n:=by
 have:=z7P h0 h1;rw[←this];obtain⟨k,rfl⟩:=Int.eq_ofNat_of_zero_le h0;have:k<18:=by omega
 match k,this with
 |0,_|1,_|2,_|3,_|4,_|5,_|6,_|7,_|8,_|9,_|10,_|11,_|12,_|13,_|14,_|15,_|16,_|17,_=>rfl
theorem z3v (s:ByteArray):emS s=true↔s=⟨#[]⟩:=by
 unfold emS;rw[beq_iff_eq];exact⟨toList_inj,fun h=>by rw[h]⟩
theorem z3w (n:Nat):emU n=true↔n=0:=by unfold emU;rw[beq_iff_eq];omega
theorem z2Y {α:Type} (l:List α):emI l.length=true↔l=[]:=by
 unfold emI;rw[beq_iff_eq,←List.length_eq_zero_iff];omega
theorem z3W (v:Nat):zF v=true↔v=0:=by
 unfold zF;rw[beq_iff_eq];exact⟨fun h=>z3d (Int.ofNat.inj h),fun h=>by rw[h,z1O];rfl⟩
theorem z2e (x:Bnd):noBd x=true↔x=(false,0,0):=by
 obtain⟨a,lo,hi⟩:=x;unfold noBd;simp only[Bool.and_eq_true,z3W,Bool.not_eq_true',Prod.mk.injEq]
theorem z2f (r:RuM):noRl r=true↔r=noRu:=by
 obtain⟨a,b,c,lo,hi,e⟩:=r;unfold noRl noRu;simp only[Bool.and_eq_true,z2Y,z2e,RuM.mk.injEq,Prod.mk.injEq];constructor
 · rintro⟨rfl,rfl,rfl,rfl,rfl,rfl⟩;simp
 · rintro⟨rfl,rfl,rfl,rfl,rfl,rfl⟩;simp
def mkI (op:Int) (n:Nat):ReM:={ x0 op with id:=(n:Nat) }
def mkIT (op:Int) (p:Nat×ByteArray):ReM:={ x0 op with id:=(p.1:Nat),txt:=p.2 }
def mkZ (op:Int) (c:UInt8):ReM:={ x0 op with sta:=(c.toNat:Nat) }
def mkR (op:Int) (r:RuM):ReM:={ x0 op with ru:=r }
def mkLV (op:Int) (p:List Lab×Nat):ReM:={ x0 op with ls:=p.1,val:=p.2 }
def mkMt (op:Int) (M:List Mtr):ReM:={ x0 op with mt:=M }
structure ReSz (r:ReM):Prop where
 tok:r.tok=⟨#[]⟩
 val:r.val<2^64∧bitsF r.val=r.val
 bd:r.lo<2^64∧r.hi<2^64
 ru:r.ru.lo<2^64∧r.ru.hi<2^64
theorem fit_0 (op:Int):Fits (clR 0 op) (fun r=>[]) (fun r=>r=x0 op):=⟨fun a t h=>by rw[h];rfl,fun b a t h=>by have h:(some (x0 op,b):Option (ReM×Byt))=some (a,t):=h;simp only[Option.some.injEq,Prod.mk.injEq]at h;exact⟨h.1.symm,h.2⟩⟩
theorem fit_1 (op:Int):Fits (clR 1 op) (fun r=>putN r.id.toNat) (fun r=>(r.id.toNat≤2147483647)∧(mkI op) ((fun r=>r.id.toNat) r)=r):=z1x (z1i (most:=2147483647) (by decide)) (mkI op) (fun r=>r.id.toNat) (fun _=>rfl)
theorem fit_3 (op:Int):Fits (clR 3 op) (fun r=>putN r.id.toNat++txtB r.txt) (fun r=>(r.id.toNat≤2147483647∧r.txt.size≤16)∧(mkIT op) ((fun r=>(r.id.toNat,r.txt)) r)=r):=z1x (z0N (z1i (most:=2147483647) (by decide)) (z1w (most:=16) (by decide))) (mkIT op) (fun r=>(r.id.toNat,r.txt)) (fun _=>rfl)
theorem ze0 (op:Int):Fits (clR 116 op) (fun r=>putN r.st++(putN r.en++(putL r.mt++putBd (r.any,r.lo,r.hi)))) (fun r=>(r.st≤1099511627776∧r.en≤1099511627776∧listB r.mt=true∧(bMay (r.any,r.lo,r.hi)=true∧bSz (r.any,r.lo,r.hi)))∧(mk116 op) ((fun r=>(r.st,r.en,r.mt,r.any,r.lo,r.hi)) r)=r):=z1x (z0N (z1i (most:=1099511627776) (by decide)) (z0N (z1i (most:=1099511627776) (by decide)) (z0N z3c band_fits))) (mk116 op) (fun r=>(r.st,r.en,r.mt,r.any,r.lo,r.hi)) (fun _=>rfl)
theorem ze1 (op:Int):Fits (clR 117 op) (fun r=>putN r.id.toNat++(putN r.st++(putN r.en++(putL r.mt++putBd (r.any,r.lo,r.hi))))) (fun r=>(r.id.toNat≤2147483647∧r.st≤1099511627776∧r.en≤1099511627776∧listB r.mt=true∧(bMay (r.any,r.lo,r.hi)=true∧bSz (r.any,r.lo,r.hi)))∧(mk117 op) ((fun r=>(r.id.toNat,r.st,r.en,r.mt,r.any,r.lo,r.hi)) r)=r):=z1x (z0N (z1i (most:=2147483647) (by decide)) (z0N (z1i (most:=1099511627776) (by decide)) (z0N (z1i (most:=1099511627776) (by decide)) (z0N z3c band_fits)))) (mk117 op) (fun r=>(r.id.toNat,r.st,r.en,r.mt,r.any,r.lo,r.hi)) (fun _=>rfl)
theorem fit_8 (op:Int):Fits (clR 8 op) (fun r=>[opC r.sta]) (fun r=>(True)∧(mkZ op) ((fun r=>opC r.sta) r)=r):=z1x byte_fits (mkZ op) (fun r=>opC r.sta) (fun c=>zaY c)
theorem ze2 (op:Int):Fits (clR 128 op) (fun r=>putR r.ru) (fun r=>(ruIs r.ru=true∧ruSz r.ru)∧(mkR op) ((fun r=>r.ru) r)=r):=z1x ru_fits (mkR op) (fun r=>r.ru) (fun _=>rfl)
theorem ze3 (op:Int):Fits (clR 768 op) (fun r=>z3V r.ls++putV r.val) (fun r=>(setB r.ls=true∧(r.val<2^64∧bitsF r.val=r.val))∧(mkLV op) ((fun r=>(r.ls,r.val)) r)=r):=z1x (z0N set_fits val_fits) (mkLV op) (fun r=>(r.ls,r.val)) (fun _=>rfl)
theorem zgQ (op:Int):Fits (clR 16 op) (fun r=>putL r.mt) (fun r=>(listB r.mt=true)∧(mkMt op) ((fun r=>r.mt) r)=r):=z1x z3c (mkMt op) (fun r=>r.mt) (fun _=>rfl)
theorem cls_0 {r:ReM} (hm:mayR r=true) (hs:ReSz r) (hf:(fOf r.op).1=0):(r=x0 r.op)∧z0a 0 r=opC r.op::([]):=by
 have k0:=bd_ok hm;unfold mayR at hm;rw[hf]at hm;simp only[Bool.and_eq_true]at hm;obtain⟨_,hz,hr⟩:=hm;unfold zeroB at hz;unfold z0c at hr;simp only[hs_0,Bool.true_or,Bool.false_or,Bool.not_true,Bool.not_false,Bool.true_and,Bool.and_true,Bool.and_eq_true,z3v,z3w,z2Y,z3W,z2e,z2f,beq_iff_eq,Prod.mk.injEq]at hz hr;obtain⟨op0,op1,id0,id1,htx,hst,hen,u0,q0,y0,m0,n0⟩:=k0;obtain⟨h1,h2,h3,h4⟩:=hs;have hid:((r.id.toNat:Nat):Int)=r.id:=by omega
 have j0:=z2d u0 (by omega)
 have eL:z0Y r.mt=putL r.mt:=by unfold z0Y;rw[y0];rfl
 rw[hf]at m0 n0;refine⟨?_,by simp[z0a,putB2,putB1,layF,hs_0]⟩
 obtain⟨tok,op,id,txt,st,en,sta,mt,any,lo,hi,ru,ls,val⟩:=r;simp only[x0,mk116,mk117,mkI,mkIT,mkZ,mkR,mkLV,mkMt,ReM.mk.injEq]at *
 simp_all
theorem cls_1 {r:ReM} (hm:mayR r=true) (hs:ReSz r) (hf:(fOf r.op).1=1):((r.id.toNat≤2147483647)∧(mkI r.op) ((fun r=>r.id.toNat) r)=r)∧z0a 1 r=opC r.op::(putN r.id.toNat):=by
 have k0:=bd_ok hm;unfold mayR at hm;rw[hf]at hm;simp only[Bool.and_eq_true]at hm;obtain⟨_,hz,hr⟩:=hm;unfold zeroB at hz;unfold z0c at hr;simp only[hs_1,Bool.true_or,Bool.false_or,Bool.not_true,Bool.not_false,Bool.true_and,Bool.and_true,Bool.and_eq_true,z3v,z3w,z2Y,z3W,z2e,z2f,beq_iff_eq,Prod.mk.injEq]at hz hr;obtain⟨op0,op1,id0,id1,htx,hst,hen,u0,q0,y0,m0,n0⟩:=k0;obtain⟨h1,h2,h3,h4⟩:=hs;have hid:((r.id.toNat:Nat):Int)=r.id:=by omega
 have j0:=z2d u0 (by omega)
 have eL:z0Y r.mt=putL r.mt:=by unfold z0Y;rw[y0];rfl
 rw[hf]at m0 n0;refine⟨⟨by omega,?_⟩,by simp[z0a,putB2,putB1,layF,hs_1]⟩
 obtain⟨tok,op,id,txt,st,en,sta,mt,any,lo,hi,ru,ls,val⟩:=r;simp only[x0,mk116,mk117,mkI,mkIT,mkZ,mkR,mkLV,mkMt,ReM.mk.injEq]at *
 simp_all
theorem cls_3 {r:ReM} (hm:mayR r=true) (hs:ReSz r) (hf:(fOf r.op).1=3):((r.id.toNat≤2147483647∧r.txt.size≤16)∧(mkIT r.op) ((fun r=>(r.id.toNat,r.txt)) r)=r)∧z0a 3 r=opC r.op::(putN r.id.toNat++txtB r.txt):=by
 have m0:=bd_ok hm;unfold mayR at hm;rw[hf]at hm;simp only[Bool.and_eq_true]at hm;obtain⟨_,hz,hr⟩:=hm;unfold zeroB at hz;unfold z0c at hr;simp only[hs_3,Bool.true_or,Bool.false_or,Bool.not_true,Bool.not_false,Bool.true_and,Bool.and_true,Bool.and_eq_true,z3v,z3w,z2Y,z3W,z2e,z2f,beq_iff_eq,Prod.mk.injEq]at hz hr;obtain⟨op0,op1,id0,id1,y0,hst,hen,u0,j0,q0,n0,r0⟩:=m0;obtain⟨h1,h2,h3,h4⟩:=hs;have hid:((r.id.toNat:Nat):Int)=r.id:=by omega
 have k0:=z2d u0 (by omega)
 have eL:z0Y r.mt=putL r.mt:=by unfold z0Y;rw[q0];rfl
 rw[hf]at n0 r0;refine⟨⟨⟨by omega,y0⟩,?_⟩,by simp[z0a,putB2,putB1,layF,hs_3]⟩
 obtain⟨tok,op,id,txt,st,en,sta,mt,any,lo,hi,ru,ls,val⟩:=r;simp only[x0,mk116,mk117,mkI,mkIT,mkZ,mkR,mkLV,mkMt,ReM.mk.injEq]at *
 simp_all
theorem z9X {r:ReM} (hm:mayR r=true) (hs:ReSz r) (hf:(fOf r.op).1=116):((r.st≤1099511627776∧r.en≤1099511627776∧listB r.mt=true∧(bMay (r.any,r.lo,r.hi)=true∧bSz (r.any,r.lo,r.hi)))∧(mk116 r.op) ((fun r=>(r.st,r.en,r.mt,r.any,r.lo,r.hi)) r)=r)∧z0a 116 r=opC r.op::(putN r.st++(putN r.en++(putL r.mt++putBd (r.any,r.lo,r.hi)))):=by
 have n0:=bd_ok hm;unfold mayR at hm;rw[hf]at hm;simp only[Bool.and_eq_true]at hm;obtain⟨_,hz,hr⟩:=hm;unfold zeroB at hz;unfold z0c at hr;simp only[z6n,Bool.true_or,Bool.false_or,Bool.not_true,Bool.not_false,Bool.true_and,Bool.and_true,Bool.and_eq_true,z3v,z3w,z2Y,z3W,z2e,z2f,beq_iff_eq,Prod.mk.injEq]at hz hr;obtain⟨op0,op1,id0,id1,htx,q0,j0,u0,k0,y0,r0,t0⟩:=n0;obtain⟨h1,h2,h3,h4⟩:=hs;have hid:((r.id.toNat:Nat):Int)=r.id:=by omega
 have m0:=z2d u0 (by omega)
 have eL:z0Y r.mt=putL r.mt:=by unfold z0Y;rw[y0];rfl
 rw[hf]at r0 t0;refine⟨⟨⟨q0,j0,y0,hr.2.2.2.2.2.2,h3⟩,?_⟩,by simp[z0a,putB2,putB1,layF,z6n,eL]⟩
 obtain⟨tok,op,id,txt,st,en,sta,mt,any,lo,hi,ru,ls,val⟩:=r;simp only[x0,mk116,mk117,mkI,mkIT,mkZ,mkR,mkLV,mkMt,ReM.mk.injEq]at *
 simp_all
theorem z9Y {r:ReM} (hm:mayR r=true) (hs:ReSz r) (hf:(fOf r.op).1=117):((r.id.toNat≤2147483647∧r.st≤1099511627776∧r.en≤1099511627776∧listB r.mt=true∧(bMay (r.any,r.lo,r.hi)=true∧bSz (r.any,r.lo,r.hi)))∧(mk117 r.op) ((fun r=>(r.id.toNat,r.st,r.en,r.mt,r.any,r.lo,r.hi)) r)=r)∧z0a 117 r=opC r.op::(putN r.id.toNat++(putN r.st++(putN r.en++(putL r.mt++putBd (r.any,r.lo,r.hi))))):=by
 have n0:=bd_ok hm;unfold mayR at hm;rw[hf]at hm;simp only[Bool.and_eq_true]at hm;obtain⟨_,hz,hr⟩:=hm;unfold zeroB at hz;unfold z0c at hr;simp only[z6o,Bool.true_or,Bool.false_or,Bool.not_true,Bool.not_false,Bool.true_and,Bool.and_true,Bool.and_eq_true,z3v,z3w,z2Y,z3W,z2e,z2f,beq_iff_eq,Prod.mk.injEq]at hz hr;obtain⟨op0,op1,id0,id1,htx,q0,j0,u0,k0,y0,r0,t0⟩:=n0;obtain⟨h1,h2,h3,h4⟩:=hs;have hid:((r.id.toNat:Nat):Int)=r.id:=by omega
 have m0:=z2d u0 (by omega)
 have eL:z0Y r.mt=putL r.mt:=by unfold z0Y;rw[y0];rfl
 rw[hf]at r0 t0;refine⟨⟨⟨by omega,q0,j0,y0,hr.2.2.2.2.2.2,h3⟩,?_⟩,by simp[z0a,putB2,putB1,layF,z6o,eL]⟩
 obtain⟨tok,op,id,txt,st,en,sta,mt,any,lo,hi,ru,ls,val⟩:=r;simp only[x0,mk116,mk117,mkI,mkIT,mkZ,mkR,mkLV,mkMt,ReM.mk.injEq]at *
 simp_all
theorem cls_8 {r:ReM} (hm:mayR r=true) (hs:ReSz r) (hf:(fOf r.op).1=8):((True)∧(mkZ r.op) ((fun r=>opC r.sta) r)=r)∧z0a 8 r=opC r.op::([opC r.sta]):=by
 have k0:=bd_ok hm;unfold mayR at hm;rw[hf]at hm;simp only[Bool.and_eq_true]at hm;obtain⟨_,hz,hr⟩:=hm;unfold zeroB at hz;unfold z0c at hr;simp only[hs_8,Bool.true_or,Bool.false_or,Bool.not_true,Bool.not_false,Bool.true_and,Bool.and_true,Bool.and_eq_true,z3v,z3w,z2Y,z3W,z2e,z2f,beq_iff_eq,Prod.mk.injEq]at hz hr;obtain⟨op0,op1,id0,id1,htx,hst,hen,u0,q0,y0,m0,n0⟩:=k0;obtain⟨h1,h2,h3,h4⟩:=hs;have hid:((r.id.toNat:Nat):Int)=r.id:=by omega
 have j0:=z2d u0 (by omega)
 have eL:z0Y r.mt=putL r.mt:=by unfold z0Y;rw[y0];rfl
 rw[hf]at m0 n0;refine⟨⟨trivial,?_⟩,by simp[z0a,putB2,putB1,layF,hs_8]⟩
 obtain⟨tok,op,id,txt,st,en,sta,mt,any,lo,hi,ru,ls,val⟩:=r;simp only[x0,mk116,mk117,mkI,mkIT,mkZ,mkR,mkLV,mkMt,ReM.mk.injEq]at *
 simp_all
theorem z9Z {r:ReM} (hm:mayR r=true) (hs:ReSz r) (hf:(fOf r.op).1=128):((ruIs r.ru=true∧ruSz r.ru)∧(mkR r.op) ((fun r=>r.ru) r)=r)∧z0a 128 r=opC r.op::(putR r.ru):=by
 have m0:=bd_ok hm;unfold mayR at hm;rw[hf]at hm;simp only[Bool.and_eq_true]at hm;obtain⟨_,hz,hr⟩:=hm;unfold zeroB at hz;unfold z0c at hr;simp only[hs_128,Bool.true_or,Bool.false_or,Bool.not_true,Bool.not_false,Bool.true_and,Bool.and_true,Bool.and_eq_true,z3v,z3w,z2Y,z3W,z2e,z2f,beq_iff_eq,Prod.mk.injEq]at hz hr;obtain⟨op0,op1,id0,id1,htx,hst,hen,y0,j0,q0,u0,n0⟩:=m0;obtain⟨h1,h2,h3,h4⟩:=hs;have hid:((r.id.toNat:Nat):Int)=r.id:=by omega
 have k0:=z2d y0 (by omega)
 have eL:z0Y r.mt=putL r.mt:=by unfold z0Y;rw[q0];rfl
 rw[hf]at u0 n0;have eR:z1H r.ru=putR r.ru:=by unfold z1H;rw[u0 hs_128.2.2.2.2.2.2.2.1];rfl
 refine⟨⟨⟨u0 hs_128.2.2.2.2.2.2.2.1,h4⟩,?_⟩,by simp[z0a,putB2,putB1,layF,hs_128,eR]⟩
 obtain⟨tok,op,id,txt,st,en,sta,mt,any,lo,hi,ru,ls,val⟩:=r;simp only[x0,mk116,mk117,mkI,mkIT,mkZ,mkR,mkLV,mkMt,ReM.mk.injEq]at *
 simp_all
theorem za0 {r:ReM} (hm:mayR r=true) (hs:ReSz r) (hf:(fOf r.op).1=768):((setB r.ls=true∧(r.val<2^64∧bitsF r.val=r.val))∧(mkLV r.op) ((fun r=>(r.ls,r.val)) r)=r)∧z0a 768 r=opC r.op::(z3V r.ls++putV r.val):=by
 have m0:=bd_ok hm;unfold mayR at hm;rw[hf]at hm;simp only[Bool.and_eq_true]at hm;obtain⟨_,hz,hr⟩:=hm;unfold zeroB at hz;unfold z0c at hr;simp only[hs_768,Bool.true_or,Bool.false_or,Bool.not_true,Bool.not_false,Bool.true_and,Bool.and_true,Bool.and_eq_true,z3v,z3w,z2Y,z3W,z2e,z2f,beq_iff_eq,Prod.mk.injEq]at hz hr;obtain⟨op0,op1,id0,id1,htx,hst,hen,u0,j0,q0,n0,y0⟩:=m0;obtain⟨h1,h2,h3,h4⟩:=hs;have hid:((r.id.toNat:Nat):Int)=r.id:=by omega
 have k0:=z2d u0 (by omega)
 have eL:z0Y r.mt=putL r.mt:=by unfold z0Y;rw[q0];rfl
 rw[hf]at n0 y0;have eS:z2P r.ls=z3V r.ls:=by unfold z2P;rw[y0 hs_768.2.2.2.2.2.2.2.2.1];rfl
 refine⟨⟨⟨y0 hs_768.2.2.2.2.2.2.2.2.1,h2⟩,?_⟩,by simp[z0a,putB2,putB1,layF,hs_768,eS]⟩
 obtain⟨tok,op,id,txt,st,en,sta,mt,any,lo,hi,ru,ls,val⟩:=r;simp only[x0,mk116,mk117,mkI,mkIT,mkZ,mkR,mkLV,mkMt,ReM.mk.injEq]at *
 simp_all
theorem ze4 {r:ReM} (hm:mayR r=true) (hs:ReSz r) (hf:(fOf r.op).1=16):((listB r.mt=true)∧(mkMt r.op) ((fun r=>r.mt) r)=r)∧z0a 16 r=opC r.op::(putL r.mt):=by
 have k0:=bd_ok hm;unfold mayR at hm;rw[hf]at hm;simp only[Bool.and_eq_true]at hm;obtain⟨_,hz,hr⟩:=hm;unfold zeroB at hz;unfold z0c at hr;simp only[hs_16,Bool.true_or,Bool.false_or,Bool.not_true,Bool.not_false,Bool.true_and,Bool.and_true,Bool.and_eq_true,z3v,z3w,z2Y,z3W,z2e,z2f,beq_iff_eq,Prod.mk.injEq]at hz hr;obtain⟨op0,op1,id0,id1,htx,hst,hen,u0,q0,y0,m0,n0⟩:=k0;obtain⟨h1,h2,h3,h4⟩:=hs;have hid:((r.id.toNat:Nat):Int)=r.id:=by omega
 have j0:=z2d u0 (by omega)
 have eL:z0Y r.mt=putL r.mt:=by unfold z0Y;rw[y0];rfl
 rw[hf]at m0 n0;refine⟨⟨y0,?_⟩,by simp[z0a,putB2,putB1,layF,hs_16,eL]⟩
 obtain⟨tok,op,id,txt,st,en,sta,mt,any,lo,hi,ru,ls,val⟩:=r;simp only[x0,mk116,mk117,mkI,mkIT,mkZ,mkR,mkLV,mkMt,ReM.mk.injEq]at *
 simp_all
theorem zi3 {op:Int} {r:ReM} (h:r=x0 op):ReSz r:=by
 subst h;have z:(0:Nat)<2^64:=by decide
 exact⟨rfl,⟨z,z1O⟩,⟨z,z⟩,⟨z,z⟩⟩
theorem zi4 {op:Int} {r:ReM} (h:(r.id.toNat≤2147483647)∧(mkI op) ((fun r=>r.id.toNat) r)=r):ReSz r:=⟨by rw[←h.2];rfl,(by rw[←h.2];exact(show(0:Nat)<2^64∧bitsF 0=0 from⟨by decide,z1O⟩)),(by rw[←h.2];show(0:Nat)<2^64∧(0:Nat)<2^64;decide),(by rw[←h.2];show(0:Nat)<2^64∧(0:Nat)<2^64;decide)⟩
theorem zi5 {op:Int} {r:ReM} (h:(r.id.toNat≤2147483647∧r.txt.size≤16)∧(mkIT op) ((fun r=>(r.id.toNat,r.txt)) r)=r):ReSz r:=⟨by rw[←h.2];rfl,(by rw[←h.2];exact(show(0:Nat)<2^64∧bitsF 0=0 from⟨by decide,z1O⟩)),(by rw[←h.2];show(0:Nat)<2^64∧(0:Nat)<2^64;decide),(by rw[←h.2];show(0:Nat)<2^64∧(0:Nat)<2^64;decide)⟩
theorem ze5 {op:Int} {r:ReM} (h:(r.st≤1099511627776∧r.en≤1099511627776∧listB r.mt=true∧(bMay (r.any,r.lo,r.hi)=true∧bSz (r.any,r.lo,r.hi)))∧(mk116 op) ((fun r=>(r.st,r.en,r.mt,r.any,r.lo,r.hi)) r)=r):ReSz r:=⟨by rw[←h.2];rfl,(by rw[←h.2];exact(show(0:Nat)<2^64∧bitsF 0=0 from⟨by decide,z1O⟩)),h.1.2.2.2.2,(by rw[←h.2];show(0:Nat)<2^64∧(0:Nat)<2^64;decide)⟩
theorem ze6 {op:Int} {r:ReM} (h:(r.id.toNat≤2147483647∧r.st≤1099511627776∧r.en≤1099511627776∧listB r.mt=true∧(bMay (r.any,r.lo,r.hi)=true∧bSz (r.any,r.lo,r.hi)))∧(mk117 op) ((fun r=>(r.id.toNat,r.st,r.en,r.mt,r.any,r.lo,r.hi)) r)=r):ReSz r:=⟨by rw[←h.2];rfl,(by rw[←h.2];exact(show(0:Nat)<2^64∧bitsF 0=0 from⟨by decide,z1O⟩)),h.1.2.2.2.2.2,(by rw[←h.2];show(0:Nat)<2^64∧(0:Nat)<2^64;decide)⟩
theorem zi6 {op:Int} {r:ReM} (h:(True)∧(mkZ op) ((fun r=>opC r.sta) r)=r):ReSz r:=⟨by rw[←h.2];rfl,(by rw[←h.2];exact(show(0:Nat)<2^64∧bitsF 0=0 from⟨by decide,z1O⟩)),(by rw[←h.2];show(0:Nat)<2^64∧(0:Nat)<2^64;decide),(by rw[←h.2];show(0:Nat)<2^64∧(0:Nat)<2^64;decide)⟩
theorem ze7 {op:Int} {r:ReM} (h:(ruIs r.ru=true∧ruSz r.ru)∧(mkR op) ((fun r=>r.ru) r)=r):ReSz r:=⟨by rw[←h.2];rfl,(by rw[←h.2];exact(show(0:Nat)<2^64∧bitsF 0=0 from⟨by decide,z1O⟩)),(by rw[←h.2];show(0:Nat)<2^64∧(0:Nat)<2^64;decide),h.1.2⟩
theorem ze8 {op:Int} {r:ReM} (h:(setB r.ls=true∧(r.val<2^64∧bitsF r.val=r.val))∧(mkLV op) ((fun r=>(r.ls,r.val)) r)=r):ReSz r:=⟨by rw[←h.2];rfl,h.1.2,(by rw[←h.2];show(0:Nat)<2^64∧(0:Nat)<2^64;decide),(by rw[←h.2];show(0:Nat)<2^64∧(0:Nat)<2^64;decide)⟩
theorem zfV {op:Int} {r:ReM} (h:(listB r.mt=true)∧(mkMt op) ((fun r=>r.mt) r)=r):ReSz r:=⟨by rw[←h.2];rfl,(by rw[←h.2];exact(show(0:Nat)<2^64∧bitsF 0=0 from⟨by decide,z1O⟩)),(by rw[←h.2];show(0:Nat)<2^64∧(0:Nat)<2^64;decide),(by rw[←h.2];show(0:Nat)<2^64∧(0:Nat)<2^64;decide)⟩
theorem zc7 {b:Byt} {x:ReM} {t:Byt} (h:bodyR b=some (x,t)):mayR x=true:=by
 cases b with
 |nil=>cases h
 |cons c u =>
  have h:onlyR (clR (fOf (c.toNat:Int)).1 (c.toNat:Int)) mayR u=some (x,t):=h;simp only[onlyR]at h
  cases h3:clR (fOf (c.toNat:Int)).1 (c.toNat:Int) u with
  |none=>simp[h3]at h
  |some y =>
   simp only[h3,Option.bind_some]at h;split at h
   · rename_i hm;simp only[Option.some.injEq]at h;subst h;exact hm
   · cases h
theorem body_fits:Fits bodyR z1v (fun r=>mayR r=true∧ReSz r) where
 fwd r t h:=by
  obtain⟨hm,hs⟩:=h;have q0:=bd_ok hm;have hc:z1v r=z0a (fOf r.op).1 r:=by unfold z1v;rw[hm];rfl
  have y0:=z2d q0.op0 q0.op1
  have fin:∀(f:Int) (w:Byt),(fOf r.op).1=f→z0a f r=opC r.op::w→clR f r.op (w++t)=some (r,t)→bodyR (z1v r++t)=some (r,t):=by
   intro f w hf hw k0;rw[hc,hf,hw];show onlyR (clR (fOf (((opC r.op).toNat:Nat):Int)).1 (((opC r.op).toNat:Nat):Int)) mayR (w++t)=some (r,t);rw[y0,hf];simp only[onlyR,k0,Option.bind_some,hm,if_true]
  have u0:=z6m r.op;generalize hf:(fOf r.op).1=f at u0;simp only[List.mem_cons,List.not_mem_nil,or_false]at u0;rcases u0 with rfl|rfl|rfl|rfl|rfl|rfl|rfl|rfl|rfl
  · exact fin _ _ hf (cls_0 hm hs hf).2 ((fit_0 r.op).fwd r t (cls_0 hm hs hf).1)
  · exact fin _ _ hf (cls_1 hm hs hf).2 ((fit_1 r.op).fwd r t (cls_1 hm hs hf).1)
  · exact fin _ _ hf (cls_3 hm hs hf).2 ((fit_3 r.op).fwd r t (cls_3 hm hs hf).1)
  · exact fin _ _ hf (z9X hm hs hf).2 ((ze0 r.op).fwd r t (z9X hm hs hf).1)
  · exact fin _ _ hf (z9Y hm hs hf).2 ((ze1 r.op).fwd r t (z9Y hm hs hf).1)
  · exact fin _ _ hf (cls_8 hm hs hf).2 ((fit_8 r.op).fwd r t (cls_8 hm hs hf).1)
  · exact fin _ _ hf (z9Z hm hs hf).2 ((ze2 r.op).fwd r t (z9Z hm hs hf).1)
  · exact fin _ _ hf (za0 hm hs hf).2 ((ze3 r.op).fwd r t (za0 hm hs hf).1)
  · exact fin _ _ hf (ze4 hm hs hf).2 ((zgQ r.op).fwd r t (ze4 hm hs hf).1)
 bwd b r t h:=by
  have hm:=zc7 h
  cases b with
  |nil=>cases h
  |cons c u =>
   have h:onlyR (clR (fOf (c.toNat:Int)).1 (c.toNat:Int)) mayR u=some (r,t):=h
   have h3:clR (fOf (c.toNat:Int)).1 (c.toNat:Int) u=some (r,t):=by
    simp only[onlyR]at h
    cases h3:clR (fOf (c.toNat:Int)).1 (c.toNat:Int) u with
    |none=>simp[h3]at h
    |some y =>
     simp only[h3,Option.bind_some]at h;split at h
     · exact h
     · cases h
   have y0:=zgO h3;have j0:opC r.op=c:=by rw[y0];exact zaY c
   have hc:z1v r=z0a (fOf r.op).1 r:=by unfold z1v;rw[hm];rfl
   rw[←y0]at h3
   have fin:∀(f:Int) (w:Byt),(fOf r.op).1=f→z0a f r=opC r.op::w→u=w++t→c::u=z1v r++t:=by
    intro f w hf hw hu;rw[hc,hf,hw,j0,hu];rfl
   have u0:=z6m r.op;generalize hf:(fOf r.op).1=f at u0 h3;simp only[List.mem_cons,List.not_mem_nil,or_false]at u0;rcases u0 with rfl|rfl|rfl|rfl|rfl|rfl|rfl|rfl|rfl
   · have k:=(fit_0 r.op).bwd u r t h3;have s:=zi3 k.1;exact⟨⟨hm,s⟩,fin _ _ hf (cls_0 hm s hf).2 k.2⟩
   · have k:=(fit_1 r.op).bwd u r t h3;have s:=zi4 k.1;exact⟨⟨hm,s⟩,fin _ _ hf (cls_1 hm s hf).2 k.2⟩
   · have k:=(fit_3 r.op).bwd u r t h3;have s:=zi5 k.1;exact⟨⟨hm,s⟩,fin _ _ hf (cls_3 hm s hf).2 k.2⟩
   · have k:=(ze0 r.op).bwd u r t h3;have s:=ze5 k.1;exact⟨⟨hm,s⟩,fin _ _ hf (z9X hm s hf).2 k.2⟩
   · have k:=(ze1 r.op).bwd u r t h3;have s:=ze6 k.1;exact⟨⟨hm,s⟩,fin _ _ hf (z9Y hm s hf).2 k.2⟩
   · have k:=(fit_8 r.op).bwd u r t h3;have s:=zi6 k.1;exact⟨⟨hm,s⟩,fin _ _ hf (cls_8 hm s hf).2 k.2⟩
   · have k:=(ze2 r.op).bwd u r t h3;have s:=ze7 k.1;exact⟨⟨hm,s⟩,fin _ _ hf (z9Z hm s hf).2 k.2⟩
   · have k:=(ze3 r.op).bwd u r t h3;have s:=ze8 k.1;exact⟨⟨hm,s⟩,fin _ _ hf (za0 hm s hf).2 k.2⟩
   · have k:=(zgQ r.op).bwd u r t h3;have s:=zfV k.1;exact⟨⟨hm,s⟩,fin _ _ hf (ze4 hm s hf).2 k.2⟩
structure RqSz (r:ReM):Prop where
 val:r.val<2^64∧bitsF r.val=r.val
 bd:r.lo<2^64∧r.hi<2^64
 ru:r.ru.lo<2^64∧r.ru.hi<2^64
def noTok (r:ReM):ReM:={ r with tok:=⟨#[]⟩ }
theorem zc8 (r:ReM):z1v (noTok r)=z1v r:=rfl
def eqLb (x y:Lab):Bool:=x.1.toList==y.1.toList&&(x.2.toList==y.2.toList&&true)
def sameL (A B:List Lab):Bool:=decide (A.length=B.length)&&(List.range A.length).all fun i=>eqLb (A.getD i noLb) (B.getD i noLb)
theorem zfW:bitsF 9221120237041090561=9221120237041090561:=by decide +kernel
theorem z6p (v:Nat):bitsF (bitsF v)=bitsF v:=by
 cases h:nanF v with
 |true =>
  have e:bitsF v=9221120237041090561:=by unfold bitsF;rw[if_pos h]
  rw[e,zfW]
 |false =>
  have e:bitsF v=v:=by unfold bitsF;rw[h];rfl
  rw[e,e]
theorem zi7 {v:Nat} (h:v<2^64):bitsF v<2^64:=by
 unfold bitsF;split
 · decide
 · exact h
def z7b (r:ReM):ReM:={ r with val:=bitsF r.val }
theorem z8Y (r:ReM):mayR (z7b r)=mayR r:=by
 have hz:zF (bitsF r.val)=zF r.val:=by unfold zF;rw[z6p]
 unfold mayR zeroB z0c z7b;simp only[hz]
theorem zc9 (r:ReM):z1v (z7b r)=z1v r:=by
 have hp:putV (bitsF r.val)=putV r.val:=by unfold putV;rw[z6p]
 unfold z1v;rw[z8Y];unfold z0a putB2 putB1 z7b;simp only[hp]
structure SzA (r:ReM):Prop where
 val:r.val<2^64
 bd:r.lo<2^64∧r.hi<2^64
 ru:r.ru.lo<2^64∧r.ru.hi<2^64
theorem ze9 {r:ReM} (hm:mayR r=true) (hs:SzA r) (t:Byt):bodyR (z1v r++t)=some (noTok (z7b r),t):=by
 rw[←zc9,←zc8];exact body_fits.fwd _ t ⟨by show mayR (z7b r)=true;rw[z8Y];exact hm,rfl,⟨zi7 hs.val,z6p _⟩,hs.bd,hs.ru⟩
theorem RqSz.a {x:ReM} (h:RqSz x):SzA x:=⟨h.val.1,h.bd,h.ru⟩
theorem zfX {n:Nat} (h:emI n=true):n=0:=by unfold emI at h;simp only[beq_iff_eq]at h;omega
theorem za1 {α:Type} {o:Option (α×Byt)} {x:α} (h:wholeO o=some x):o=some (x,[]):=by
 unfold wholeO at h;split at h
 · simp only[Option.some.injEq]at h;rw[h]
 · cases h
structure RcOk (n:Nat) (r:RcM):Prop where
 i0:0≤r.ix
 i1:r.ix≤2147483647
 ck:r.ck≤1099511627776
 bd:r.bd.length≤n
 c0:0≤r.cd
 c1:r.cd<256
def toRc (r:RcM):Nat×Nat×ByteArray×UInt8:=(r.ix.toNat,r.ck,⟨r.bd.toArray⟩,cdC r.cd)
theorem zi8 {n:Nat} (hn:n<2^64):Fits (rcR n) putRc (RcOk n):=by
 refine dress_fits (z0N (z1i (by decide)) (z0N (z1i (by decide)) (z0N (z1w hn) byte_fits))) (g:=toRc) ?_ ?_
 · rintro⟨a,b,s,c⟩ ⟨h1,h2,h3,_⟩;have h1:a≤2147483647:=h1;have h3:s.size≤n:=h3;have hc:=c.toNat_lt;refine⟨⟨Int.natCast_nonneg _,by show((a:Nat):Int)≤2147483647;omega,h2,by show s.data.toList.length≤n;rw[z1k];exact h3,Int.natCast_nonneg _,by show((c.toNat:Nat):Int)<256;omega⟩,?_⟩
   show putN a++(putN b++(txtB ⟨s.data.toList.toArray⟩++[c.toNat.toUInt8]))=_;rw[zcF,toUInt8_toNat]
 · rintro⟨i,k,b,c⟩ ⟨h0,h1,h2,h3,h4,h5⟩;simp only at h0 h1 h2 h3 h4 h5;obtain⟨i,rfl⟩:=Int.eq_ofNat_of_zero_le h0;obtain⟨c,rfl⟩:=Int.eq_ofNat_of_zero_le h4;refine⟨⟨by show i≤2147483647;omega,h2,by show(⟨b.toArray⟩:ByteArray).size≤n;rw[z1E];exact h3,trivial⟩,?_⟩
   show(⟨(i:Nat),k,b.toArray.toList,((c.toUInt8.toNat:Nat):Int)⟩:RcM)=_;rw[toNat_toUInt8 (by omega)]
theorem zfY {b:Byt} {x:RcM} (hl:b.length<2^64) (h:rdRc b=some x):b=putRc x∧rcIs x=true:=by
 unfold rdRc okRc at h
 cases hw:wholeO (rcR b.length b) with
 |none=>rw[hw]at h;cases h
 |some y =>
  rw[hw]at h;simp only[Option.bind_some]at h;split at h
  · rename_i hi;simp only[Option.some.injEq]at h;subst h;have:=((zi8 hl).bwd b y [] (za1 hw)).2;rw[List.append_nil]at this;exact⟨this,hi⟩
  · cases h
end Go.Proofs.YteakobbdgehlgaaGreatDoor
namespace Go.Proofs.YteakobbdgehlgaaGreatDoor.Sha
open Go Go.Ab Go.Cod
theorem bytesRc_le (r:RcM) (hb:r.bd.length≤40000):(z0k r).length≤50000:=by
 unfold z0k;split
 · rename_i h;have h1:=z7N h;have h2:(putN r.ix.toNat).length≤10:=z0n (by omega)
   have h3:(putN r.ck).length≤10:=z0n (by omega)
   have h4:=z1B ⟨r.bd.toArray⟩ (by rw[z1E];omega)
   rw[z1E]at h4;unfold putRc;simp only[List.length_append,List.length_cons,List.length_nil];omega
 · exact Nat.zero_le _
section
variable (σ:St)
theorem za2 (h r:List UInt8) (hh:h.length≤50000) (hr:r.length≤50000):Ans Tryz.prog 58 [.sl 1 [.sl 1 (bv [1]),.sl 1 (bv h),.sl 1 (bv r)]] σ (.sl 1 (bv (([[1],h,r]:List (List UInt8)).flatten))) σ :=
 z76 σ [[1],h,r] (by simp) (by simp) (by simp;omega)
end
def ownU (o:Int):Nat:=(IntKind.u64.wrap o).toNat
theorem ownU_eq (o:Int):IntKind.u64.wrap o=((ownU o:Nat):Int):=by
 unfold ownU;have:0≤IntKind.u64.wrap o:=by simp only[IntKind.wrap,IntKind.bits,IntKind.signed];simp;omega
 omega
def genB (o:Int):List UInt8:=0::wrdB (ownU o)
def linkB (h r:List UInt8):List UInt8:=([[1],h,r]:List (List UInt8)).flatten
theorem z0J (h r:List UInt8):(linkB h r).length=1+h.length+r.length:=by unfold linkB;simp;omega
structure ChM where
 most:Int
 L:List RcM
 head:List UInt8
def heldM (m:Int):Int:=if 200<(if 0>m then 0 else m) then 200 else(if 0>m then 0 else m)
def newCh (o m:Int):ChM:=⟨heldM m,[],shaB (genB o)⟩
def rowC (q:Nat) (L:List RcM):AV:=if L.isEmpty then .nils else .osl q L.length
def boxC (q:Nat) (c:ChM):Ob:=.box (I c.most::rowC q c.L::bv c.head)
section
variable (σ:St)
theorem genesis_ans (o:Int):Ans Tryz.prog 28 [I o] σ (.sl 1 (bv (genB o))) σ:=by
 have hu:=ownU_eq o;have hp:∀s,Ans Tryz.prog 57 [UN (ownU o)] s (.sl 1 (bv (wrdB (ownU o)))) s:=fun s=>z9J s (ownU o)
 have hl:=z1c (wrdB (ownU o));have hw:=wrdB_len (ownU o);have e:AV.pl (.int .u8 0)::bv (wrdB (ownU o))=bv (genB o):=rfl;have k1:((1:Nat)+8≤2^32)=True:=eq_true (by decide)
 refine Ans.of_run' t28 (fun u0 _=>?_)
 simp -implicitDefEqProofs only[c28,r28,go_sem,hu];refine CO.intro (hp _) ?_;have y0:(bv (genB o)).length=9:=rfl;simp -implicitDefEqProofs only[go_sem,z5I,hl,hw,k1,G0,S0,List.cons_append,List.nil_append,e,y0];exact Fini.trim2 (σ':=σ) (ex:=[_]) rfl rfl (Nat.le_refl _) (z4M _ _) u0
theorem link_ans (h r:List UInt8) (hh:h.length=32) (hr:r.length≤50000):Ans Tryz.prog 29 [.agg (bv h),.sl 1 (bv r)] σ (.sl 1 (bv (linkB h r))) σ:=by
 have hl:=z1c h;have ha:=bv_all h;have q0:List.take 32 (bv h)=bv h:=List.take_of_length_le (by rw[hl,hh];exact Nat.le_refl _)
 have hc:∀s,Ans Tryz.prog 58 [.sl 1 [.sl 1 (bv [1]),.sl 1 (bv h),.sl 1 (bv r)]] s (.sl 1 (bv (linkB h r))) s:=fun s=>za2 s h r (by omega) (by omega)
 have h1:bv [1]=[.pl (.int .u8 1)]:=rfl;rw[h1]at hc;have u0:=z1c (linkB h r);generalize linkB h r=X at hc u0⊢;refine Ans.of_run' t29 (fun y0 _=>?_)
 simp -implicitDefEqProofs only[c29,r29,go_sem,hl,hh,ha,q0];refine CO.intro (hc _) ?_;simp -implicitDefEqProofs only[go_sem,u0];exact Fini.ret rfl
theorem z8Z (b:List UInt8) (hb:b.length≤100000) (hne:b≠[]):Ans Tryz.prog 44 [.sl 1 (bv b)] σ (.sl 1 (bv b)) σ:=by
 have hl:=z1c b
 have hn:nilA2 σ false (.sl 1 (bv b))=some false:=by
  cases b with
  |nil=>exact absurd rfl hne
  |cons _ _=>rfl
 have e0:(bv b).isEmpty=false:=by
  cases b with
  |nil=>exact absurd rfl hne
  |cons _ _=>rfl
 have k1:(b.length≤2^32)=True:=eq_true (by omega)
 refine Ans.of_run' t44 (fun u0 _=>?_)
 simp -implicitDefEqProofs only[c44,r44,go_sem,hl,e0,hn,z5I,k1,G0,S0];exact Fini.trim2 (σ':=σ) (ex:=[_]) rfl rfl (Nat.le_refl _) (z4M _ _) u0
theorem zaZ (p q:Nat) (c:ChM) (hp:σ[p]?=some (boxC q c)) (hq:c.L≠[]→σ[q]?=some (.row 4 (c.L.map rcV))):Ans Tryz.prog 13 [.ptr p 0] σ (Bo (decide (c.most≤(c.L.length:Int)))) σ:=by
 unfold boxC rowC at hp;refine Ans.of_run t13 ?_
 cases hL:c.L.isEmpty with
 |true =>
  have h0:c.L=[]:=by simpa using hL
  rw[hL]at hp;simp only[if_true]at hp;simp -implicitDefEqProofs only[c13,r13,go_sem,hp,List.drop_succ_cons,List.drop_zero,List.head?_cons];rw[h0];exact Fini.ret rfl
 |false =>
  have hq:=hq (by intro h;rw[h]at hL;cases hL)
  have u0:(c.L.map rcV).length=c.L.length:=List.length_map ..;rw[hL]at hp;simp only[Bool.false_eq_true,if_false]at hp;simp -implicitDefEqProofs only[c13,r13,go_sem,hp,hq,u0,List.drop_succ_cons,List.drop_zero,List.head?_cons];exact Fini.ret rfl
theorem new_ans (o m:Int) (hG:∀ex,gloA (σ++ex) 0=some kV):Ans Tryz.prog 11 [I o,I m] σ (.ptr σ.length 0) (σ++[boxC 0 (newCh o m)]):=by
 have hg:=fun s=>genesis_ans s o
 have hs:=fun ex=>sha_ans (σ++ex) (genB o) (show(9:Nat)≤100000 by decide) (fun ex2=>by rw[List.append_assoc];exact hG _)
 have u0:=hs [];rw[List.append_nil]at u0;have y0:=z0D (genB o);have hl:=z1c (shaB (genB o));unfold newCh boxC rowC;simp only[List.isEmpty_nil,if_true];generalize shaB (genB o)=hd at u0 y0 hl⊢;clear hs;have ha:=bv_all hd;have j0:List.take 32 (bv hd)=bv hd:=List.take_of_length_le (by rw[hl,y0];exact Nat.le_refl _)
 unfold heldM;refine Ans.of_run' t11 (fun q0 _=>?_)
 simp -implicitDefEqProofs only[c11,r11,go_sem];refine CO.intro (hg _) ?_;simp -implicitDefEqProofs only[go_sem];refine CO.intro u0 ?_;simp -implicitDefEqProofs only[go_sem,hl,y0,ha,j0];exact Fini.ret rfl
end
def z0r (c:ChM) (ck:Nat) (bd:List UInt8) (cd:Int):RcM:=⟨c.L.length,ck,bd,cd⟩
def addCh (c:ChM) (r:RcM):ChM:=⟨c.most,c.L++[r],shaB (linkB c.head (z0k r))⟩
theorem gloA_app {σ:St} {k:Nat} {v:List Value}:gloA σ k=some v→∀ex,gloA (σ++ex) k=some v:=by
 induction σ with
 |nil=>intro h;cases h
 |cons o s ih =>
  intro h ex
  cases o with
  |glo g vs =>
   simp only[List.cons_append,gloA]at h⊢;by_cases hg:g=k
   · rw[if_pos hg]at h⊢;exact h
   · rw[if_neg hg]at h⊢;exact ih h ex
  |_=>simp only[List.cons_append,gloA]at h⊢;exact ih h ex
theorem z7R {k:Nat} {cs ds:List AV}:∀{σ:St} {p:Nat},σ[p]?=some (.box cs)→gloA (σ.set p (.box ds)) k=gloA σ k
 |[],p,h=>by simp at h
 |o::s,0,h=>by
  simp only[List.getElem?_cons_zero,Option.some.injEq]at h;subst h;rfl
 |o::s,p+1,h=>by
  have h:s[p]?=some (.box cs):=h;have ih:=z7R (k:=k) (ds:=ds) h;rw[List.set_cons_succ]
  cases o with
  |glo g vs =>
   simp only[gloA];by_cases hg:g=k
   · rw[if_pos hg,if_pos hg]
   · rw[if_neg hg,if_neg hg];exact ih
  |_=>simp only[gloA];exact ih
section
variable (σ:St)
theorem z58 (p:Nat) (most:Int) (hd:List UInt8) (hhd:hd.length=32) (ck:Nat) (bd:List UInt8) (cd:Int) (hp:σ[p]?=some (boxC 0 ⟨most,[],hd⟩)) (hpl:p<σ.length)
  (hne:bd≠[]) (hbl:bd.length≤40000) (hg:gloA σ 0=some kV) :
  Ans Tryz.prog 16 [.ptr p 0,UN ck,.sl 1 (bv bd),I cd] σ (Bo (!decide (most≤0)&&rcIs (z0r ⟨most,[],hd⟩ ck bd cd)))
   (if(!decide (most≤0)&&rcIs (z0r ⟨most,[],hd⟩ ck bd cd)) then σ.set p (boxC (σ.length+1) (addCh ⟨most,[],hd⟩ (z0r ⟨most,[],hd⟩ ck bd cd)))++[.box (rcC (z0r ⟨most,[],hd⟩ ck bd cd)),.row 4 [rcV (z0r ⟨most,[],hd⟩ ck bd cd)]] else σ):=by
 have f0:=fun s=>z8Z s bd (by omega) hne
 have q0:∀ex,(σ++ex)[p]?=some (boxC 0 ⟨most,[],hd⟩):=fun ex=>by rw[List.getElem?_append_left hpl];exact hp
 have h0:=fun ex=>zaZ (σ++ex) p 0 ⟨most,[],hd⟩ (q0 ex) (fun h=>absurd rfl h)
 have r0:=fun s=>z5p s (z0r ⟨most,[],hd⟩ ck bd cd) (by show bd.length≤50000;omega)
 have d0:=fun s=>z3u s (z0r ⟨most,[],hd⟩ ck bd cd) (by show bd.length≤50000;omega)
 have e0:boxC 0 ⟨most,[],hd⟩=.box (I most::.nils::bv hd):=rfl;rw[e0]at hp;simp only[e0]at q0;have hl:=z1c hd;have ha:=bv_all hd;have m0:List.take 32 (bv hd)=bv hd:=List.take_of_length_le (by rw[hl,hhd];exact Nat.le_refl _)
 have o0:rcV (z0r ⟨most,[],hd⟩ ck bd cd)=.agg [I (0:Nat),UN ck,.sl 1 (bv bd),I cd]:=rfl;simp only[o0]at r0 d0;have j0:∀ex,Ans Tryz.prog 13 [.ptr p 0] (σ++ex) (Bo (decide (most≤0))) (σ++ex):=h0;clear h0;generalize decide (most≤0)=F at j0⊢;generalize rcIs (z0r ⟨most,[],hd⟩ ck bd cd)=ri at r0⊢;refine Ans.of_run' t16 (fun k0 _=>?_)
 simp -implicitDefEqProofs only[c16,r16,go_sem,q0,hp,List.drop_succ_cons,List.drop_zero,List.head?_cons,z01]
 first|refine CD.intro (f0 _) ?_|refine CS.intro f0 ?_
 simp -implicitDefEqProofs only[go_sem,q0,hp,List.drop_succ_cons,List.drop_zero,List.head?_cons,G0,S0,z01];refine CD.intro (j0 _) ?_
 cases F with
 |true =>
  simp only[Bool.not_true,Bool.false_and,Bool.false_eq_true,if_false];simp -implicitDefEqProofs only[go_sem,z01];exact Fini.trim2 (σ':=σ) (ex:=[_]) rfl rfl (Nat.le_refl _) (.pl _) k0
 |false =>
  simp -implicitDefEqProofs only[go_sem,G0,z01];refine CD.intro (r0 _) ?_
  cases ri with
  |false =>
   simp only[Bool.not_false,Bool.and_false,Bool.false_eq_true,if_false];simp -implicitDefEqProofs only[go_sem,z01,G0];exact Fini.trim2 (σ':=σ) (ex:=[_]) rfl rfl (Nat.le_refl _) (.pl _) k0
  |true =>
   simp only[Bool.not_false,Bool.and_self,Bool.true_and,if_true];have k1:((1:Nat)≤2^32)=True:=eq_true (by decide)
   have n0:∀(x:Ob) (ex:St),(σ++ex).set p x=σ.set p x++ex:=fun x ex=>List.set_append_left _ _ hpl
   have hX:∀(x:Ob) (ex:St),(σ.set p x++ex)[p]?=some x:=fun x ex=>by rw[List.getElem?_append_left (by rw[List.length_set];exact hpl),List.getElem?_set_self hpl]
   have hY:∀(x y:Ob) (ex:St),(σ.set p x++y::ex)[σ.length]?=some y:=fun x y ex=>by rw[List.getElem?_append_right (by rw[List.length_set];exact Nat.le_refl _),List.length_set,Nat.sub_self];rfl
   have u0:∀(x y:Ob) (ex:St),(σ.set p x++ex).set p y=σ.set p y++ex:=fun x y ex=>by rw[List.set_append_left _ _ (by rw[List.length_set];exact hpl),List.set_set]
   have y0:=fun ds ex=>sha_ans (σ.set p (.box ds)++ex) (linkB hd (z0k (z0r ⟨most,[],hd⟩ ck bd cd))) (by have:=bytesRc_le (z0r ⟨most,[],hd⟩ ck bd cd) (show bd.length≤40000 from hbl);rw[z0J];omega) (gloA_app (gloA_app (by rw[z7R hp];exact hg) ex))
   have u1:=fun s=>link_ans s hd (z0k (z0r ⟨most,[],hd⟩ ck bd cd)) hhd (bytesRc_le _ (show bd.length≤40000 from hbl))
   have l0:addCh ⟨most,[],hd⟩ (z0r ⟨most,[],hd⟩ ck bd cd)=⟨most,[z0r ⟨most,[],hd⟩ ck bd cd],shaB (linkB hd (z0k (z0r ⟨most,[],hd⟩ ck bd cd)))⟩:=rfl;rw[l0];have t0:=z0D (linkB hd (z0k (z0r ⟨most,[],hd⟩ ck bd cd)));generalize shaB (linkB hd (z0k (z0r ⟨most,[],hd⟩ ck bd cd)))=nh at y0 t0⊢;have nl:=z1c nh;have na:=bv_all nh;have hdr:List.drop 32 (bv hd)=[]:=List.drop_of_length_le (by rw[hl,hhd];exact Nat.le_refl _)
   simp -implicitDefEqProofs only[go_sem,k1,n0,hX,hY,u0,List.append_assoc,List.cons_append,List.nil_append,List.length_append,List.length_cons,List.length_nil,z01,q0,List.drop_succ_cons,List.drop_zero,List.head?_cons,G0,hl,hhd,m0];refine CD.intro (d0 _) ?_;simp -implicitDefEqProofs only[go_sem,z01,hX,hY,u0,List.drop_succ_cons,List.drop_zero,hl,hhd,m0];refine CD.intro (u1 _) ?_;simp -implicitDefEqProofs only[go_sem,z01,hX,hY,u0,List.drop_succ_cons,List.drop_zero,hl,hhd,m0];refine CD.intro (y0 _ _) ?_;simp -implicitDefEqProofs only[go_sem,z01,hX,hY,u0,List.drop_succ_cons,List.drop_zero,hl,hhd,m0,nl,na,t0,hdr];exact Fini.ret rfl
end
theorem bel_rcV (n:Nat) (r:RcM):Bel n (rcV r):=.agg _ fun i hi=>by
 have hm:(rcC r)[i]'hi∈rcC r:=List.getElem_mem hi;generalize (rcC r)[i]'hi=x at hm;unfold rcC at hm;simp only[List.mem_cons,List.not_mem_nil,or_false]at hm;rcases hm with rfl|rfl|rfl|rfl
 · exact .pl _
 · exact .pl _
 · exact z4M _ _
 · exact .pl _
theorem zea (n:Nat) (L:List RcM):BelO n (.row 4 (L.map rcV)):=fun x hx=>by
 obtain⟨r,_,rfl⟩:=List.mem_map.1 hx;exact bel_rcV n r
theorem zca (n q:Nat) (c:ChM) (h:q<n):BelO n (boxC q c):=fun x hx=>by
 rcases List.mem_cons.1 hx with rfl|hx
 · exact .pl _
 · rcases List.mem_cons.1 hx with rfl|hx
   · unfold rowC;split
     · exact .nils
     · exact .osl _ _ h
   · obtain⟨u,_,rfl⟩:=List.mem_map.1 hx;exact .pl _
theorem zb0 {n:Nat} {σ:St} {i:Nat} {o:Ob} (h:∀x∈σ,BelO n x) (ho:BelO n o):∀x∈σ.set i o,BelO n x:=fun x hx=>by
 rcases List.mem_or_eq_of_mem_set hx with hx|rfl
 · exact h x hx
 · exact ho
def z3X (c:ChM):Nat:=(c.L.getD (c.L.length-1) ⟨0,0,[],0⟩).ck
def takes (c:ChM) (ck:Nat) (bd:List UInt8) (cd:Int):Bool:=!decide (c.most≤(c.L.length:Int))&&(rcIs (z0r c ck bd cd)&& !decide ((ck:Int)<(z3X c:Int)))
def chSt (σ:St) (p q:Nat) (c:ChM):St:=(σ.set q (.row 4 (c.L.map rcV))).set p (boxC q c)
theorem z90 {k n m:Nat} {xs ys:List AV}:∀{σ:St} {p:Nat},σ[p]?=some (.row n xs)→gloA (σ.set p (.row m ys)) k=gloA σ k
 |[],p,h=>by simp at h
 |o::s,0,h=>by
  simp only[List.getElem?_cons_zero,Option.some.injEq]at h;subst h;rfl
 |o::s,p+1,h=>by
  have h:s[p]?=some (.row n xs):=h;have ih:=z90 (k:=k) (m:=m) (ys:=ys) h;rw[List.set_cons_succ]
  cases o with
  |glo g vs =>
   simp only[gloA];by_cases hg:g=k
   · rw[if_pos hg,if_pos hg]
   · rw[if_neg hg,if_neg hg];exact ih
  |_=>simp only[gloA];exact ih
section
variable (σ:St)
theorem z6q (p q:Nat) (c:ChM) (hhd:c.head.length=32) (hL:c.L≠[]) (hLn:c.L.length≤100000) (ck:Nat) (bd:List UInt8) (cd:Int) (hp:σ[p]?=some (boxC q c)) (hq:σ[q]?=some (.row 4 (c.L.map rcV))) (hpl:p<σ.length) (hql:q<σ.length) (hpq:p≠q)
  (hne:bd≠[]) (hbl:bd.length≤40000) (hg:gloA σ 0=some kV) :
  Ans Tryz.prog 16 [.ptr p 0,UN ck,.sl 1 (bv bd),I cd] σ (Bo (takes c ck bd cd)) (if takes c ck bd cd then chSt σ p q (addCh c (z0r c ck bd cd)) else σ):=by
 have u1:=fun s=>z8Z s bd (by omega) hne
 have q0:∀ex,(σ++ex)[p]?=some (boxC q c):=fun ex=>by rw[List.getElem?_append_left hpl];exact hp
 have k0:∀ex,(σ++ex)[q]?=some (.row 4 (c.L.map rcV)):=fun ex=>by rw[List.getElem?_append_left hql];exact hq
 have x1:=fun ex=>zaZ (σ++ex) p q c (q0 ex) (fun _=>k0 ex)
 have f0:=fun s=>z5p s (z0r c ck bd cd) (by show bd.length≤50000;omega)
 have l0:=fun s=>z3u s (z0r c ck bd cd) (by show bd.length≤50000;omega)
 have i1:c.L.isEmpty=false:=by
  cases h:c.L with
  |nil=>exact absurd h hL
  |cons _ _=>rfl
 have o0:boxC q c=.box (I c.most::.osl q c.L.length::bv c.head):=by unfold boxC rowC;rw[i1];rfl
 rw[o0]at hp;simp only[o0]at q0;have hl:=z1c c.head;have ha:=bv_all c.head;have n0:List.take 32 (bv c.head)=bv c.head:=List.take_of_length_le (by rw[hl,hhd];exact Nat.le_refl _)
 have r1:rcV (z0r c ck bd cd)=.agg [I (c.L.length:Nat),UN ck,.sl 1 (bv bd),I cd]:=rfl;simp only[r1]at f0 l0;have r0:(c.L.map rcV).length=c.L.length:=List.length_map ..;unfold takes z3X;obtain⟨lr,hlr⟩:∃lr,lr=c.L.getD (c.L.length-1) ⟨0,0,[],0⟩:=⟨_,rfl⟩;rw[←hlr];generalize hRI:rcIs (z0r c ck bd cd)=ri at f0⊢;generalize decide (c.most≤(c.L.length:Int))=F at x1⊢;refine Ans.of_run' t16 (fun y0 _=>?_)
 simp -implicitDefEqProofs only[c16,r16,go_sem,q0,hp,k0,hq,r0,List.drop_succ_cons,List.drop_zero,List.head?_cons,z01]
 first|refine CD.intro (u1 _) ?_|refine CS.intro u1 ?_
 simp -implicitDefEqProofs only[go_sem,q0,hp,k0,hq,r0,List.drop_succ_cons,List.drop_zero,List.head?_cons,G0,S0,z01];refine CD.intro (x1 _) ?_
 cases F with
 |true =>
  simp only[Bool.not_true,Bool.false_and,Bool.false_eq_true,if_false];simp -implicitDefEqProofs only[go_sem,z01];exact Fini.trim2 (σ':=σ) (ex:=[_]) rfl rfl (Nat.le_refl _) (.pl _) y0
 |false =>
  simp -implicitDefEqProofs only[go_sem,G0,z01];refine CD.intro (f0 _) ?_
  cases ri with
  |false =>
   simp only[Bool.not_false,Bool.false_and,Bool.and_false,Bool.false_eq_true,if_false];simp -implicitDefEqProofs only[go_sem,z01,G0];exact Fini.trim2 (σ':=σ) (ex:=[_]) rfl rfl (Nat.le_refl _) (.pl _) y0
  |true =>
   have n1:decide ((0:Int)<(c.L.length:Nat))=true:=decide_eq_true (by have:c.L.length≠0:=fun h=>hL (List.length_eq_zero_iff.1 h);omega)
   have t1:IntKind.i64.wrap (((c.L.length:Nat):Int)-1)=((c.L.length-1:Nat):Int):=by
    have:c.L.length≠0:=fun h=>hL (List.length_eq_zero_iff.1 h)
    simp only[IntKind.wrap,IntKind.bits,IntKind.signed];simp;omega
   have d1:∀n:Nat,((0:Int)≤(n:Int))=True:=fun n=>eq_true (Int.natCast_nonneg _)
   have y1:(((c.L.length-1:Nat):Int)<((c.L.length:Nat):Int))=True:=eq_true (by have:c.L.length≠0:=fun h=>hL (List.length_eq_zero_iff.1 h);omega)
   have d0:(c.L.map rcV)[c.L.length-1]?=some (.agg [I lr.ix,UN lr.ck,.sl 1 (bv lr.bd),I lr.cd]):=by
    rw[hlr];have h:c.L.length-1<c.L.length:=by have:c.L.length≠0:=fun h=>hL (List.length_eq_zero_iff.1 h);omega
    rw[List.getElem?_map,List.getElem?_eq_getElem h,List.getD_eq_getElem?_getD,List.getElem?_eq_getElem h];rfl
   simp -implicitDefEqProofs only[go_sem,q0,hp,k0,hq,r0,n1,t1,d1,y1,d0,Int.toNat_natCast,List.drop_succ_cons,List.drop_zero,List.head?_cons,G0,z01]
   cases hG:decide ((ck:Int)<(lr.ck:Int)) with
   |true =>
    simp only[Bool.not_true,Bool.and_false,Bool.false_eq_true,if_false];simp -implicitDefEqProofs only[go_sem,z01,hG];exact Fini.trim2 (σ':=σ) (ex:=[_]) rfl rfl (Nat.le_refl _) (.pl _) y0
   |false =>
    simp only[Bool.not_false,Bool.and_self,if_true];have k1:(c.L.length+1≤2^32)=True:=eq_true (by omega)
    have t0:∀(x:Ob) (ex:St),(σ++ex).set q x=σ.set q x++ex:=fun x ex=>List.set_append_left _ _ hql
    have h1:∀(x:Ob) (ex:St),(σ.set q x++ex)[p]?=some (.box (I c.most::.osl q c.L.length::bv c.head)):=fun x ex=>by
     rw[List.getElem?_append_left (by rw[List.length_set];exact hpl),List.getElem?_set_ne (fun h=>hpq h.symm)];exact hp
    have e0:∀z,(σ.set q (.row 4 z))[p]?=some (.box (I c.most::.osl q c.L.length::bv c.head)):=fun z=>by rw[List.getElem?_set_ne (fun h=>hpq h.symm)];exact hp
    have m0:∀(x y:Ob) (ex:St),(σ.set q x++ex).set p y=(σ.set q x).set p y++ex:=fun x y ex=>List.set_append_left _ _ (by rw[List.length_set];exact hpl)
    have hX:∀(z x:Ob) (ex:St),((σ.set q z).set p x++ex)[p]?=some x:=fun z x ex=>by rw[List.getElem?_append_left (by rw[List.length_set,List.length_set];exact hpl),List.getElem?_set_self (by rw[List.length_set];exact hpl)]
    have hY:∀(z x y:Ob) (ex:St),((σ.set q z).set p x++y::ex)[σ.length]?=some y:=fun z x y ex=>by rw[List.getElem?_append_right (by rw[List.length_set,List.length_set];exact Nat.le_refl _),List.length_set,List.length_set,Nat.sub_self];rfl
    have u0:∀(z x y:Ob) (ex:St),((σ.set q z).set p x++ex).set p y=(σ.set q z).set p y++ex:=fun z x y ex=>by rw[List.set_append_left _ _ (by rw[List.length_set,List.length_set];exact hpl),List.set_set]
    have j1:c.L.map rcV++[.agg [I (c.L.length:Nat),UN ck,.sl 1 (bv bd),I cd]]=(addCh c (z0r c ck bd cd)).L.map rcV:=by
     show _=(c.L++[z0r c ck bd cd]).map rcV;rw[List.map_append];rfl
    simp -implicitDefEqProofs only[go_sem,z01,hG,k1,t0,h1,m0,hX,hY,u0,k0,q0,r0,j1,G0,List.drop_succ_cons,List.drop_zero,List.head?_cons,hl,hhd,n0];refine CD.intro (l0 _) ?_;have e1:=fun s=>link_ans s c.head (z0k (z0r c ck bd cd)) hhd (bytesRc_le _ (show bd.length≤40000 from hbl))
    have j0:=fun z ds ex=>sha_ans ((σ.set q (.row 4 z)).set p (.box ds)++ex) (linkB c.head (z0k (z0r c ck bd cd))) (by have:=bytesRc_le (z0r c ck bd cd) (show bd.length≤40000 from hbl);rw[z0J];omega) (gloA_app (gloA_app (by rw[z7R (e0 z),z90 hq];exact hg) ex))
    have q1:addCh c (z0r c ck bd cd)=⟨c.most,c.L++[z0r c ck bd cd],shaB (linkB c.head (z0k (z0r c ck bd cd)))⟩:=rfl;have h0:=z0D (linkB c.head (z0k (z0r c ck bd cd)))
    have m1:boxC q (addCh c (z0r c ck bd cd))=.box (I c.most::.osl q (c.L.length+1)::bv (shaB (linkB c.head (z0k (z0r c ck bd cd))))):=by
     rw[q1];unfold boxC rowC;have:(c.L++[z0r c ck bd cd]).isEmpty=false:=by simp
     simp only[this,Bool.false_eq_true,if_false,List.length_append,List.length_cons,List.length_nil,Nat.zero_add]
    unfold chSt;rw[m1];generalize shaB (linkB c.head (z0k (z0r c ck bd cd)))=nh at j0 h0⊢;have nl:=z1c nh;have na:=bv_all nh;have hdr:List.drop 32 (bv c.head)=[]:=List.drop_of_length_le (by rw[hl,hhd];exact Nat.le_refl _)
    simp -implicitDefEqProofs only[go_sem,z01,hX,hY,u0,List.drop_succ_cons,List.drop_zero,hl,hhd,n0];refine CD.intro (e1 _) ?_;simp -implicitDefEqProofs only[go_sem,z01,hX,hY,u0,List.drop_succ_cons,List.drop_zero,hl,hhd,n0];refine CD.intro (j0 _ _ _) ?_;simp -implicitDefEqProofs only[go_sem,z01,hX,hY,u0,List.drop_succ_cons,List.drop_zero,hl,hhd,n0,nl,na,h0,hdr,List.append_nil];refine Fini.trim2 (ex:=[_]) rfl rfl (by rw[List.length_set,List.length_set];exact Nat.le_refl _) (.pl _) ?_
    rw[List.length_set,List.length_set];refine zb0 (zb0 y0 (zea _ _)) ?_;have:=zca σ.length q ⟨c.most,c.L++[z0r c ck bd cd],nh⟩ hql;unfold boxC rowC at this;have he:(c.L++[z0r c ck bd cd]).isEmpty=false:=by simp
    simp only[he,Bool.false_eq_true,if_false,List.length_append,List.length_cons,List.length_nil,Nat.zero_add]at this;exact this
end
def oneR (i:Nat):RcM:=⟨i,i,[1],0⟩
def oneL (i:Nat):List RcM:=(List.range i).map oneR
def headF (o:Int):Nat→List UInt8
 |0=>shaB (genB o)
 |i+1=>shaB (linkB (headF o i) (z0k (oneR i)))
def chF (o m:Int) (i:Nat):ChM:=⟨heldM m,oneL i,headF o i⟩
def glo0:Ob:=.glo 0 kV
def glo1:Ob:=.glo 1 kV
def lay (m:Int):Nat→St
 |0=>[glo0,glo1,boxC 0 (chF 1 m 0)]
 |j+1=>[glo0,glo1,boxC 4 (chF 1 m (j+1)),.box (rcC (oneR 0)),.row 4 ((oneL (j+1)).map rcV)]
section
variable (σ:St)
end
end Go.Proofs.YteakobbdgehlgaaGreatDoor.Sha
