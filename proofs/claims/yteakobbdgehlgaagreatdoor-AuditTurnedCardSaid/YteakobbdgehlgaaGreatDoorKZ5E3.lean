/- A request laid as bytes, by the document: the walk. No condition. -/
import Derived.Test.YteakobbdgehlgaaGreatDoorKRb5E3
import Derived.Test.YteakobbdgehlgaaGreatDoorKFullE3
import Derived.Test.YteakobbdgehlgaaGreatDoorKRq2cE3
import Derived.Test.YteakobbdgehlgaaGreatDoorKRc12E3
import Derived.Test.YteakobbdgehlgaaGreatDoorKShA1E3
set_option linter.unusedSimpArgs false
set_option linter.unusedVariables false
set_option linter.unusedSectionVars false
set_option maxRecDepth 100000
set_option maxHeartbeats 8000000
namespace Go.Proofs.YteakobbdgehlgaaGreatDoor
open Go Go.Ab Go.Cod
section
variable (σ:St)
theorem zej (r:ReM) (hsm:ReSm r):Ans Tryz.prog 46 [reV r] σ (.sl 1 (byv (z1v r))) σ:=by
 have hi:=fun s=>zc6 s r hsm
 unfold z1v
 cases hM:mayR r with
 |false =>
  have:Ans Tryz.prog 46 [reV r] σ .nils σ:=by
   refine Ans.of_run t46 ?_;unfold reV reC at hi⊢;simp -implicitDefEqProofs only[c46,r46,go_sem];refine CO.intro (hi _) ?_;rw[hM];simp -implicitDefEqProofs only[go_sem];exact Fini.ret rfl
  exact this.subR (.nils 1)
 |true =>
  have t0:=bd_ok hM;obtain⟨l0,hsz,j0⟩:=zjF hM;rw[if_pos rfl,←j0];have hf:=fun s=>z0X s r.op
  have r1:=zb7 t0 (dOf r.op);have y0:=zb6 t0;have k0:=z95 r (dOf r.op);have hzero:preC r (dOf r.op) 0=[opC r.op]:=by simp[preC]
  have hss:=z1k (dOf r.op);generalize dOf r.op=s at *;obtain⟨j1,y1,id0,id1,htx,hst,hen,f0,k1,t1,d1,e1⟩:=t0;have m1:=fun s=>z7M s r.id.toNat (by omega)
  have m2:=fun s=>z1S s r.txt (by omega)
  have m3:=fun s=>z7M s r.st (by omega)
  have m4:=fun s=>z7M s r.en (by omega)
  have m5:=fun s=>z74 s r.mt hsm.mt
  have m6:=fun s=>z3U s (r.any,r.lo,r.hi)
  have m7:=fun s=>z8T s r.ru hsm.ru
  have m8:=fun s=>z9V s r.ls hsm.ls
  have m9:=fun s=>z0Q s r.val
  have mA:=fun s=>z3K s (bitsF r.val)
  have w1:IntKind.u64.wrap r.id=((r.id.toNat:Nat):Int):=by
   rw[show r.id=((r.id.toNat:Nat):Int) from by omega,z1q (by omega)];rfl
  have w2:=z7P j1 y1;have w3:=z7P f0 (by omega)
  have c78:putC r 73=putN r.id.toNat:=rfl;have x1:putC r 84=txtB r.txt:=rfl;have c98:putC r 83=putN r.st:=rfl;have c69:putC r 69=putN r.en:=rfl;have c119:putC r 90=[opC r.sta]:=rfl;have c77:putC r 77=z0Y r.mt:=rfl;have u1:putC r 66=putBd (r.any,r.lo,r.hi):=rfl;have c70:putC r 82=z1H r.ru:=rfl;have c53:putC r 76=z2P r.ls:=rfl;have c163:putC r 86=putV r.val:=rfl;have c75:putC r 45=[]:=rfl;have n1:=y0 45;clear t1 d1 e1 j0;obtain⟨tok,op,id,n0,st,en,h0,mt,any,lo,r0,⟨src,m0,ra,rl,rh,eq⟩,ls,val⟩:=r;simp only at m1 m2 m3 m4 m5 m6 m7 m8 m9 mA w1 w2 w3 hf c78 x1 c98 c69 c119 c77 u1 c70 c53 c163 hzero;refine Ans.of_run' t46 (fun e0 _=>?_)
  unfold reV reC at hi⊢;unfold bandV at m6;unfold ruV at m7;simp -implicitDefEqProofs only[c46,r46,go_sem];refine CO.intro (hi _) ?_;rw[hM];simp -implicitDefEqProofs only[go_sem];refine CO.intro (hf _) ?_;simp -implicitDefEqProofs only[go_sem,w2,g0,s0];generalize hR:({ tok:=tok,op:=op,id:=id,txt:=n0,st:=st,en:=en,sta:=h0,mt:=mt,any:=any,lo:=lo,hi:=r0,ru:={ src:=src,tgt:=m0,any:=ra,lo:=rl,hi:=rh,eq:=eq },ls:=ls,val:=val }:ReM)=R at *;refine Go.Ab.L.count s.size (fun i=>mkE 99 [(1,.rp [Sx tok,I op,I id,Sx n0,UN st,UN en,I h0,mlV mt,Bo any,Fl lo,Fl r0,mlV src,mlV m0,Bo ra,Fl rl,Fl rh,.sl 1 (txs eq),lsV ls,Fl val]),(3,Sx s),(4,.osl σ.length (preC R s i).length),(5,I i)]) (fun i=>σ++[.row 1 (byv (preC R s i))]) ?_ ?_ (by rw[hzero];rfl) (by rw[hzero];rfl)
  · intro i u0 J hJ;have o0:i<s.data.toList.length:=by omega
    have hp:=r1 i (by omega)
    have hc:=l0 s.data.toList[i] (List.getElem_mem o0)
    have hx:byteAt s i=(s.data.toList[i]).toNat:=by
     unfold byteAt;rw[List.getD_eq_getElem?_getD,List.getElem?_eq_getElem o0,Option.getD_some]
    rw[k0 i o0,List.length_append]at hJ;have y0:=y0 s.data.toList[i];generalize s.data.toList[i]=c at hx hc hJ y0;generalize preC R s i=pre at hJ hp⊢;have q0:=wrap_succ (i:=i) (by omega)
    unfold z12 at hc;rcases hc with rfl|rfl|rfl|rfl|rfl|rfl|rfl|rfl|rfl|rfl|rfl
    · rw[c78]at hJ y0;have hb:((byteAt s i:Nat):Int)=73:=by rw[hx];rfl
      have q1:pre.length+(putN id.toNat).length≤4294967296:=by omega
      simp -implicitDefEqProofs only[mkE,go_sem,z0e u0,dec_lt u0,hb,z07,w1];refine CO.intro (m1 _) ?_;simp -implicitDefEqProofs only[go_sem,g0,s0,z05,z0q,bc,q1,q0];simp only[z0t]at hJ;exact hJ
    · rw[x1]at hJ y0;have hb:((byteAt s i:Nat):Int)=84:=by rw[hx];rfl
      have q1:pre.length+(txtB n0).length≤4294967296:=by omega
      simp -implicitDefEqProofs only[mkE,go_sem,z0e u0,dec_lt u0,hb,z07,w1];refine CO.intro (m2 _) ?_;simp -implicitDefEqProofs only[go_sem,g0,s0,z05,z0q,bc,q1,q0];simp only[z0t]at hJ;exact hJ
    · rw[c98]at hJ y0;have hb:((byteAt s i:Nat):Int)=83:=by rw[hx];rfl
      have q1:pre.length+(putN st).length≤4294967296:=by omega
      simp -implicitDefEqProofs only[mkE,go_sem,z0e u0,dec_lt u0,hb,z07,w1];refine CO.intro (m3 _) ?_;simp -implicitDefEqProofs only[go_sem,g0,s0,z05,z0q,bc,q1,q0];simp only[z0t]at hJ;exact hJ
    · rw[c69]at hJ y0;have hb:((byteAt s i:Nat):Int)=69:=by rw[hx];rfl
      have q1:pre.length+(putN en).length≤4294967296:=by omega
      simp -implicitDefEqProofs only[mkE,go_sem,z0e u0,dec_lt u0,hb,z07,w1];refine CO.intro (m4 _) ?_;simp -implicitDefEqProofs only[go_sem,g0,s0,z05,z0q,bc,q1,q0];simp only[z0t]at hJ;exact hJ
    · rw[c119]at hJ y0;have hb:((byteAt s i:Nat):Int)=90:=by rw[hx];rfl
      have q1:pre.length+1≤4294967296:=by omega
      simp -implicitDefEqProofs only[mkE,go_sem,z0e u0,dec_lt u0,hb,z07,w3,g0,s0,z05,z0q,bc,q1,q0];simp only[z0t]at hJ;exact hJ
    · rw[c77]at hJ y0;have hb:((byteAt s i:Nat):Int)=77:=by rw[hx];rfl
      have q1:pre.length+(z0Y mt).length≤4294967296:=by omega
      simp -implicitDefEqProofs only[mkE,go_sem,z0e u0,dec_lt u0,hb,z07,w1];refine CO.intro (m5 _) ?_;simp -implicitDefEqProofs only[go_sem,g0,s0,z05,z0q,bc,q1,q0];simp only[z0t]at hJ;exact hJ
    · rw[u1]at hJ y0;have hb:((byteAt s i:Nat):Int)=66:=by rw[hx];rfl
      have q1:pre.length+(putBd (any,lo,r0)).length≤4294967296:=by omega
      simp -implicitDefEqProofs only[mkE,go_sem,z0e u0,dec_lt u0,hb,z07,w1];refine CO.intro (m6 _) ?_;simp -implicitDefEqProofs only[go_sem,g0,s0,z05,z0q,bc,q1,q0];simp only[z0t]at hJ;exact hJ
    · rw[c70]at hJ y0;have hb:((byteAt s i:Nat):Int)=82:=by rw[hx];rfl
      have q1:pre.length+(z1H ⟨src,m0,ra,rl,rh,eq⟩).length≤4294967296:=by omega
      simp -implicitDefEqProofs only[mkE,go_sem,z0e u0,dec_lt u0,hb,z07,w1];refine CO.intro (m7 _) ?_;simp -implicitDefEqProofs only[go_sem,g0,s0,z05,z0q,bc,q1,q0];simp only[z0t]at hJ;exact hJ
    · rw[c53]at hJ y0;have hb:((byteAt s i:Nat):Int)=76:=by rw[hx];rfl
      have q1:pre.length+(z2P ls).length≤4294967296:=by omega
      simp -implicitDefEqProofs only[mkE,go_sem,z0e u0,dec_lt u0,hb,z07,w1];refine CO.intro (m8 _) ?_;simp -implicitDefEqProofs only[go_sem,g0,s0,z05,z0q,bc,q1,q0];simp only[z0t]at hJ;exact hJ
    · rw[c163]at hJ y0;have hb:((byteAt s i:Nat):Int)=86:=by rw[hx];rfl
      have q1:pre.length+(wrdB (bitsF val)).length≤4294967296:=by have:(wrdB (bitsF val)).length=8:=wrdB_len _;omega
      simp -implicitDefEqProofs only[mkE,go_sem,z0e u0,dec_lt u0,hb,z07,w1];refine CO.intro (m9 _) ?_;simp -implicitDefEqProofs only[go_sem];refine CO.intro (mA _) ?_;simp -implicitDefEqProofs only[go_sem,g0,s0,z05,z0q,bc,q1,q0];unfold putV at hJ;simp only[z0t]at hJ;exact hJ
    · rw[c75]at hJ;have hb:((byteAt s i:Nat):Int)=45:=by rw[hx];rfl
      simp -implicitDefEqProofs only[mkE,go_sem,z0e u0,dec_lt u0,hb,z07,q0];simp only[List.append_nil,List.length_nil,Nat.add_zero]at hJ;exact hJ
  · intro J;have d0:decide ((s.size:Int)<s.size)=false:=by simp
    simp -implicitDefEqProofs only[mkE,go_sem,d0,g0,s0,z05];exact Fini.trim2 (σ':=σ) (ex:=[_]) rfl rfl (Nat.le_refl _) (z1j _ _) e0
end
open Go.ChangeShapes Go.WideShapes Go.ChangeAt Go.RowKit
theorem zif (r:RuM):([z1H r]:List Byt).flatten.length≤2000:=by
 unfold z1H
 cases h:ruIs r with
 |false=>simp
 |true =>
  have hp:=z5m h r.eq.length (Nat.le_refl _);have hl:=(z29 h).2.2.2.1;rw[z7H]at hp;simp;omega
theorem z6s (r:ReM):(z1v r).length≤4000:=by
 unfold z1v
 cases hM:mayR r with
 |false=>exact Nat.zero_le _
 |true =>
  obtain⟨op0,op1,id0,id1,htx,hst,hen,y0,q0,u0,hru,hls⟩:=bd_ok hM;rw[if_pos rfl];unfold z0a putB2 putB1;have f1:∀b:Byt,([b]:List Byt).flatten=b:=fun b=>by simp
  have f2:∀b c:Byt,([b,c]:List Byt).flatten.length=b.length+c.length:=fun b c=>by simp
  refine Nat.le_trans (z2s (n:=3600) (m:=8) (z2s (n:=2600) (m:=1000) (z2s (n:=600) (m:=2000) (z2s (n:=583) (m:=17) (z2s (n:=73) (m:=510) (z2s (n:=72) (m:=1) (z2s (n:=52) (m:=20) (z2s (n:=12) (m:=40) (z2s (n:=2) (m:=10) (by simp) ?_) ?_) ?_) ?_) ?_) ?_) ?_) ?_) ?_) (by decide)<;>intro _
  · rw[f1];exact z0n (by omega)
  · rw[f1];have:=z1B r.txt (by omega);omega
  · rw[f2];have:=z0n (n:=r.st) (by omega);have:=z0n (n:=r.en) (by omega);omega
  · simp
  · exact(z8W u0).2
  · rw[f1];exact z6i _
  · exact zif _
  · exact zdZ _
  · rw[f1];exact Nat.le_of_eq (wrdB_len _)
theorem zjG {x:ReM} (h:mayR x=true):ReSm x:=by
 unfold mayR zeroB z0c at h;generalize (fOf x.op).1=f at h;simp only[Bool.and_eq_true]at h;obtain⟨_,⟨_,_,_,_,_,_,z7,z8,_⟩,_,_,_,_,_,r6,_,_,r9,u0⟩:=h;refine⟨fun m hm=>by have:=(z3p r6).2 m hm;omega,?_,?_⟩
 · cases h128:hasF f 128 with
   |true =>
    rw[h128]at r9;obtain⟨q1,q2,q3,q4,q5⟩:=z29 (show ruIs x.ru=true from r9)
    exact⟨fun m hm=>by have:=(z3p q1).2 m hm;omega,fun m hm=>by have:=(z3p q2).2 m hm;omega,fun s hs=>by have:=q5 s hs;omega⟩
   |false =>
    rw[h128]at z7;have:=(z2f x.ru).1 z7;rw[this];exact⟨fun _ h=>(by cases h),fun _ h=>(by cases h),fun _ h=>(by cases h)⟩
 · intro l hl
   cases h256:hasF f 256 with
   |true =>
    rw[h256]at u0;have:=(z4R (show setB x.ls=true from u0)).2 l hl
    omega
   |false =>
    rw[h256]at z8;have:=zfX (show emI x.ls.length=true from z8)
    rw[List.length_eq_zero_iff.1 this]at hl;cases hl
theorem zb8 (x y:Byt):((⟨x.toArray⟩:ByteArray).toList==(⟨y.toArray⟩:ByteArray).toList)=decide (x=y):=by
 rw[Bool.eq_iff_iff,decide_eq_true_eq,beq_iff_eq];constructor
 · intro h;have:=congrArg (fun s:ByteArray=>s.data.toList) (toList_inj h)
   simpa using this
 · intro h;rw[h]
theorem wf8c {n:Int} (h:(Lit.int .u8 n).wf=true):0≤n∧n<256:=by
 simp[Lit.wf,IntKind.min,IntKind.max,IntKind.bits,IntKind.signed]at h;omega
section
variable {H:Type} {enc:TypeId×Value→H} {W:World} {base:Nat} {v:Value} {d:DataW H} {ps:List MemPlace}
theorem zjH (hv:Value.okWide Tryz.prog W .any base 5 v) (h:DataW.Trod enc Tryz.prog W 0 (fun _=>true) true 5 v d ps):∃c:UInt8,Rep noM noR W (bc c) v:=by
 obtain⟨n,rfl⟩:=okWide_int Tryz.underlying5 hv;obtain⟨x,hx,m,hm,e⟩:=Reads.arg (P:=Tryz.prog) (t:=5) (fun f=>Reads.int Tryz.underlying5 f) rfl h
 simp only[List.cons.injEq,and_true]at e;subst e;obtain⟨h0,h1⟩:=wf8c hm;obtain⟨k,rfl⟩:=Int.eq_ofNat_of_zero_le h0;refine⟨k.toUInt8,?_⟩;unfold bc;rw[toNat_toUInt8 (by omega)]
 exact hx
end
def recOf (ix:Int) (ck:Nat) (a:AcM) (cd:Int):RcM:=⟨ix,ck,z1v (z08 a),cd⟩
theorem zb9 (ix:Int) (ck:Nat) {a:AcM} (ha:ActSz a) (cd:Int):bdB (recOf ix ck a cd).bd=true:=by
 have:=ze9 (z93 a) (zeh ha) [];rw[List.append_nil]at this;show(wholeO (bodyR (z1v (z08 a)))).isSome=true;rw[this];rfl
theorem zek (ix:Int) (ck:Nat) (a:AcM) (cd:Int):(recOf ix ck a cd).bd.length≤4000:=z6s _
theorem zel {r:RcM} (h:rcIs r=true) (hb:r.bd.length≤4000):(putRc r).length≤4100∧1≤(putRc r).length:=by
 have h1:=z7N h;have h2:(putN r.ix.toNat).length≤10:=z0n (by omega)
 have h3:(putN r.ck).length≤10:=z0n (by omega)
 have h4:=z1B ⟨r.bd.toArray⟩ (by rw[z1E];omega)
 rw[z1E]at h4;unfold putRc;simp only[List.length_append,List.length_cons,List.length_nil];omega
theorem za4 {r:RcM} (hb:r.bd.length≤4000):(z0k r).length≤4100:=by
 unfold z0k;split
 · rename_i h;exact(zel h hb).1
 · exact Nat.zero_le _
def cdOf (k:Nat):Int:=[0,4,5,6,7,8,9,10].getD k 0
theorem zem {k:Nat} (h:k<8):cdB (cdOf k)=true∧(List.drop (k*1) ([I 0,I 4,I 5,I 6,I 7,I 8,I 9,I 10]:List AV)).head?=some (I (cdOf k)):=by
 match k,h with
 |0,_|1,_|2,_|3,_|4,_|5,_|6,_|7,_=>exact⟨rfl,rfl⟩
open Sha (txtR expB shaB z0D genB linkB z0J ChM z0r addCh takes boxC rowC z3X)
attribute [local irreducible] Sha.shaB
structure StM where
 gap:Nat
 a:AcM
 cd:Nat
def stpC (s:StM):List AV:=.pl (.int .u8 s.gap)::(acC s.a++[.pl (.int .u8 s.cd)])
def stpV (s:StM):AV:=.agg (stpC s)
structure StOk (s:StM):Prop where
 gap:s.gap<256
 a:ActSz s.a
 cd:s.cd<256
def noSt:StM:=⟨0,⟨0,0,0,0,0,0,[],[],0,0,0,⟨[],[],0,0,0,[],by decide,by decide⟩,0,[],by decide,by decide,by decide⟩,0⟩
def ckM (l:List StM) (i:Nat):Nat:=((l.take i).map (·.gap)).sum
def mdR (l:List StM) (i:Nat):RcM:=recOf i (ckM l (i+1)) (l.getD i noSt).a (cdOf ((l.getD i noSt).cd%8))
def mdL (l:List StM) (n:Nat):List RcM:=(List.range n).map (mdR l)
theorem z7V (l:List StM) (n:Nat):(mdL l n).length=n:=by simp[mdL]
theorem zba (l:List StM) (n:Nat):mdL l (n+1)=mdL l n++[mdR l n]:=by unfold mdL;rw[List.range_succ,List.map_append];rfl
theorem z7W (l:List StM) (i:Nat) (hi:i<l.length):ckM l (i+1)=ckM l i+(l.getD i noSt).gap:=by
 unfold ckM;rw[List.take_succ_eq_append_getElem hi,List.map_append,List.sum_append,List.getD_eq_getElem?_getD,List.getElem?_eq_getElem hi];simp
theorem zgT {l:List StM} (h:∀s∈l,StOk s) (i:Nat):ckM l i≤i*255:=by
 induction i with
 |zero=>simp[ckM]
 |succ i ih =>
  by_cases hi:i<l.length
  · rw[z7W l i hi,List.getD_eq_getElem?_getD,List.getElem?_eq_getElem hi];have:=(h _ (List.getElem_mem hi)).gap;simp only[Option.getD_some];omega
  · have:ckM l (i+1)=ckM l i:=by unfold ckM;rw[List.take_of_length_le (by omega),List.take_of_length_le (by omega)]
    omega
theorem zen {i ck k:Nat} (hi:i≤2147483647) (hc:ck≤1099511627776) {a:AcM} (ha:ActSz a) (hk:k<8):rcIs (recOf i ck a (cdOf k))=true:=by
 have h3:=zb9 (i:Int) ck ha (cdOf k);unfold rcIs;rw[h3];unfold recOf;simp only[(zem hk).1,Bool.and_true,Bool.and_eq_true,decide_eq_true_eq];omega
theorem zjI {l:List StM} (h:∀s∈l,StOk s) {i:Nat} (hi:i<l.length) (h8:i<8):rcIs (mdR l i)=true:=by
 have h1:=zgT h (i+1)
 have h2:ActSz (l.getD i noSt).a:=by
  rw[List.getD_eq_getElem?_getD,List.getElem?_eq_getElem hi];exact(h _ (List.getElem_mem hi)).a
 exact zen (by omega) (by omega) h2 (Nat.mod_lt _ (by decide))
theorem zce (L:List RcM) (x:RcM):lastC (L++[x])=x.ck:=by
 unfold lastC;rw[List.length_append,List.length_singleton,Nat.add_sub_cancel,List.getD_eq_getElem?_getD,List.getElem?_append_right (Nat.le_refl _),Nat.sub_self];rfl
theorem zga (l:List StM) (i:Nat):lastC (mdL l i)=if i=0 then 0 else ckM l i:=by
 cases i with
 |zero=>rfl
 |succ i=>rw[zba,zce];rfl
theorem zgb {l:List StM} {i:Nat} (hi:i<l.length):lastC (mdL l i)≤ckM l (i+1):=by
 rw[zga,z7W l i hi];split<;>omega
theorem zgU (l:List StM) (i:Nat):(mdR l i).bd.length≤4000:=zek _ _ _ _
theorem zjJ (l:List StM) (n:Nat):∀r∈mdL l n,r.bd.length≤4000:=by
 intro r hr;obtain⟨i,_,rfl⟩:=List.mem_map.1 hr;exact zgU l i
def chL (o:Int) (L:List RcM):ChM:=⟨200,L,hdL o L⟩
theorem zig (o:Int) (L:List RcM) (x:RcM):addCh (chL o L) x=chL o (L++[x]):=by
 unfold addCh chL;simp only;rw[z3x]
theorem zbb (o:Int) (l:List StM) (i:Nat):z0r (chL o (mdL l i)) (ckM l (i+1)) (z1v (z08 (l.getD i noSt).a)) (cdOf ((l.getD i noSt).cd%8))=mdR l i:=by
 unfold z0r chL;simp only[z7V];rfl
theorem zcf (o:Int) (L:List RcM):z3X (chL o L)=lastC L:=rfl
theorem zeo {o:Int} {l:List StM} (h:∀s∈l,StOk s) {i:Nat} (hi:i<l.length) (h8:i<8) :
  takes (chL o (mdL l i)) (ckM l (i+1)) (z1v (z08 (l.getD i noSt).a)) (cdOf ((l.getD i noSt).cd%8))=true:=by
 unfold takes;rw[zbb,zjI h hi h8,zcf];have h1:=zgb (l:=l) hi;have h2:((chL o (mdL l i)).L.length:Int)=i:=by show((mdL l i).length:Int)=i;rw[z7V]
 rw[h2];have e1:decide ((chL o (mdL l i)).most≤(i:Int))=false:=decide_eq_false (by show ¬(200:Int)≤i;omega)
 have e2:decide (((ckM l (i+1):Nat):Int)<((lastC (mdL l i):Nat):Int))=false:=decide_eq_false (by omega)
 rw[e1,e2];rfl
def chZ (n:Nat) (c:ChM):St:=match c.L with
 |[]=>[boxC 0 c]
 |r::_=>[boxC (n+2) c,.box (rcC r),.row 4 (c.L.map rcV)]
open Sha (txtR expB shaB z0D genB linkB z0J ChM z0r addCh takes boxC rowC z3X gloA_app kV z58 z6q newCh)
theorem za5 (n:Nat) (m:Int) (h:Byt):chZ n ⟨m,[],h⟩=[boxC 0 ⟨m,[],h⟩]:=rfl
theorem z2Q (n:Nat) (m:Int) (r:RcM) (L:List RcM) (h:Byt):chZ n ⟨m,r::L,h⟩=[boxC (n+2) ⟨m,r::L,h⟩,.box (rcC r),.row 4 ((r::L).map rcV)]:=rfl
section
variable (σ:St)
theorem add_Z (c:ChM) (hh:c.head.length=32) (hL:c.L.length≤1000) (ck:Nat) (bd:Byt) (cd:Int) (hne:bd≠[]) (hbl:bd.length≤40000) (hg:gloA σ 0=some kV) :
  Ans Tryz.prog 16 [.ptr σ.length 0,UN ck,.sl 1 (byv bd),I cd] (σ++chZ σ.length c) (Bo (takes c ck bd cd)) (σ++chZ σ.length (if takes c ck bd cd then addCh c (z0r c ck bd cd) else c)):=by
 obtain⟨m,L,hd⟩:=c;simp only at hh hL
 cases L with
 |nil =>
  have h:=z58 (σ++[boxC 0 ⟨m,[],hd⟩]) σ.length m hd hh ck bd cd (by rw[List.getElem?_append_right (Nat.le_refl _)];simp) (by simp) hne hbl (gloA_app hg _)
  have e:(!decide (m≤0)&&rcIs (z0r ⟨m,[],hd⟩ ck bd cd))=takes ⟨m,[],hd⟩ ck bd cd:=by
   unfold takes;have:decide ((ck:Int)<((z3X ⟨m,[],hd⟩:Nat):Int))=false:=decide_eq_false (by show ¬(ck:Int)<((0:Nat):Int);omega)
   rw[this,Bool.not_false,Bool.and_true];rfl
  rw[e]at h;rw[za5]
  cases ht:takes ⟨m,[],hd⟩ ck bd cd with
  |false =>
   rw[ht]at h;simp only[Bool.false_eq_true,if_false]at h⊢;rw[za5];exact h
  |true =>
   rw[ht]at h;simp only[if_true]at h⊢;have e2:addCh ⟨m,[],hd⟩ (z0r ⟨m,[],hd⟩ ck bd cd)=⟨m,[z0r ⟨m,[],hd⟩ ck bd cd],shaB (linkB hd (z0k (z0r ⟨m,[],hd⟩ ck bd cd)))⟩:=rfl;rw[e2]at h⊢;rw[z2Q];have e3:(σ++[boxC 0 ⟨m,[],hd⟩]).length+1=σ.length+2:=by simp
   rw[e3,List.set_append_right _ _ (Nat.le_refl _),Nat.sub_self,List.set_cons_zero,List.append_assoc]at h;exact h
 |cons r L =>
  have hq:σ.length+2<(σ++chZ σ.length ⟨m,r::L,hd⟩).length:=by rw[z2Q];simp
  have h:=z6q (σ++chZ σ.length ⟨m,r::L,hd⟩) σ.length (σ.length+2) ⟨m,r::L,hd⟩ hh (fun h=>nomatch h) (Nat.le_trans hL (by decide)) ck bd cd
   (by rw[z2Q,List.getElem?_append_right (Nat.le_refl _),Nat.sub_self];rfl) (by rw[z2Q,List.getElem?_append_right (by omega),Nat.add_sub_cancel_left];rfl) (by omega) hq (by omega) hne hbl (gloA_app hg _)
  cases ht:takes ⟨m,r::L,hd⟩ ck bd cd with
  |false =>
   rw[ht]at h;exact h
  |true =>
   rw[ht]at h;simp only[if_true]at h⊢;have e2:addCh ⟨m,r::L,hd⟩ (z0r ⟨m,r::L,hd⟩ ck bd cd)=⟨m,r::(L++[z0r ⟨m,r::L,hd⟩ ck bd cd]),shaB (linkB hd (z0k (z0r ⟨m,r::L,hd⟩ ck bd cd)))⟩:=rfl;rw[e2]at h⊢;unfold Sha.chSt at h;rw[z2Q]at h⊢;rw[z2Q];rw[List.set_append_right _ _ (by omega:σ.length≤σ.length+2),List.set_append_right _ _ (Nat.le_refl _),Nat.sub_self,Nat.add_sub_cancel_left]at h
   exact h
theorem zep {l:List StM} {i:Nat} (h:i<l.length):(l.map stpV)[i]?=some (.agg (stpC l[i])):=by
 rw[List.getElem?_map,List.getElem?_eq_getElem h];rfl
theorem zeq {a:AcM} (ha:ActSz a):z1v (z08 a)≠[]:=by
 have h:=zb9 0 0 ha 0;intro e;have e2:(recOf 0 0 a 0).bd=[]:=e;rw[e2]at h;exact absurd h (by decide +kernel)
theorem zgc (o:Int) (l:List StM) (n:Nat):(chL o (mdL l n)).L.length=n:=z7V l n
abbrev EnvM (l:List StM) (p i ck:Nat):Env:=mkE 53 [(1,.sl 21 (l.map stpV)),(6,.ptr p 0),(7,UN ck),(8,I i)]
theorem zgd (o:Int) (l:List StM) (hl:∀s∈l,StOk s) (hll:l.length≤9223372036854775807) (hG:∀ex,gloA (σ++ex) 0=some kV) :
  Ans Tryz.prog 38 [I o,.sl 21 (l.map stpV)] σ (.tup [.ptr σ.length 0,Bo true]) (σ++chZ σ.length (chL o (mdL l (min l.length 8)))):=by
 have y0:=Sha.new_ans σ o 200 hG;have e0:newCh o 200=chL o []:=rfl;rw[e0]at y0;have n1:∀s:St,nilA2 s true (.ptr σ.length 0)=some false:=fun _=>rfl
 have j0:(l.map stpV).length=l.length:=List.length_map ..;have z0:chZ σ.length (chL o [])=[boxC 0 (chL o [])]:=rfl;rw[←z0]at y0;have j1:gloA σ 0=some kV:=by have:=hG [];rwa [List.append_nil]at this
 refine Ans.of_run' t38 (fun m1 _=>?_)
 simp -implicitDefEqProofs only[c38,r38,go_sem];refine CO.intro y0 ?_;simp -implicitDefEqProofs only[go_sem,n1];refine Go.Ab.L.count (min l.length 8) (fun i=>EnvM l σ.length i (ckM l i)) (fun i=>σ++chZ σ.length (chL o (mdL l i))) ?_ ?_ rfl rfl
 · intro i hi J hJ;have q0:i<l.length:=by omega
   have q1:i<8:=by omega
   have hd:decide ((i:Int)<(l.length:Int))=true:=decide_eq_true (by omega)
   have k0:decide ((i:Int)<(8:Int))=true:=decide_eq_true (by omega)
   have y1:((i:Int)<(l.length:Int))=True:=eq_true (by omega)
   have hx:=zep q0;have hs:=hl _ (List.getElem_mem q0);have t0:l.getD i noSt=l[i]:=by rw[List.getD_eq_getElem?_getD,List.getElem?_eq_getElem q0];rfl
   have hck:=zgT hl (i+1);have ec:=z7W l i q0;have n0:ckM l i+l[i].gap=ckM l (i+1):=by rw[ec,t0]
   have k1:IntKind.u64.wrap ((l[i].gap:Nat):Int)=((l[i].gap:Nat):Int):=z1q (by have:=hs.gap;omega)
   have x1:IntKind.u64.wrap (((ckM l i:Nat):Int)+((l[i].gap:Nat):Int))=((ckM l (i+1):Nat):Int):=by
    rw[←n0];rw[show((ckM l i:Nat):Int)+((l[i].gap:Nat):Int)=((ckM l i+l[i].gap:Nat):Int) by omega];exact z1q (by rw[n0];omega)
   have r0:=zeo (o:=o) hl q0 q1;have d0:=zbb o l i;rw[t0]at r0 d0;have u0:=add_Z σ (chL o (mdL l i)) (z4b _ _) (by rw[zgc];omega) (ckM l (i+1)) (z1v (z08 l[i].a)) (cdOf (l[i].cd%8)) (zeq hs.a) (Nat.le_trans (z6s _) (by decide)) j1
   rw[r0,if_pos rfl,d0,zig,←zba]at u0;have wi:IntKind.i64.wrap ((i:Int)+1)=((i+1:Nat):Int):=wrap_succ (i:=i) (by omega)
   have u1:=fun s=>za3 s l[i].a
   have u2:=fun s=>zej s (z08 l[i].a) (zjG (z93 l[i].a))
   have f0:=zem (Nat.mod_lt l[i].cd (show 0<8 by decide))
   have o0:((l[i].cd:Nat):Int).tmod 8=((l[i].cd%8:Nat):Int):=rfl;have l0:(((l[i].cd%8:Nat):Int)<((8:Nat):Int))=True:=eq_true (by have:=Nat.mod_lt l[i].cd (show 0<8 by decide);omega)
   have m0:((l[i].cd%8+1)*1≤8)=True:=eq_true (by have:=Nat.mod_lt l[i].cd (show 0<8 by decide);omega)
   have h0:(acC l[i].a).length=19:=rfl;have hxc:stpC l[i]=.pl (.int .u8 l[i].gap)::(acC l[i].a++[.pl (.int .u8 l[i].cd)]):=rfl;generalize hst:σ++chZ σ.length (chL o (mdL l i))=S at u0⊢;generalize cdOf (l[i].cd%8)=cc at u0 f0;generalize z1v (z08 l[i].a)=bb at u0 u2;unfold reV at u1 u2;generalize reC (z08 l[i].a)=rq at u1 u2;unfold acV acC at u1;unfold stpC acC at hx;simp -implicitDefEqProofs only[mkE,go_sem,j0,hd,k0,y1,hx,k1,x1,o0,l0,m0,f0];refine CO.intro (u1 _) ?_;simp -implicitDefEqProofs only[go_sem];refine CO.intro (u2 _) ?_;simp -implicitDefEqProofs only[go_sem];refine CO.intro u0 ?_;simp -implicitDefEqProofs only[go_sem,wi];exact hJ
 · intro J;have hm1:(l.map stpV).length=l.length:=j0;by_cases h8:l.length<8
   · have hd:decide (((min l.length 8:Nat):Int)<(l.length:Int))=false:=decide_eq_false (by omega)
     simp -implicitDefEqProofs only[mkE,go_sem,j0,hd];exact Fini.ret rfl
   · have k0:decide (((min l.length 8:Nat):Int)<(8:Int))=false:=decide_eq_false (by omega)
     cases hd:decide (((min l.length 8:Nat):Int)<(l.length:Int))<;>simp -implicitDefEqProofs only[mkE,go_sem,j0,hd,k0]
     all_goals exact Fini.ret rfl
end
theorem z6t (L:List RcM):(L.map rcV).length=L.length:=List.length_map ..
theorem z96 {L:List RcM} {i:Nat} (h:L.length=i+1):(L.map rcV)[i]?=some (rcV (L.getD i noR0))∧lastC L=(L.getD i noR0).ck:=by
 refine⟨?_,?_⟩
 · rw[List.getElem?_map,List.getD_eq_getElem?_getD,List.getElem?_eq_getElem (by omega)];rfl
 · unfold lastC;rw[h];rfl
theorem zge (u r:Byt):(u++r).drop ((u++r).length-r.length)=r:=by rw[List.length_append,Nat.add_sub_cancel,List.drop_left]
abbrev EnvE (b:Byt) (p i n:Nat):Env:=mkE 70 [(0,.sl 1 (byv b)),(4,.ptr p 0),(5,.osl (p+1) i),(15,I n),(16,I i)]
theorem z7X (σ:St) (b:Byt) (hb:b.length≤50000):Ans Tryz.prog 32 [.sl 1 (byv b)] σ (expW (rdE b)) σ:=by
 have f0:Inb b (0,false):=Nat.zero_le _;have u1:=zb3 σ.length (rdE b);have j0:Bel σ.length (expW none):=zb3 σ.length none;refine Ans.of_run' t32 (fun u0 _=>?_)
 simp -implicitDefEqProofs only[c32,r32,go_sem];refine CO.intro (new_ans σ b) ?_;simp -implicitDefEqProofs only[go_sem,List.append_assoc,List.length_append];have hn:=z21 (σ++[rob b (0,false),.row 4 []]) σ.length b (0,false) 200 (by decide) (g0 _ _ _) f0 hb
 rw[s0]at hn
 cases h1:numR 200 b with
 |none =>
  have e0:rdE b=none:=by unfold rdE;rw[h1];rfl
  rw[e0];rw[z0V (show numR 200 (b.drop 0)=none from h1)]at hn
  refine CO.intro hn ?_;simp -implicitDefEqProofs only[go_sem];refine Go.Ab.L.count 0 (fun i=>mkE 70 [(0,.sl 1 (byv b)),(4,.ptr σ.length 0),(5,.osl (σ.length+1) 0),(15,I 0),(16,I 0)]) (fun _=>σ++[rob b (0,true),.row 4 []]) ?_ ?_ rfl rfl
  · intro i hi;omega
  · intro J;have h3:=z2z (σ++[rob b (0,true),.row 4 []]) σ.length b (0,true) (g0 _ _ _);simp -implicitDefEqProofs only[mkE,go_sem];refine CO.intro h3 ?_;simp -implicitDefEqProofs only[go_sem];exact Fini.trim2 (σ':=σ) (ex:=[_,_]) rfl rfl (Nat.le_refl _) j0 u0
 |some p =>
  obtain⟨n,t⟩:=p;have r1:=(z1i (most:=200) (by decide)).bwd _ _ _ h1
  obtain⟨hn2,x1⟩:=r1;obtain⟨hdr,-,hle⟩:=(ends_num 200).drop (b:=b) (a:=0) (by omega) h1
  rw[z0L (show numR 200 (b.drop 0)=some (n,t) from h1)]at hn
  refine CO.intro hn ?_;have k1:IntKind.i64.wrap (n:Int)=(n:Int):=wrapI (by omega)
  simp -implicitDefEqProofs only[go_sem,k1];have hlt:b.length=(putN n).length+t.length:=by rw[←List.length_append,←x1]
  refine Go.Ab.L.intro (α:={ p:Nat×List RcM×Byt // p.1≤n∧goE b.length t p.1=some (p.2.1,p.2.2) }) (fun p=>n-p.1.1)
   (fun p=>EnvE b σ.length p.1.1 n) (fun p=>σ++[rob b (b.length-p.1.2.2.length,false),.row 4 (p.1.2.1.map rcV)]) ?_ ⟨(0,[],t),Nat.zero_le _,rfl⟩ rfl rfl
  rintro⟨⟨i,L,r⟩,hi,hg⟩ J hJ;simp only at hi hg hJ⊢;have hlen:=z7T hg;simp only at hlen;obtain⟨w,hw⟩:=zed (by omega) hg
  simp only at hw;have y1:b=(putN n++w)++r:=by rw[List.append_assoc,←hw,←x1]
  have hbl:b.length=(putN n++w).length+r.length:=by rw[←List.length_append,←y1]
  have q1:b.drop (b.length-r.length)=r:=by
   have:=zge (putN n++w) r;rw[←y1]at this;exact this
  have n1:Inb b (b.length-r.length,false):=Nat.sub_le _ _;by_cases hlt2:i<n
  case neg =>
   have o0:i=n:=by omega
   subst o0;have d0:decide ((i:Int)<(i:Int))=false:=decide_eq_false (by omega)
   have h3:=z2z (σ++[rob b (b.length-r.length,false),.row 4 (L.map rcV)]) σ.length b (b.length-r.length,false) (g0 _ _ _);have n0:=z6t L;simp -implicitDefEqProofs only[mkE,go_sem,d0];refine CO.intro h3 ?_;by_cases hr:r=[]
   · have e1:(((b.length-r.length:Nat):Int) != (b.length:Nat))=false:=by rw[hr];simp
     have e0:rdE b=some L:=by unfold rdE;rw[h1];simp only[Option.bind_some];rw[hg];simp only[Option.bind_some];rw[if_pos hr]
     rw[e0]at u1⊢;simp -implicitDefEqProofs only[go_sem,z05,e1,g1,s1,n0,hlen];exact Fini.trim2 (σ':=σ) (ex:=[_,_]) rfl rfl (Nat.le_refl _) u1 u0
   · have hr2:0<r.length:=List.length_pos_iff.2 hr
     have e1:(((b.length-r.length:Nat):Int) != (b.length:Nat))=true:=by
      rw[bne,Bool.not_eq_true',beq_eq_false_iff_ne];omega
     have e0:rdE b=none:=by unfold rdE;rw[h1];simp only[Option.bind_some];rw[hg];simp only[Option.bind_some];rw[if_neg hr]
     rw[e0];simp -implicitDefEqProofs only[go_sem,z05,e1];exact Fini.trim2 (σ':=σ) (ex:=[_,_]) rfl rfl (Nat.le_refl _) j0 u0
  have d0:decide ((i:Int)<(n:Int))=true:=decide_eq_true (by omega)
  have y0:goE b.length t (i+1)=none→rdE b=none:=fun h=>by unfold rdE;rw[h1];simp only[Option.bind_some];rw[zb2 h (by omega:i+1≤n)];rfl
  have k0:=z2L (σ++[rob b (b.length-r.length,false),.row 4 (L.map rcV)]) σ.length b (b.length-r.length,false) b.length (by omega) (g0 _ _ _) n1 hb
  rw[s0]at k0
  cases h2:textR b.length r with
  |none =>
   rw[z0V (by rw[q1];exact h2)]at k0
   have r0:=z7a (σ++[rob b (b.length-r.length,true),.row 4 (L.map rcV)]) [] (by decide)
   rw[show rdRc []=none by kernel_rfl]at r0
   rw[y0 (by rw[goE,hg];simp only[Option.bind_some];rw[h2];rfl)]
   simp -implicitDefEqProofs only[mkE,go_sem,d0,z05];refine CO.intro k0 ?_;have hz:z3C ⟨#[]⟩=byv []:=rfl;simp -implicitDefEqProofs only[go_sem,hz];refine CO.intro r0 ?_;unfold rcW noRcV;simp -implicitDefEqProofs only[go_sem];exact Fini.trim2 (σ':=σ) (ex:=[_,_]) rfl rfl (Nat.le_refl _) j0 u0
  |some sp =>
   obtain⟨s,r2⟩:=sp;have hsz:s.size≤b.length:=((z1w (most:=b.length) (by omega)).bwd _ _ _ h2).1
   rw[z0L (by rw[q1];exact h2)]at k0
   have r0:=z7a (σ++[rob b (b.length-r2.length,false),.row 4 (L.map rcV)]) s.data.toList (by rw[z1k];omega)
   simp -implicitDefEqProofs only[mkE,go_sem,d0,z05];refine CO.intro k0 ?_;simp -implicitDefEqProofs only[go_sem,z6N];refine CO.intro r0 ?_
   cases h3:rdRc s.data.toList with
   |none =>
    rw[y0 (by rw[goE,hg];simp only[Option.bind_some];rw[h2];simp only[Option.bind_some];rw[h3];rfl)]
    unfold rcW noRcV;simp -implicitDefEqProofs only[go_sem];exact Fini.trim2 (σ':=σ) (ex:=[_,_]) rfl rfl (Nat.le_refl _) j0 u0
   |some x =>
    have q0:goE b.length t (i+1)=if x.ix=(i:Int)∧lastC L≤x.ck then some (L++[x],r2) else none:=by
     rw[goE,hg];simp only[Option.bind_some];rw[h2];simp only[Option.bind_some];rw[h3];rfl
    have t1:rcV x=.agg [I x.ix,UN x.ck,.sl 1 (byv x.bd),I x.cd]:=rfl;unfold rcW;simp only;rw[t1];by_cases hix:x.ix=(i:Int)
    case neg =>
     have e1:(x.ix != (i:Int))=true:=by rw[bne,Bool.not_eq_true',beq_eq_false_iff_ne];exact hix
     rw[y0 (by rw[q0,if_neg (fun h=>hix h.1)])]
     simp -implicitDefEqProofs only[go_sem,e1];exact Fini.trim2 (σ':=σ) (ex:=[_,_]) rfl rfl (Nat.le_refl _) j0 u0
    have e1:(x.ix != (i:Int))=false:=by rw[hix,bne,beq_self_eq_true];rfl
    have n0:=z6t L;have wi:IntKind.i64.wrap ((i:Int)+1)=((i+1:Nat):Int):=wrap_succ (i:=i) (by omega)
    have m0:i+1≤4294967296:=by omega
    have m1:L.map rcV++[.agg [I x.ix,UN x.ck,.sl 1 (byv x.bd),I x.cd]]=(L++[x]).map rcV:=by rw[List.map_append];rfl
    by_cases hck:lastC L≤x.ck
    case neg =>
     rw[y0 (by rw[q0,if_neg (fun h=>hck h.2)])]
     cases i with
     |zero =>
      have:lastC L=0:=by rw[List.length_eq_zero_iff.1 hlen];rfl
      omega
     |succ k =>
      have d1:decide ((0:Int)<((k+1:Nat):Int))=true:=decide_eq_true (by omega)
      have ws:IntKind.i64.wrap (((k+1:Nat):Int)-1)=(k:Int):=by rw[show((k+1:Nat):Int)-1=(k:Int) by omega];exact wrapI (by omega)
      obtain⟨hx1,j1⟩:=z96 hlen;have h0:((k:Int)<((k+1:Nat):Int))=True:=eq_true (by omega)
      have l0:rcV (L.getD k noR0)=.agg [I (L.getD k noR0).ix,UN (L.getD k noR0).ck,.sl 1 (byv (L.getD k noR0).bd),I (L.getD k noR0).cd]:=rfl;rw[l0]at hx1;have e2:decide ((x.ck:Int)<((L.getD k noR0).ck:Int))=true:=decide_eq_true (by omega)
      simp -implicitDefEqProofs only[go_sem,e1,d1,ws,h0,g1,n0,hlen,hx1,e2];exact Fini.trim2 (σ':=σ) (ex:=[_,_]) rfl rfl (Nat.le_refl _) j0 u0
    have t0:=hJ ⟨(i+1,L++[x],r2),by simp only;omega,by simp only;rw[q0,if_pos ⟨hix,hck⟩]⟩ (by simp only;omega)
    simp only at t0;rw[←m1]at t0
    cases i with
    |zero =>
     have d1:decide ((0:Int)<((0:Nat):Int))=false:=rfl;simp -implicitDefEqProofs only[go_sem,e1,d1,g1,s1,n0,hlen,m0,List.length_singleton,wi];exact t0
    |succ k =>
     have d1:decide ((0:Int)<((k+1:Nat):Int))=true:=decide_eq_true (by omega)
     have ws:IntKind.i64.wrap (((k+1:Nat):Int)-1)=(k:Int):=by rw[show((k+1:Nat):Int)-1=(k:Int) by omega];exact wrapI (by omega)
     obtain⟨hx1,j1⟩:=z96 hlen;have h0:((k:Int)<((k+1:Nat):Int))=True:=eq_true (by omega)
     have l0:rcV (L.getD k noR0)=.agg [I (L.getD k noR0).ix,UN (L.getD k noR0).ck,.sl 1 (byv (L.getD k noR0).bd),I (L.getD k noR0).cd]:=rfl;rw[l0]at hx1;have e2:decide ((x.ck:Int)<((L.getD k noR0).ck:Int))=false:=decide_eq_false (by omega)
     simp -implicitDefEqProofs only[go_sem,e1,d1,ws,h0,g1,s1,n0,hlen,hx1,e2,m0,List.length_singleton,wi];exact t0
open Sha (txtR expB shaB z0D genB linkB z0J)
theorem zgf {L:List RcM} {i:Nat} (h:i<L.length):(L.map rcV)[i]?=some (.agg [I L[i].ix,UN L[i].ck,.sl 1 (byv L[i].bd),I L[i].cd]):=by
 rw[List.getElem?_map,List.getElem?_eq_getElem h];rfl
open Sha (txtR expB shaB z0D genB linkB z0J gloA_app kV)
theorem zih (n:Nat) (X:List Byt):∀x∈bsv X,Bel n x:=by
 intro x hx;obtain⟨b,_,rfl⟩:=List.mem_map.1 hx;exact z1j _ _
theorem zbc {b:Byt} {L:List RcM} (hb:b.length<2^64) (h:rdE b=some L):∀x∈L,x.bd.length≤b.length:=by
 obtain⟨h1,h2,h3⟩:=z3L hb h;intro x hx;have hm:=zg8 hx;obtain⟨i,hi,rfl⟩:=List.getElem_of_mem hx;have e:(expB L).length=(putN L.length).length+((L.map txtR).flatten).length:=by unfold expB;rw[List.length_append]
 have e2:(txtR L[i]).length=(putN (putRc L[i]).length).length+(putRc L[i]).length:=by
  rw[zb4 (h2 i hi).1];unfold txtB;rw[List.length_append,z1E]
 have e3:L[i].bd.length≤(putRc L[i]).length:=by
  unfold putRc txtB;simp only[List.length_append];omega
 rw[h1];omega
theorem z5q (o:Int) (L:List RcM) (hb:∀r∈L,r.bd.length≤40000):∀x∈imB o L,x.length≤60000:=by
 intro x hx;unfold imB at hx;rcases List.mem_cons.1 hx with rfl|hx
 · show(9:Nat)≤60000;decide
 · obtain⟨i,hi,rfl⟩:=List.mem_map.1 hx;have hi:=List.mem_range.1 hi;have e:L.getD i noR0=L[i]:=by rw[List.getD_eq_getElem?_getD,List.getElem?_eq_getElem hi];rfl
   have:=Sha.bytesRc_le L[i] (hb _ (List.getElem_mem hi));rw[z0J,z4b,e];omega
def boxR (L:List RcM):St:=L.map fun r=>.box (rcC r)
section
variable (σ:St)
theorem za6 {o:Int} {b:Byt} (hb:b.length≤40000) (h:rdE b=none):Ans Tryz.prog 35 [I o,.sl 1 (byv b)] σ (.tup [.nils,Bo false]) σ:=by
 have k:=z7X σ b (by omega)
 rw[h]at k;unfold expW at k;refine Ans.of_run t35 ?_;simp -implicitDefEqProofs only[c35,r35,go_sem];refine CO.intro k ?_;simp -implicitDefEqProofs only[go_sem];exact Fini.ret rfl
theorem z3y {o:Int} {b:Byt} {L:List RcM} (hb:b.length≤40000) (h:rdE b=some L) (hG:∀ex,gloA (σ++ex) 0=some kV) :
  Ans Tryz.prog 35 [I o,.sl 1 (byv b)] σ (.tup [.osl σ.length (L.length+1),Bo true]) (σ++[.row 1 (bsv (imB o L))]):=by
 have k:=z7X σ b (by omega)
 rw[h]at k;unfold expW at k;have kg:Ans Tryz.prog 28 [I o] σ (.sl 1 (byv (genB o))) σ:=Sha.genesis_ans σ o;have t0:=z6t L;obtain⟨hbe,hok,hn⟩:=z3L (by omega) h
 have e0:=zbc (by omega) h
 refine Ans.of_run' t35 (fun k0 _=>?_)
 simp -implicitDefEqProofs only[c35,r35,go_sem];refine CO.intro k ?_;simp -implicitDefEqProofs only[go_sem];refine CO.intro kg ?_;simp -implicitDefEqProofs only[go_sem,t0];refine Go.Ab.L.count L.length (fun i=>mkE 41 [(8,.osl σ.length (i+1)),(21,.sl 4 (L.map rcV)),(22,I L.length),(23,I i)]) (fun i=>σ++(.row 1 (bsv (imB o (L.take i)))::boxR (L.take i))) ?_ ?_ rfl rfl
 · intro i hi J hJ;have hd:decide ((i:Int)<(L.length:Int))=true:=decide_eq_true (by omega)
   have j1:((i:Int)<(L.length:Int))=True:=eq_true (by omega)
   have hx:=zgf hi;have hbi:=e0 _ (List.getElem_mem hi);have wi:IntKind.i64.wrap ((i:Int)+1)=((i+1:Nat):Int):=wrap_succ (i:=i) (by omega)
   have m1:L.take (i+1)=L.take i++[L[i]]:=List.take_succ_eq_append_getElem hi;rw[m1,z4D]at hJ;have u1:boxR (L.take i++[L[i]])=boxR (L.take i)++[.box (rcC L[i])]:=by unfold boxR;rw[List.map_append];rfl
   rw[u1]at hJ;have u0:=z4c o (L.take i);have h0:(L.take i).length=i:=by rw[List.length_take];omega
   have o0:=z5q o (L.take i) fun r hr=>by have:=e0 r (List.mem_of_mem_take hr);omega
   have d0:=zef o (L.take i) i (by omega)
   rw[List.take_of_length_le (by omega:(L.take i).length≤i)]at d0
   have hXi:((imB o (L.take i)).getD i []).length≤60000:=by
    rw[List.getD_eq_getElem?_getD,List.getElem?_eq_getElem (by rw[u0];omega)]
    exact o0 _ (List.getElem_mem _)
   have m0:(bsv (imB o (L.take i)))[i]?=some (.sl 1 (byv ((imB o (L.take i)).getD i []))):=by
    rw[z3q _ i (by rw[u0];omega),List.getD_eq_getElem?_getD,List.getElem?_eq_getElem (by rw[u0];omega)];rfl
   have y1:=fun s=>z3u s L[i] (by omega)
   have f0:=Sha.bytesRc_le L[i] (by omega)
   have k1:=fun s=>Sha.link_ans s (hdL o (L.take i)) (z0k L[i]) (z4b _ _) f0
   have n0:=fun ex=>Sha.sha_ans (σ++ex) ((imB o (L.take i)).getD i []) (by omega) (fun ex2=>by rw[List.append_assoc];exact hG _)
   rw[d0]at n0;have hlen:(bsv (imB o (L.take i))).length=i+1:=by rw[z23,u0,h0]
   have y0:bsv (imB o (L.take i))++[.sl 1 (byv (linkB (hdL o (L.take i)) (z0k L[i])))]=bsv (imB o (L.take i)++[linkB (hdL o (L.take i)) (z0k L[i])]):=by unfold bsv;rw[List.map_append];rfl
   rw[←y0]at hJ;generalize (imB o (L.take i)).getD i []=img at *;generalize bsv (imB o (L.take i))=X at *;generalize hdL o (L.take i)=hd0 at *;have q0:i+1+1≤4294967296:=by omega
   have x1:((i:Int)<((i+1:Nat):Int))=True:=eq_true (by omega)
   obtain⟨S,eS⟩:∃S,S=σ++(.row 1 X::boxR (L.take i)):=⟨_,rfl⟩;have r0:∀ex,(S++ex)[σ.length]?=some (.row 1 X):=fun ex=>by rw[eS,List.append_assoc];exact g0 σ _ _
   have q1:∀y ex,(S++ex).set σ.length y=σ++(y::(boxR (L.take i)++ex)):=fun y ex=>by rw[eS,List.append_assoc];exact s0 σ _ _ _
   have j0:∀ex,Ans Tryz.prog 27 [.sl 1 (byv img)] (S++ex) (.agg (byv hd0)) (S++ex):=fun ex=>by
    have:=n0 (.row 1 X::boxR (L.take i)++ex);rw[←List.append_assoc,←eS]at this;exact this
   rw[←eS];simp -implicitDefEqProofs only[mkE,go_sem,hd,t0,j1,hx,g0,s0,r0,hlen,x1,m0];refine CD.intro (j0 _) ?_;simp -implicitDefEqProofs only[go_sem,g0,s0];refine CD.intro (y1 _) ?_;simp -implicitDefEqProofs only[go_sem];refine CD.intro (k1 _) ?_;simp -implicitDefEqProofs only[go_sem,r0,q1,hlen,q0,List.length_singleton,wi,m0];exact hJ
 · intro J;have hd:decide ((L.length:Int)<(L.length:Int))=false:=decide_eq_false (by omega)
   rw[List.take_length];simp -implicitDefEqProofs only[mkE,go_sem,hd];have l0:σ++(.row 1 (bsv (imB o L))::boxR L)=(σ++[.row 1 (bsv (imB o L))])++boxR L:=by rw[List.append_assoc];rfl
   refine Fini.trim2 (h:=?_) (he:=l0) (hl:=?_) (hb:=?_) (ho:=?_)
   · rfl
   · rw[List.length_append];exact Nat.le_add_right _ _
   · refine .tup _ fun k hk=>?_
     match k,hk with
     |0,_=>exact .osl _ _ (by simp)
     |1,_=>exact .pl _
   · intro y hy;rcases List.mem_append.1 hy with hy|hy
     · exact z8n (k0 y hy) (by simp)
     · obtain rfl:=List.mem_singleton.1 hy;exact zih _ _
end
section
variable (σ:St)
theorem zgg {o:Int} {L:List RcM}:(bsv (imB o L))[L.length]?=some (.sl 1 (byv ((imB o L).getD L.length []))):=by
 have u0:=z4c o L;rw[z3q _ L.length (by rw[u0];omega),List.getD_eq_getElem?_getD,List.getElem?_eq_getElem (by rw[u0];omega)];rfl
theorem zgh {o:Int} {L:List RcM} (hbd:∀r∈L,r.bd.length≤40000):((imB o L).getD L.length []).length≤60000:=by
 have u0:=z4c o L;rw[List.getD_eq_getElem?_getD,List.getElem?_eq_getElem (by rw[u0];omega)]
 exact z5q o L hbd _ (List.getElem_mem _)
theorem zgi (o:Int) (L:List RcM):shaB ((imB o L).getD L.length [])=hdL o L:=by
 rw[zef o L L.length (Nat.le_refl _),List.take_length]
end
def z32:Byt:=List.replicate 32 0
def vfyH (o:Int) (r:Option (List RcM)):Byt:=match r with
 |none=>z32
 |some L=>hdL o L
theorem z5r (o:Int) (r:Option (List RcM)):(vfyH o r).length=32:=by
 cases r with
 |none=>rfl
 |some L=>exact z4b o L
def vfyV (o:Int) (r:Option (List RcM)):AV:=.tup [.agg (byv (vfyH o r)),Bo r.isSome]
theorem zgj (n:Nat) (o:Int) (r:Option (List RcM)):Bel n (vfyV o r):=z2X (Sha.bel_bva _ _)
section
variable (σ:St)
theorem z2u (o:Int) (b:Byt) (hb:b.length≤40000) (hG:∀ex,gloA (σ++ex) 0=some kV):Ans Tryz.prog 34 [I o,.sl 1 (byv b)] σ (vfyV o (rdE b)) σ:=by
 have u0:=zgj σ.length o (rdE b);have j0:byv z32=List.replicate 32 (.pl (.int .u8 0)):=rfl;simp only[List.reduceReplicate]at j0
 cases h:rdE b with
 |none =>
  rw[h]at u0;have k:=za6 (σ++[.box (byv z32)]) (o:=o) hb h;unfold vfyV vfyH at u0⊢;simp only at u0⊢;rw[j0]at u0 k⊢;refine Ans.of_run' t34 (fun y0 _=>?_)
  simp -implicitDefEqProofs only[c34,r34,go_sem];refine CO.intro k ?_;simp -implicitDefEqProofs only[go_sem,g0,s0];exact tr_ (σ':=σ) (ex:=[_]) rfl u0 y0
 |some L =>
  rw[h]at u0;have r0:∀r∈L,r.bd.length≤40000:=fun r hr=>by have:=zbc (by omega) h r hr;omega
  have k:=z3y (σ++[.box (byv z32)]) (o:=o) hb h (fun ex=>by rw[List.append_assoc];exact hG _)
  have n0:(bsv (imB o L)).length=L.length+1:=by rw[z23,z4c]
  have hx:=zgg (o:=o) (L:=L);have hs:∀ex,Ans Tryz.prog 27 [.sl 1 (byv ((imB o L).getD L.length []))] (σ++ex) (.agg (byv (shaB ((imB o L).getD L.length [])))) (σ++ex):=fun ex=>Sha.sha_ans (σ++ex) _ (by have:=zgh (o:=o) r0;omega) (fun ex2=>by rw[List.append_assoc];exact hG _)
  rw[zgi]at hs;obtain⟨-,-,hn⟩:=z3L (by omega) h
  have ws:IntKind.i64.wrap (((L.length+1:Nat):Int)-1)=(L.length:Int):=by rw[show((L.length+1:Nat):Int)-1=(L.length:Int) by omega];exact wrapI (by omega)
  have m0:((L.length:Int)<((L.length+1:Nat):Int))=True:=eq_true (by omega)
  have hl:=z05 (hdL o L);have q0:=z4b o L;have ha:(byv (hdL o L)).all AV.one=true:=Sha.bv_all _;have k0:List.take 32 (byv (hdL o L))=byv (hdL o L):=List.take_of_length_le (by rw[hl,q0];exact Nat.le_refl _)
  unfold vfyV vfyH at u0⊢;simp only at u0⊢;rw[List.append_assoc,List.length_append]at k;generalize hdL o L=hd0 at *;rw[j0]at k;refine Ans.of_run' t34 (fun y0 _=>?_)
  simp -implicitDefEqProofs only[c34,r34,go_sem];refine CO.intro k ?_;simp -implicitDefEqProofs only[go_sem,g0,s0,g1,s1,n0,ws,m0,hx];refine CO.intro (hs _) ?_;simp -implicitDefEqProofs only[go_sem,hl,q0,ha,k0,g0,s0];exact Fini.trim2 (σ':=σ) (ex:=[_,_]) (by simp -implicitDefEqProofs only[go_sem,resA,z03,rvA,oneOf,g0,hl,q0,k0]<;>rfl) rfl (Nat.le_refl _) u0 y0
theorem z7Y (n:Nat) (a b:Byt) (ha:a.length=n) (hb:b.length=n):eqCells (List.replicate n .int) (byv a) (byv b)=some (a==b):=Sha.eqCells_bv n a b ha hb
theorem rdE_0:rdE [0]=some []:=by kernel_rfl
theorem zjK:rdE [0,0]=none:=by kernel_rfl
theorem zer (hG:∀ex,gloA (σ++ex) 0=some kV):Ans Tryz.prog 31 [] σ (Bo true) σ:=by
 have k1:=z2u σ 7 [0] (by decide) hG
 have k2:=z2u σ 7 [0,0] (by decide) hG
 have k3:=z7X σ [0] (by decide)
 have kg:Ans Tryz.prog 28 [I 7] σ (.sl 1 (byv (genB 7))) σ:=Sha.genesis_ans σ 7;have ks:Ans Tryz.prog 27 [.sl 1 (byv (genB 7))] σ (.agg (byv (shaB (genB 7)))) σ:=Sha.sha_ans σ (genB 7) (show(9:Nat)≤100000 by decide) hG
 rw[rdE_0]at k1 k3;rw[zjK]at k2;unfold vfyV vfyH at k1 k2;unfold expW at k3;simp only at k1 k2 k3;have e0:hdL 7 []=shaB (genB 7):=rfl;rw[e0]at k1;have u0:(shaB (genB 7)).length=32:=z0D _;have y0:=z7Y 32 (shaB (genB 7)) (shaB (genB 7)) u0 u0;rw[beq_self_eq_true]at y0;simp only[List.reduceReplicate]at y0;have hl:=z05 (shaB (genB 7));have ha:(byv (shaB (genB 7))).all AV.one=true:=Sha.bv_all _;have j0:List.take 32 (byv (shaB (genB 7)))=byv (shaB (genB 7)):=List.take_of_length_le (by rw[hl,u0];exact Nat.le_refl _)
 generalize shaB (genB 7)=hd0 at *;have m0:=z05 z32;have q0:z32.length=32:=rfl;have k0:(byv z32).all AV.one=true:=Sha.bv_all _;have k1:Ans Tryz.prog 34 [I 7,.sl 1 [.pl (.int .u8 0)]] σ (.tup [.agg (byv hd0),Bo true]) σ:=k1;have k2:Ans Tryz.prog 34 [I 7,.sl 1 [.pl (.int .u8 0),.pl (.int .u8 0)]] σ (.tup [.agg (byv z32),Bo false]) σ:=k2;have k3:Ans Tryz.prog 32 [.sl 1 [.pl (.int .u8 0)]] σ (.tup [.sl 4 [],Bo true]) σ:=k3;have n0:((((0:Nat):Int))==0)=true:=rfl;refine Ans.of_run t31 ?_;simp -implicitDefEqProofs only[c31,r31,go_sem];refine CO.intro k1 ?_;simp -implicitDefEqProofs only[go_sem,hl,u0,ha,j0];refine CO.intro k2 ?_;simp -implicitDefEqProofs only[go_sem,m0,q0,k0];refine CO.intro k3 ?_;simp -implicitDefEqProofs only[go_sem,hl,u0,j0];refine CD.intro kg ?_;simp -implicitDefEqProofs only[go_sem];refine CD.intro ks ?_;simp -implicitDefEqProofs only[go_sem,y0,n0];exact Fini.ret rfl
end
open Sha (txtR expB shaB z0D genB linkB z0J ChM z0r addCh takes boxC rowC z3X gloA_app kV)
section
variable (σ:St)
end
theorem zii {n:Nat} (h:n≤200):(putN n).length≤10:=z0n (by omega)
theorem zij {r:RcM} (h:r.bd.length≤4000):(txtR r).length≤4110:=by
 have h1:=za4 h;have h2:=z1B ⟨(z0k r).toArray⟩ (by rw[z1E];omega)
 rw[z1E]at h2;unfold Sha.txtR;omega
theorem zbd:∀(L:List RcM),(∀r∈L,r.bd.length≤4000)→((L.map txtR).flatten).length≤L.length*4110
 |[],_=>by simp
 |x::L,h=>by
  have h1:=zij (h x (by simp))
  have h2:=zbd L fun r hr=>h r (by simp[hr])
  simp only[List.map_cons,List.flatten_cons,List.length_append,List.length_cons];omega
theorem zik {L:List RcM} (hn:L.length≤8) (h:∀r∈L,r.bd.length≤4000):(expB L).length≤33000:=by
 have h1:=zbd L h;have h2:=zii (n:=L.length) (by omega)
 unfold Sha.expB;rw[List.length_append];omega
theorem zgk (L:List RcM):0<(expB L).length:=by
 unfold Sha.expB;rw[List.length_append];have:0<(putN L.length).length:=List.length_pos_iff.2 (z9t _);omega
theorem md_ne {l:List StM} (h:∀s∈l,StOk s) {n:Nat} (h1:n≤l.length):∀r∈mdL l n,r.bd≠[]∧r.bd.length≤40000:=by
 intro r hr;obtain⟨i,hi,rfl⟩:=List.mem_map.1 hr;have hi:=List.mem_range.1 hi;refine⟨?_,Nat.le_trans (zgU l i) (by decide)⟩
 have:ActSz (l.getD i noSt).a:=by
  rw[List.getD_eq_getElem?_getD,List.getElem?_eq_getElem (by omega)];exact(h _ (List.getElem_mem _)).a
 exact zeq this
theorem chZ_p (σ ex:St) (c:ChM):((σ++chZ σ.length c)++ex)[σ.length]?=some (boxC (σ.length+2) c)∨c.L=[]∧((σ++chZ σ.length c)++ex)[σ.length]?=some (boxC 0 c):=by
 obtain⟨m,L,hd⟩:=c
 cases L with
 |nil=>right;exact⟨rfl,by rw[List.append_assoc,za5];exact g0 σ _ _⟩
 |cons r L=>left;rw[List.append_assoc,z2Q];exact g0 σ _ _
theorem chZ_q (σ ex:St) (c:ChM) (h:c.L≠[]):((σ++chZ σ.length c)++ex)[σ.length+2]?=some (.row 4 (c.L.map rcV)):=by
 obtain⟨m,L,hd⟩:=c
 cases L with
 |nil=>exact absurd rfl h
 |cons r L=>rw[List.append_assoc,z2Q,List.getElem?_append_right (by omega),Nat.add_sub_cancel_left];rfl
theorem zgl {c:ChM} (h:c.L=[]) (q:Nat):boxC q c=boxC 0 c:=by unfold Sha.boxC Sha.rowC;rw[h];rfl
theorem zjL (σ ex:St) (c:ChM):((σ++chZ σ.length c)++ex)[σ.length]?=some (boxC (σ.length+2) c):=by
 rcases chZ_p σ ex c with h|⟨h0,h⟩
 · exact h
 · rw[h,zgl h0 (σ.length+2)]
def mdN (l:List StM):List RcM:=mdL l (min l.length 8)
section
variable (σ:St)
theorem exp_Z (ex:St) (o:Int) (L:List RcM) (hL:L.length≤1000) (hb:∀r∈L,r.bd.length≤40000) :
  Ans Tryz.prog 25 [.ptr σ.length 0] ((σ++chZ σ.length (chL o L))++ex) (.sl 1 (byv (expB L))) ((σ++chZ σ.length (chL o L))++ex) :=
 Sha.export_ans _ σ.length (σ.length+2) (chL o L) (zjL σ ex _) (chZ_q σ ex _) hL hb
end
theorem zgV {σ:St} {k:Nat} {v:List Value} (h:∀ex,gloA (σ++ex) k=some v) (a:St):∀ex,gloA ((σ++a)++ex) k=some v:=fun ex=>by rw[List.append_assoc];exact h _
structure MdOk (l:List StM):Prop where
 ok:∀s∈l,StOk s
 len:l.length≤9223372036854775807
section
variable (σ:St) (o:Int) (l:List StM)
theorem zes:(mdN l).length=min l.length 8:=z7V _ _
theorem zjM (h:MdOk l):∀r∈mdN l,r.bd≠[]∧r.bd.length≤40000:=md_ne h.ok (Nat.min_le_left _ _)
theorem zil:(expB (mdN l)).length≤33000:=zik (by rw[zes];omega) (zjJ _ _)
theorem madeN (h:MdOk l) (hG:∀ex,gloA (σ++ex) 0=some kV):Ans Tryz.prog 38 [I o,.sl 21 (l.map stpV)] σ (.tup [.ptr σ.length 0,Bo true]) (σ++chZ σ.length (chL o (mdN l))):=zgd σ o l h.ok h.len hG
end
def QSt:List AV→Prop:=fun xs=>∃s:StM,StOk s∧xs=stpC s
theorem zgm (f:Nat):Reads Tryz.prog 120 f QSt:=by
 cases f with
 |zero=>exact Reads.zero
 |succ f =>
  have h:=Reads.struct (P:=Tryz.prog) (t:=120) (f:=f) (Qs:=[QInt .u8,QAct,QInt .u8]) Tryz.underlying120 (by kernel_rfl) rfl (by
   intro p hp;simp only[List.zip_cons_cons,List.zip_nil_right,List.mem_cons,List.not_mem_nil,or_false]at hp;rcases hp with rfl|rfl|rfl
   · exact Reads.int Tryz.underlying5 f
   · exact zei f
   · exact Reads.int Tryz.underlying5 f)
  refine h.mono fun xs hq=>?_
  obtain⟨_,_,rfl,⟨g,hg,rfl⟩,_,_,rfl,⟨a,ha,rfl⟩,_,_,rfl,⟨c,hc,rfl⟩,rfl⟩:=hq;obtain⟨a1,a2⟩:=wf8c hg;obtain⟨b1,b2⟩:=wf8c hc;obtain⟨n,rfl⟩:=Int.eq_ofNat_of_zero_le a1;obtain⟨m,rfl⟩:=Int.eq_ofNat_of_zero_le b1;exact⟨⟨n,a,m⟩,⟨(by show n<256;omega),ha,(by show m<256;omega)⟩,rfl⟩
theorem zbe:∀{ys:List (List AV)},(∀y∈ys,QSt y)→∃l:List StM,l.length=ys.length∧(∀s∈l,StOk s)∧ys.map (wrapC true)=l.map stpV
 |[],_=>⟨[],rfl,(by intro s hs;cases hs),rfl⟩
 |y::ys,h=>by
  obtain⟨s,hs,rfl⟩:=h y List.mem_cons_self;obtain⟨l,h1,h2,h3⟩:=zbe (ys:=ys) fun z hz=>h z (List.mem_cons_of_mem _ hz)
  refine⟨s::l,by simp[h1],?_,by rw[List.map_cons,h3];rfl⟩
  intro t ht;rcases List.mem_cons.1 ht with rfl|ht
  · exact hs
  · exact h2 t ht
section
variable {H:Type} {enc:TypeId×Value→H} {W:World} {base:Nat} {v:Value} {d:DataW H} {ps:List MemPlace}
theorem zet (hv:Value.okWide Tryz.prog W .any base 74 v) (h:DataW.Trod enc Tryz.prog W 0 (fun _=>true) true 74 v d ps):∃l:List StM,MdOk l∧Rep noM noR W (.sl 21 (l.map stpV)) v:=by
 obtain⟨sa,len,cap,rfl⟩:=okWide_slice Tryz.underlying74 hv
 obtain⟨x,hx,hq⟩:=Reads.arg (P:=Tryz.prog) (t:=74) (Q:=QSlice 21 true QSt) (fun f=>by
  cases f with
  |zero=>exact Reads.zero
  |succ f=>exact Reads.slice true Tryz.underlying74 (by kernel_rfl) (by decide) (zgm f) (fun _ _ _=>rfl)) rfl h
 rcases hq with hq|⟨ys,hys,hl,hq⟩
 · simp only[List.cons.injEq,and_true]at hq;subst hq;exact⟨[],⟨(by intro s hs;cases hs),Nat.zero_le _⟩,Sub.nils 21 _ _ _ _ hx⟩
 · obtain⟨l,h1,h2,h3⟩:=zbe hys;simp only[List.cons.injEq,and_true]at hq;subst hq;rw[h3]at hx;have hml:maxLen=9223372036854775807:=by decide
   exact⟨l,⟨h2,by omega⟩,hx⟩
end
open Sha (txtR expB shaB z0D genB linkB z0J ownU)
def inI64 (a:Int):Prop:=-9223372036854775808≤a∧a<9223372036854775808
theorem zgn {a b:Int} (ha:inI64 a) (hb:inI64 b) (h:genB a=genB b):a=b:=by
 unfold inI64 at ha hb;have h:wrdB (ownU a)=wrdB (ownU b):=by unfold genB at h;exact(List.cons.inj h).2
 have la:ownU a<2^64:=by unfold ownU;simp only[IntKind.wrap,IntKind.bits,IntKind.signed];simp;omega
 have lb:ownU b<2^64:=by unfold ownU;simp only[IntKind.wrap,IntKind.bits,IntKind.signed];simp;omega
 have h1:=word_fits.fwd (ownU a) [] la;have h2:=word_fits.fwd (ownU b) [] lb;rw[h,h2]at h1;have h3:ownU b=ownU a:=by injection h1 with h1;exact(Prod.mk.inj h1).1
 have ea:=Sha.ownU_eq a;have eb:=Sha.ownU_eq b;rw[h3,←ea]at eb;simp only[IntKind.wrap,IntKind.bits,IntKind.signed]at eb;simp at eb;omega
theorem zeu {h k x y:Byt} (hh:h.length=32) (hk:k.length=32) (e:linkB h x=linkB k y):h=k∧x=y:=by
 unfold linkB at e;simp only[List.flatten_cons,List.flatten_nil,List.append_nil]at e;exact List.append_inj (List.append_cancel_left e) (by omega)
theorem z5s (o:Int) (h x:Byt):genB o≠linkB h x:=by
 unfold genB linkB;simp only[List.flatten_cons,List.flatten_nil,List.append_nil,List.cons_append];intro e;have:=(List.cons.inj e).1;exact absurd this (by decide)
def unl:List Byt→List Byt→Option (Byt×Byt)
 |x::X,y::Y=>if x=y then unl X Y else some (x,y)
 |_,_=>none
def imR (o:Int) (L:List RcM):List Byt:=(imB o L).reverse
theorem z7Z (o:Int):imR o []=[genB o]:=rfl
theorem z5t (o:Int) (L:List RcM) (x:RcM):imR o (L++[x])=linkB (hdL o L) (z0k x)::imR o L:=by
 unfold imR;rw[z4D,List.reverse_append];rfl
def UnlOk (o p:Int) (L M:List RcM):Option (Byt×Byt)→Prop
 |none=>genB o=genB p∧L.map z0k=M.map z0k
 |some (x,y)=>x≠y∧shaB x=shaB y∧x∈imB o L∧y∈imB p M
theorem zjN (o p:Int):∀(n:Nat) (L M:List RcM),L.length=n→hdL o L=hdL p M→UnlOk o p L M (unl (imR o L) (imR p M)):=by
 have h0:∀o:Int,hdL o []=shaB (genB o):=fun _=>rfl
 have m0:∀o:Int,genB o∈imB o []:=fun o=>by unfold imB;simp
 have m1:∀(o:Int) (L:List RcM) (x:RcM),linkB (hdL o L) (z0k x)∈imB o (L++[x]):=fun o L x=>by rw[z4D];simp
 intro n
 induction n with
 |zero =>
  intro L M hL hh;rw[List.length_eq_zero_iff.1 hL]at hh⊢;rcases List.eq_nil_or_concat M with rfl|⟨M',y,rfl⟩
  · rw[z7Z,z7Z];unfold unl;split
    · rename_i e;exact⟨e,rfl⟩
    · rename_i e;exact⟨e,hh,m0 o,m0 p⟩
  · rw[List.concat_eq_append]at hh⊢;rw[z7Z,z5t];unfold unl;rw[if_neg (z5s _ _ _)];rw[z3x,h0]at hh;exact⟨z5s _ _ _,hh,m0 o,m1 _ _ _⟩
 |succ n ih =>
  intro L M hL hh;rcases List.eq_nil_or_concat L with rfl|⟨L',x,rfl⟩
  · cases hL
  rw[List.concat_eq_append]at hL hh⊢;rcases List.eq_nil_or_concat M with rfl|⟨M',y,rfl⟩
  · rw[z7Z,z5t];unfold unl;rw[if_neg (fun e=>z5s _ _ _ e.symm)]
    rw[z3x,h0]at hh;exact⟨fun e=>z5s _ _ _ e.symm,hh,m1 _ _ _,m0 p⟩
  rw[List.concat_eq_append]at hh⊢;rw[z5t,z5t];unfold unl;split
  · rename_i e;obtain⟨e1,e2⟩:=zeu (z4b _ _) (z4b _ _) e;have hr:=ih L' M' (by simpa using hL) e1
    cases hu:unl (imR o L') (imR p M') with
    |none =>
     rw[hu]at hr;obtain⟨r1,r2⟩:=hr;exact⟨r1,by rw[List.map_append,List.map_append,r2,List.map_singleton,List.map_singleton,e2]⟩
    |some q =>
     rw[hu]at hr;obtain⟨r1,r2,r3,r4⟩:=hr;exact⟨r1,r2,by rw[z4D];exact List.mem_append_left _ r3,by rw[z4D];exact List.mem_append_left _ r4⟩
  · rename_i e;rw[z3x,z3x]at hh;exact⟨e,hh,m1 _ _ _,m1 _ _ _⟩
theorem zim {L M:List RcM} (h:L.map z0k=M.map z0k):expB L=expB M:=by
 have hl:L.length=M.length:=by simpa using congrArg List.length h
 have e:∀L:List RcM,L.map txtR=(L.map z0k).map fun b=>txtB ⟨b.toArray⟩:=fun L=>by rw[List.map_map];rfl
 unfold expB;rw[e,e,h,hl]
def extO (o:Int) (a:Byt) (p:Int) (c:Byt):Option (Byt×Byt):=match rdE a,rdE c with
 |some L,some M=>if hdL o L=hdL p M∧¬(o=p∧a=c) then unl (imR o L) (imR p M) else none
 |_,_=>none
def sees2 (o:Int) (a:Byt) (p:Int) (c:Byt):Prop:=∃L M,rdE a=some L∧rdE c=some M∧hdL o L=hdL p M∧¬(o=p∧a=c)
theorem zbf {o p:Int} {a c:Byt} (h:¬sees2 o a p c):extO o a p c=none:=by
 unfold extO
 cases h1:rdE a with
 |none=>rfl
 |some L =>
  cases h2:rdE c with
  |none=>rfl
  |some M=>exact if_neg fun h3=>h ⟨L,M,h1,h2,h3⟩
theorem zbg {o p:Int} {a c:Byt} (ho:inI64 o) (hp:inI64 p) (ha:a.length<2^64) (hc:c.length<2^64) {L M:List RcM} (h1:rdE a=some L) (h2:rdE c=some M)
  (h3:hdL o L=hdL p M) (h4:¬(o=p∧a=c)):∃x y,extO o a p c=some (x,y)∧unl (imR o L) (imR p M)=some (x,y)∧x≠y∧shaB x=shaB y∧x∈imB o L∧y∈imB p M:=by
 have hu:=zjN o p L.length L M rfl h3
 have he:extO o a p c=unl (imR o L) (imR p M):=by
  unfold extO;rw[h1,h2];exact if_pos ⟨h3,h4⟩
 rw[he]
 cases h5:unl (imR o L) (imR p M) with
 |none =>
  rw[h5]at hu;obtain⟨r1,r2⟩:=hu;exact absurd ⟨zgn ho hp r1,by rw[(z3L ha h1).1,(z3L hc h2).1,zim r2]⟩ h4
 |some q =>
  rw[h5]at hu;exact⟨q.1,q.2,rfl,rfl,hu⟩
theorem wf64r {n:Int} (h:(Lit.int .i64 n).wf=true): -9223372036854775808≤n∧n<9223372036854775808:=by
 simp[Lit.wf,IntKind.min,IntKind.max,IntKind.bits,IntKind.signed]at h;omega
section
variable {H:Type} {enc:TypeId×Value→H} {W:World} {base:Nat} {v:Value} {d:DataW H} {ps:List MemPlace}
theorem z80 (hv:Value.okWide Tryz.prog W .any base 3 v) (h:DataW.Trod enc Tryz.prog W 0 (fun _=>true) true 3 v d ps):∃n,inI64 n∧Rep noM noR W (I n) v:=by
 obtain⟨n,rfl⟩:=okWide_int Tryz.underlying3 hv;obtain⟨x,hx,m,hm,e⟩:=Reads.arg (P:=Tryz.prog) (t:=3) (fun f=>Reads.int Tryz.underlying3 f) rfl h
 simp only[List.cons.injEq,and_true]at e;subst e;exact⟨m,wf64r hm,hx⟩
end
section
variable (σ:St) (o:Int) (l:List StM)
end
def revX (X:List Byt) (k:Nat):List Byt:=(List.range X.length).map fun i=>if i<k∨X.length≤i+k then X.getD (X.length-1-i) [] else X.getD i []
theorem z2g (X:List Byt) (k:Nat):(revX X k).length=X.length:=by simp[revX]
theorem z4T (X:List Byt) (k i:Nat) (h:i<X.length):(revX X k)[i]?=some (if i<k∨X.length≤i+k then X.getD (X.length-1-i) [] else X.getD i []):=by
 unfold revX;rw[List.getElem?_map,List.getElem?_range h];rfl
theorem zev (X:List Byt):revX X 0=X:=by
 refine List.ext_getElem? fun i=>?_
 by_cases h:i<X.length
 · rw[z4T X 0 i h,if_neg (by omega),List.getD_eq_getElem?_getD,List.getElem?_eq_getElem h];rfl
 · rw[List.getElem?_eq_none (by rw[z2g];omega),List.getElem?_eq_none (by omega)]
theorem zgo (X:List Byt):revX X (X.length/2)=X.reverse:=by
 refine List.ext_getElem? fun i=>?_
 by_cases h:i<X.length
 · rw[z4T X _ i h,List.getElem?_reverse h];by_cases hc:i<X.length/2∨X.length≤i+X.length/2
   · rw[if_pos hc,List.getD_eq_getElem?_getD,List.getElem?_eq_getElem (by omega)];rfl
   · rw[if_neg hc,List.getD_eq_getElem?_getD,show X.length-1-i=i by omega,List.getElem?_eq_getElem h];rfl
 · rw[List.getElem?_eq_none (by rw[z2g];omega),List.getElem?_eq_none (by rw[List.length_reverse];omega)]
theorem zew (X:List Byt) (k:Nat) (h:2*k+2≤X.length):((revX X k).set k (X.getD (X.length-1-k) [])).set (X.length-1-k) (X.getD k [])=revX X (k+1):=by
 refine List.ext_getElem? fun i=>?_
 by_cases hi:i<X.length
 · rw[z4T X (k+1) i hi,List.getElem?_set,List.getElem?_set];simp only[List.length_set,z2g];by_cases h1:X.length-1-k=i
   · subst h1;rw[if_pos rfl,if_pos (by omega),if_pos (by omega),show X.length-1-(X.length-1-k)=k by omega]
   · rw[if_neg h1];by_cases h2:k=i
     · subst h2;rw[if_pos rfl,if_pos (by omega),if_pos (by omega)]
     · rw[if_neg h2,z4T X k i hi];by_cases h3:i<k∨X.length≤i+k
       · rw[if_pos h3,if_pos (by omega)]
       · rw[if_neg h3,if_neg (by omega)]
 · rw[List.getElem?_eq_none (by rw[List.length_set,List.length_set,z2g];omega),List.getElem?_eq_none (by rw[z2g];omega)]
theorem zex (X:List Byt) (i:Nat) (b:Byt):(bsv X).set i (.sl 1 (byv b))=bsv (X.set i b):=by
 unfold bsv;rw[List.map_set]
section
variable (σ:St)
theorem zey (l:Nat) (X:List Byt) (hX:X.length≤100000) (hl:σ[l]?=some (.row 1 (bsv X))):Ans Tryz.prog 71 [.osl l X.length] σ (.tup []) (σ.set l (.row 1 (bsv X.reverse))):=by
 have j0:l<σ.length:=by
  rcases Nat.lt_or_ge l σ.length with h|h
  · exact h
  · rw[List.getElem?_eq_none h]at hl;cases hl
 have f0:=z23 X;have ws:IntKind.i64.wrap (((X.length:Nat):Int)-1)=((X.length:Nat):Int)-1:=wrapN (by omega) (by omega)
 have y0:∀Y:St→Ob,(σ.set l (.row 1 (bsv (revX X 0))))=σ:=fun _=>by
  rw[zev];refine List.ext_getElem? fun i=>?_
  rw[List.getElem?_set];split
  · rename_i e;subst e;rw[hl]
  · rfl
 refine Ans.of_run t71 ?_;simp -implicitDefEqProofs only[c71,r71,go_sem,hl,f0,ws];refine Go.Ab.L.count (X.length/2) (fun k=>mkE 28 [(0,.osl l X.length),(2,I k),(3,I ((X.length:Int)-1-k))]) (fun k=>σ.set l (.row 1 (bsv (revX X k)))) ?_ ?_ (by simp -implicitDefEqProofs only[mkE,go_sem];rw[show((X.length:Int)-1-((0:Nat):Int))=(X.length:Int)-1 by omega];rfl) (y0 fun _=>.dead).symm
 · intro k hk J hJ;have h2:2*k+2≤X.length:=by omega
   have ej:(X.length:Int)-1-k=((X.length-1-k:Nat):Int):=by omega
   have d0:(X.length:Int)-1-((k+1:Nat):Int)=((X.length-1-(k+1):Nat):Int):=by omega
   have hd:decide ((k:Int)<((X.length-1-k:Nat):Int))=true:=decide_eq_true (by omega)
   have k0:((k:Int)<((X.length:Nat):Int))=True:=eq_true (by omega)
   have m0:(((X.length-1-k:Nat):Int)<((X.length:Nat):Int))=True:=eq_true (by omega)
   have t0:∀ob:Ob,(σ.set l ob)[l]?=some ob:=fun ob=>List.getElem?_set_self j0
   have e0:∀a b:Ob,(σ.set l a).set l b=σ.set l b:=fun a b=>List.set_set ..
   have q0:(bsv (revX X k)).length=X.length:=by rw[z23,z2g]
   have gk:(bsv (revX X k))[k]?=some (.sl 1 (byv (X.getD k []))):=by
    rw[z3q _ k (by rw[z2g];omega)]
    have:=z4T X k k (by omega)
    rw[List.getElem?_eq_getElem (by rw[z2g];omega),if_neg (by omega)]at this
    rw[Option.some.inj this]
   have gj:(bsv (revX X k))[X.length-1-k]?=some (.sl 1 (byv (X.getD (X.length-1-k) []))):=by
    rw[z3q _ (X.length-1-k) (by rw[z2g];omega)]
    have:=z4T X k (X.length-1-k) (by omega)
    rw[List.getElem?_eq_getElem (by rw[z2g];omega),if_neg (by omega)]at this
    rw[Option.some.inj this]
   have r0:((bsv (revX X k)).set k (.sl 1 (byv (X.getD (X.length-1-k) [])))).set (X.length-1-k) (.sl 1 (byv (X.getD k [])))=bsv (revX X (k+1)):=by
    rw[zex,zex,zew X k h2]
   have n0:((bsv (revX X k)).set k (.sl 1 (byv (X.getD (X.length-1-k) []))))[X.length-1-k]?=some (.sl 1 (byv (X.getD (X.length-1-k) []))):=by
    rw[List.getElem?_set_ne (by omega)];exact gj
   have u0:((bsv (revX X k)).set k (.sl 1 (byv (X.getD (X.length-1-k) [])))).length=X.length:=by rw[List.length_set,q0]
   have wi:IntKind.i64.wrap ((k:Int)+1)=((k+1:Nat):Int):=wrap_succ (i:=k) (by omega)
   have wj:IntKind.i64.wrap (((X.length-1-k:Nat):Int)-1)=((X.length-1-(k+1):Nat):Int):=by
    rw[show((X.length-1-k:Nat):Int)-1=((X.length-1-(k+1):Nat):Int) by omega];exact wrapI (by omega)
   rw[d0]at hJ;rw[ej];generalize revX X k=R at *;generalize X.getD k []=xk at *;generalize X.getD (X.length-1-k) []=xj at *;rw[←r0]at hJ;simp -implicitDefEqProofs only[mkE,go_sem,hd,t0,e0,q0,u0,k0,m0,gk,gj,n0,wi,wj];exact hJ
 · intro J;have hd:decide (((X.length/2:Nat):Int)<(X.length:Int)-1-((X.length/2:Nat):Int))=false:=decide_eq_false (by omega)
   rw[zgo];simp -implicitDefEqProofs only[mkE,go_sem,hd];exact Fini.normal rfl
theorem z97 (a b:Byt):Ans Tryz.prog 70 [.sl 1 (byv a),.sl 1 (byv b)] σ (Bo (decide (a=b))) σ:=by
 refine Ans.of_run t70 ?_;simp -implicitDefEqProofs only[c70,r70,go_sem,z0q,bc,z1L,z1A,AV.isStr,zb8];exact Fini.ret rfl
theorem z7e (o:Int) (b x:Byt) {L:List RcM} (hb:b.length≤40000) (h:rdE b=some L) (hx:x∈imB o L) (hG:∀ex,gloA (σ++ex) 0=some kV) :
  Ans Tryz.prog 69 [I o,.sl 1 (byv b),.sl 1 (byv x)] σ (Bo true) σ:=by
 have k:=z3y σ (o:=o) hb h hG;obtain⟨-,-,hn⟩:=z3L (by omega) h
 have u0:=z4c o L;have hl:(bsv (imB o L)).length=L.length+1:=by rw[z23,u0]
 refine Ans.of_run' t69 (fun q0 _=>?_)
 simp -implicitDefEqProofs only[c69,r69,go_sem];refine CO.intro k ?_;simp -implicitDefEqProofs only[go_sem];refine Go.Ab.L.intro (α:={ i:Nat // ∀j,j<i→(imB o L).getD j []≠x }) (fun i=>L.length+1-i.1) (fun i=>mkE 30 [(2,.sl 1 (byv x)),(7,.osl σ.length (L.length+1)),(9,I i.1)]) (fun _=>σ++[.row 1 (bsv (imB o L))]) ?_ ⟨0,fun j hj=>absurd hj (Nat.not_lt_zero _)⟩ rfl rfl
 rintro⟨i,hi⟩ J hJ;simp only at hJ⊢
 have hlt:i<L.length+1:=by
  rcases Nat.lt_or_ge i (L.length+1) with h|h
  · exact h
  · obtain⟨j,hj,e⟩:=List.getElem_of_mem hx;rw[u0]at hj;exact absurd (by rw[List.getD_eq_getElem?_getD,List.getElem?_eq_getElem (by rw[u0];exact hj)];exact e) (hi j (by omega))
 have hd:decide ((i:Int)<((L.length+1:Nat):Int))=true:=decide_eq_true (by omega)
 have j0:((i:Int)<((L.length+1:Nat):Int))=True:=eq_true (by omega)
 have y0:(bsv (imB o L))[i]?=some (.sl 1 (byv ((imB o L).getD i []))):=by
  rw[z3q _ i (by rw[u0];omega),List.getD_eq_getElem?_getD,List.getElem?_eq_getElem (by rw[u0];omega)];rfl
 have wi:IntKind.i64.wrap ((i:Int)+1)=((i+1:Nat):Int):=wrap_succ (i:=i) (by omega)
 by_cases he:(imB o L).getD i []=x
 · rw[he]at y0;simp -implicitDefEqProofs only[mkE,go_sem,g0,hl,hd,j0,y0,z0q,bc,z1L,z1A,AV.isStr,BEq.rfl];exact Fini.trim2 (σ':=σ) (ex:=[_]) rfl rfl (Nat.le_refl _) (.pl _) q0
 · have k0:=hJ ⟨i+1,fun j hj=>by
    rcases Nat.lt_or_eq_of_le (Nat.lt_succ_iff.1 hj) with h|rfl
    · exact hi j h
    · exact he⟩ (by simp only;omega)
   simp only at k0;have ht:=zb8 ((imB o L).getD i []) x;rw[decide_eq_false he]at ht;simp -implicitDefEqProofs only[mkE,go_sem,g0,hl,hd,j0,y0,z0q,bc,z1L,z1A,AV.isStr,ht,wi];exact k0
def extV:Option (Byt×Byt)→AV
 |none=>.tup [.nils,.nils,Bo false]
 |some (x,y)=>.tup [.sl 1 (byv x),.sl 1 (byv y),Bo true]
theorem zjO {X Y:List Byt} {q:Byt×Byt} (h:unl X Y=some q):0<X.length∧0<Y.length:=by
 cases X with
 |nil=>simp[unl]at h
 |cons x X=>cases Y with
  |nil=>simp[unl]at h
  |cons y Y=>simp
theorem zgp {X Y:List Byt} {i:Nat} {q:Byt×Byt} (h:unl (X.drop i) (Y.drop i)=some q):∃(h1:i<X.length) (h2:i<Y.length),
  (X[i]=Y[i]→unl (X.drop (i+1)) (Y.drop (i+1))=some q)∧(X[i]≠Y[i]→q=(X[i],Y[i])):=by
 have h0:=zjO h;simp only[List.length_drop]at h0;refine⟨by omega,by omega,?_,?_⟩
 all_goals
  rw[List.drop_eq_getElem_cons (by omega:i<X.length),List.drop_eq_getElem_cons (by omega:i<Y.length)]at h
  intro e;unfold unl at h
 · rw[if_pos e]at h;exact h
 · rw[if_neg e]at h;exact(Option.some.inj h).symm
theorem zin (o p:Int) (a c:Byt) (ho:inI64 o) (hp:inI64 p) (ha:a.length≤40000) (hc:c.length≤40000) (hG:∀ex,gloA (σ++ex) 0=some kV) :
  Ans Tryz.prog 40 [I o,.sl 1 (byv a),I p,.sl 1 (byv c)] σ (extV (extO o a p c)) σ:=by
 have k1:=z2u σ o a ha hG;have k2:=z2u σ p c hc hG;have l1:=z5r o (rdE a);have l2:=z5r p (rdE c);have eqv:=z7Y 32 (vfyH o (rdE a)) (vfyH p (rdE c)) l1 l2;simp only[List.reduceReplicate]at eqv;have m1:=z05 (vfyH o (rdE a));have m2:=z05 (vfyH p (rdE c));have a1:(byv (vfyH o (rdE a))).all AV.one=true:=Sha.bv_all _;have a2:(byv (vfyH p (rdE c))).all AV.one=true:=Sha.bv_all _;have t1:List.take 32 (byv (vfyH o (rdE a)))=byv (vfyH o (rdE a)):=List.take_of_length_le (by rw[m1,l1];exact Nat.le_refl _)
 have t2:List.take 32 (byv (vfyH p (rdE c)))=byv (vfyH p (rdE c)):=List.take_of_length_le (by rw[m2,l2];exact Nat.le_refl _)
 have k3:=z97 σ a c;by_cases hs:sees2 o a p c
 case neg =>
  rw[zbf hs];unfold extV
  have n0:(rdE a).isSome=true→(rdE c).isSome=true→(vfyH o (rdE a)==vfyH p (rdE c))=true→(o==p)=true∧decide (a=c)=true:=by
   intro h1 h2 h3
   cases e1:rdE a with
   |none=>rw[e1]at h1;cases h1
   |some L =>
    cases e2:rdE c with
    |none=>rw[e2]at h2;cases h2
    |some M =>
     rw[e1,e2]at h3;have h4:hdL o L=hdL p M:=by simpa[vfyH] using h3
     have h5:o=p∧a=c:=Classical.byContradiction fun h=>hs ⟨L,M,e1,e2,h4,h⟩
     exact⟨by simp[h5.1],by simp[h5.2]⟩
  unfold vfyV at k1 k2;generalize (rdE a).isSome=A at *;generalize (rdE c).isSome=B at *;generalize vfyH o (rdE a)=H1 at *;generalize vfyH p (rdE c)=H2 at *;generalize (H1==H2)=Q at *;refine Ans.of_run t40 ?_;simp -implicitDefEqProofs only[c40,r40,go_sem];refine CO.intro k1 ?_;simp -implicitDefEqProofs only[go_sem,m1,l1,a1];refine CO.intro k2 ?_;simp -implicitDefEqProofs only[go_sem,m2,l2,a2]
  cases A with
  |false=>simp -implicitDefEqProofs only[go_sem];exact Fini.ret rfl
  |true =>
   cases B with
   |false=>simp -implicitDefEqProofs only[go_sem];exact Fini.ret rfl
   |true =>
    cases Q with
    |false=>simp -implicitDefEqProofs only[go_sem,m1,l1,t1,m2,l2,t2,eqv];exact Fini.ret rfl
    |true =>
     obtain⟨h1,h2⟩:=n0 rfl rfl rfl;rw[h2]at k3;simp -implicitDefEqProofs only[go_sem,m1,l1,t1,m2,l2,t2,eqv,h1];refine CO.intro k3 ?_;simp -implicitDefEqProofs only[go_sem];exact Fini.ret rfl
 obtain⟨L,M,e1,e2,hh,k0⟩:=hs;obtain⟨x,y,j0,hu,hxy,hsh,hxm,hym⟩:=zbg ho hp (by omega) (by omega) e1 e2 hh k0
 rw[j0];unfold extV;simp only;have hq:(vfyH o (rdE a)==vfyH p (rdE c))=true:=by rw[e1,e2];simp[vfyH,hh]
 rw[hq]at eqv;have i1:=z3y σ (o:=o) ha e1 hG;have i2:=z3y (σ++[.row 1 (bsv (imB o L))]) (o:=p) hc e2 (fun ex=>by rw[List.append_assoc];exact hG _)
 rw[List.append_assoc,List.length_append]at i2;simp only[List.length_cons,List.length_nil,Nat.zero_add,List.cons_append,List.nil_append]at i2;have n1:=z4c o L;have n2:=z4c p M;obtain⟨-,-,hn1⟩:=z3L (by omega) e1
 obtain⟨-,-,hn2⟩:=z3L (by omega) e2
 have r1:=zey (σ++[.row 1 (bsv (imB o L)),.row 1 (bsv (imB p M))]) σ.length (imB o L) (by omega) (g0 _ _ _)
 rw[s0,n1]at r1;have r2:=zey (σ++[.row 1 (bsv (imB o L).reverse),.row 1 (bsv (imB p M))]) (σ.length+1) (imB p M) (by omega) (g1 _ _ _ _)
 rw[s1,n2]at r2;unfold vfyV at k1 k2;rw[e1]at k1;rw[e2]at k2;rw[e1]at m1 l1 a1 t1 eqv;rw[e2]at m2 l2 a2 t2 eqv;simp only[Option.isSome_some]at k1 k2;have hu:unl ((imR o L).drop 0) ((imR p M).drop 0)=some (x,y):=hu;have c1:(imR o L).length=L.length+1:=by unfold imR;rw[List.length_reverse,n1]
 have c2:(imR p M).length=M.length+1:=by unfold imR;rw[List.length_reverse,n2]
 change Ans Tryz.prog 71 _ _ _ (σ++[.row 1 (bsv (imR o L)),.row 1 (bsv (imB p M))]) at r1;change Ans Tryz.prog 71 _ (σ++[.row 1 (bsv (imR o L)),.row 1 (bsv (imB p M))]) _ (σ++[.row 1 (bsv (imR o L)),.row 1 (bsv (imR p M))]) at r2;have d1:(bsv (imR o L)).length=L.length+1:=by rw[z23,c1]
 have d2:(bsv (imR p M)).length=M.length+1:=by rw[z23,c2]
 generalize imR o L=RX at *;generalize imR p M=RY at *;generalize bsv (imB o L)=BX at *;generalize bsv (imB p M)=BY at *;generalize vfyH o (some L)=H1 at *;generalize vfyH p (some M)=H2 at *;have y0:(if(((M.length+1:Nat):Int))<((L.length+1:Nat):Int) then((M.length+1:Nat):Int) else((L.length+1:Nat):Int))=((min (L.length+1) (M.length+1):Nat):Int):=by split<;>omega
 refine Ans.of_run' t40 (fun q0 _=>?_)
 simp -implicitDefEqProofs only[c40,r40,go_sem];refine CO.intro k1 ?_;simp -implicitDefEqProofs only[go_sem,m1,l1,a1];refine CO.intro k2 ?_;simp -implicitDefEqProofs only[go_sem,m2,l2,a2,m1,l1,t1,t2,eqv]
 have r0:(o==p)=false∨((o==p)=true∧decide (a=c)=false):=by
  by_cases h1:o=p
  · exact .inr ⟨by simp[h1],decide_eq_false fun h2=>k0 ⟨h1,h2⟩⟩
  · exact .inl (by simp[h1])
 rcases r0 with hE|⟨hE,hF⟩
 case' inl=>simp -implicitDefEqProofs only[go_sem,hE]
 case' inr =>
  rw[hF]at k3;simp -implicitDefEqProofs only[go_sem,hE];refine CO.intro k3 ?_;simp -implicitDefEqProofs only[go_sem]
 all_goals
  refine CO.intro i1 ?_;simp -implicitDefEqProofs only[go_sem];refine CO.intro i2 ?_;simp -implicitDefEqProofs only[go_sem];refine CO.intro r1 ?_;simp -implicitDefEqProofs only[go_sem];refine CO.intro r2 ?_;simp -implicitDefEqProofs only[go_sem,g0,g1,d1,d2,y0]
  refine Go.Ab.L.intro (α:={ i:Nat // unl (RX.drop i) (RY.drop i)=some (x,y) }) (fun i=>L.length+1-i.1) (fun i=>mkE 96 [(15,.osl σ.length (L.length+1)),(17,.osl (σ.length+1) (M.length+1)),(73,I (min (L.length+1) (M.length+1):Nat)),(74,I i.1)])
   (fun _=>σ++[.row 1 (bsv RX),.row 1 (bsv RY)]) ?_ ⟨0,hu⟩ rfl rfl
  rintro⟨i,hi⟩ J hJ;simp only at hJ⊢;obtain⟨j1,j2,u1,u2⟩:=zgp hi;have hd:decide ((i:Int)<((min (L.length+1) (M.length+1):Nat):Int))=true:=decide_eq_true (by omega)
  have q1:((i:Int)<((L.length+1:Nat):Int))=True:=eq_true (by omega)
  have q2:((i:Int)<((M.length+1:Nat):Int))=True:=eq_true (by omega)
  have x1:=z3q RX i j1;have x2:=z3q RY i j2;have wi:IntKind.i64.wrap ((i:Int)+1)=((i+1:Nat):Int):=wrap_succ (i:=i) (by omega)
  have u0:=fun s=>z97 s RX[i] RY[i]
  by_cases he:RX[i]=RY[i]
  · have m0:=hJ ⟨i+1,u1 he⟩ (by simp only;omega)
    simp only at m0;rw[decide_eq_true he]at u0;generalize RX[i]=vx at *;generalize RY[i]=vy at *;simp -implicitDefEqProofs only[mkE,go_sem,hd,g0,g1,d1,d2,q1,q2,x1,x2];refine CD.intro (u0 _) ?_;simp -implicitDefEqProofs only[go_sem,g0,g1,d1,d2,q1,q2,x1,x2,wi];exact m0
  · have hq:=u2 he;rw[decide_eq_false he]at u0;obtain⟨rfl,rfl⟩:=Prod.mk.inj hq;generalize hvx:RX[i]=vx at *;generalize hvy:RY[i]=vy at *;simp -implicitDefEqProofs only[mkE,go_sem,hd,g0,g1,d1,d2,q1,q2,x1,x2];refine CD.intro (u0 _) ?_;simp -implicitDefEqProofs only[go_sem,g0,g1,d1,d2,q1,q2,x1,x2]
    exact Fini.trim2 (σ':=σ) (ex:=[_,_]) rfl rfl (Nat.le_refl _) (.tup _ fun k hk=>by
     match k,hk with
     |0,_=>exact z1j _ _
     |1,_=>exact z1j _ _
     |2,_=>exact .pl _) q0
end
section
variable (σ:St)
theorem z3z (o p:Int) (a c:Byt) (ho:inI64 o) (hp:inI64 p) (ha:a.length≤40000) (hc:c.length≤40000) (hG:∀ex,gloA (σ++ex) 0=some kV) :
  Ans Tryz.prog 39 [I o,.sl 1 (byv a),I p,.sl 1 (byv c)] σ (Bo true) σ:=by
 have k1:=z2u σ o a ha hG;have k2:=z2u σ p c hc hG;have k3:=zin σ o p a c ho hp ha hc hG;have l1:=z5r o (rdE a);have l2:=z5r p (rdE c);have eqv:=z7Y 32 (vfyH o (rdE a)) (vfyH p (rdE c)) l1 l2;simp only[List.reduceReplicate]at eqv;have m1:=z05 (vfyH o (rdE a));have m2:=z05 (vfyH p (rdE c));have a1:(byv (vfyH o (rdE a))).all AV.one=true:=Sha.bv_all _;have a2:(byv (vfyH p (rdE c))).all AV.one=true:=Sha.bv_all _;have t1:List.take 32 (byv (vfyH o (rdE a)))=byv (vfyH o (rdE a)):=List.take_of_length_le (by rw[m1,l1];exact Nat.le_refl _)
 have t2:List.take 32 (byv (vfyH p (rdE c)))=byv (vfyH p (rdE c)):=List.take_of_length_le (by rw[m2,l2];exact Nat.le_refl _)
 have tx:=zb8 a c;by_cases hs:sees2 o a p c
 case neg =>
  rw[zbf hs]at k3;unfold extV at k3
  have r0:(rdE a).isSome=true→(rdE c).isSome=true→(vfyH o (rdE a)==vfyH p (rdE c))=true→(o==p)=true∧decide (a=c)=true:=by
   intro h1 h2 h3
   cases e1:rdE a with
   |none=>rw[e1]at h1;cases h1
   |some L =>
    cases e2:rdE c with
    |none=>rw[e2]at h2;cases h2
    |some M =>
     rw[e1,e2]at h3;have h4:hdL o L=hdL p M:=by simpa[vfyH] using h3
     have h5:o=p∧a=c:=Classical.byContradiction fun h=>hs ⟨L,M,e1,e2,h4,h⟩
     exact⟨by simp[h5.1],by simp[h5.2]⟩
  unfold vfyV at k1 k2;generalize (rdE a).isSome=A at *;generalize (rdE c).isSome=B at *;generalize vfyH o (rdE a)=H1 at *;generalize vfyH p (rdE c)=H2 at *;generalize (H1==H2)=Q at *;have u0:((0:Int)==0)=true:=rfl;refine Ans.of_run t39 ?_;simp -implicitDefEqProofs only[c39,r39,go_sem];refine CO.intro k1 ?_;simp -implicitDefEqProofs only[go_sem,m1,l1,a1];refine CO.intro k2 ?_;simp -implicitDefEqProofs only[go_sem,m2,l2,a2];refine CO.intro k3 ?_;simp -implicitDefEqProofs only[go_sem]
  cases A with
  |false=>simp -implicitDefEqProofs only[go_sem,u0];exact Fini.ret rfl
  |true =>
   cases B with
   |false=>simp -implicitDefEqProofs only[go_sem,u0];exact Fini.ret rfl
   |true =>
    cases Q with
    |false=>simp -implicitDefEqProofs only[go_sem,m1,l1,t1,m2,l2,t2,eqv,u0];exact Fini.ret rfl
    |true =>
     obtain⟨h1,h2⟩:=r0 rfl rfl rfl;rw[h2]at tx;simp -implicitDefEqProofs only[go_sem,m1,l1,t1,m2,l2,t2,eqv,h1,z0q,bc,z1L,z1A,AV.isStr,tx,u0];exact Fini.ret rfl
 obtain⟨L,M,e1,e2,hh,k0⟩:=hs;obtain⟨x,y,j0,hu,d0,h0,m0,n0⟩:=zbg ho hp (by omega) (by omega) e1 e2 hh k0
 rw[j0]at k3;unfold extV at k3;simp only at k3;have hq:(vfyH o (rdE a)==vfyH p (rdE c))=true:=by rw[e1,e2];simp[vfyH,hh]
 rw[hq]at eqv;have f0:∀r∈L,r.bd.length≤40000:=fun r hr=>by have:=zbc (by omega) e1 r hr;omega
 have t0:∀r∈M,r.bd.length≤40000:=fun r hr=>by have:=zbc (by omega) e2 r hr;omega
 have hxl:=z5q o L f0 x m0;have hyl:=z5q p M t0 y n0;have s1:Ans Tryz.prog 27 [.sl 1 (byv x)] σ (.agg (byv (shaB x))) σ:=Sha.sha_ans σ x (by omega) hG
 have s2:Ans Tryz.prog 27 [.sl 1 (byv y)] σ (.agg (byv (shaB y))) σ:=Sha.sha_ans σ y (by omega) hG
 rw[←h0]at s2;have h1:=z7e σ o a x ha e1 m0 hG;have h2:=z7e σ p c y hc e2 n0 hG;have y0:=zb8 x y;rw[decide_eq_false d0]at y0;have q0:=z7Y 32 (shaB x) (shaB x) (z0D _) (z0D _);rw[beq_self_eq_true]at q0;simp only[List.reduceReplicate]at q0;have dl:=z05 (shaB x);have d32:(shaB x).length=32:=z0D _;unfold vfyV at k1 k2;rw[e1]at k1;rw[e2]at k2;rw[e1]at m1 l1 a1 t1 eqv;rw[e2]at m2 l2 a2 t2 eqv;simp only[Option.isSome_some]at k1 k2;generalize vfyH o (some L)=H1 at *;generalize vfyH p (some M)=H2 at *;generalize shaB x=D at *;refine Ans.of_run t39 ?_;simp -implicitDefEqProofs only[c39,r39,go_sem];refine CO.intro k1 ?_;simp -implicitDefEqProofs only[go_sem,m1,l1,a1];refine CO.intro k2 ?_;simp -implicitDefEqProofs only[go_sem,m2,l2,a2];refine CO.intro k3 ?_
 have e0:(o==p)=false∨((o==p)=true∧decide (a=c)=false):=by
  by_cases h1:o=p
  · exact .inr ⟨by simp[h1],decide_eq_false fun h2=>k0 ⟨h1,h2⟩⟩
  · exact .inl (by simp[h1])
 rcases e0 with hE|⟨hE,hF⟩
 case' inl=>simp -implicitDefEqProofs only[go_sem,m1,l1,t1,m2,l2,t2,eqv,hE,z0q,bc,z1L,z1A,AV.isStr,y0]
 case' inr =>
  rw[hF]at tx;simp -implicitDefEqProofs only[go_sem,m1,l1,t1,m2,l2,t2,eqv,hE,z0q,bc,z1L,z1A,AV.isStr,tx,y0]
 all_goals
  refine CO.intro s1 ?_;simp -implicitDefEqProofs only[go_sem];refine CO.intro s2 ?_;simp -implicitDefEqProofs only[go_sem,q0];refine CO.intro h1 ?_;simp -implicitDefEqProofs only[go_sem];refine CO.intro h2 ?_;simp -implicitDefEqProofs only[go_sem];exact Fini.ret rfl
end
section
variable (σ:St)
end
theorem zio (b:Byt) (k:Nat) (c:UInt8):(byv b).set k (bc c)=byv (b.set k c):=by
 unfold byv;rw[List.map_set]
theorem zgq {a:Int} {n:Nat} (ha:0≤a) (hn:0<n):∃k:Nat,k<n∧a.tmod (n:Int)=(k:Int):=by
 obtain⟨m,rfl⟩:=Int.eq_ofNat_of_zero_le ha;exact⟨m%n,Nat.mod_lt _ hn,rfl⟩
section
variable (σ:St) (o p:Int) (l:List StM)
theorem z6u (ho:inI64 o) (hp:inI64 p) (h:MdOk l) (at_:Int) (hat:inI64 at_) (by_:UInt8) (hG:∀ex,gloA (σ++ex) 0=some kV) :
  Ans Tryz.prog 9 [I o,I p,.sl 21 (l.map stpV),I at_,bc by_] σ (Bo true) σ:=by
 have kM:=madeN σ o l h hG;have hl8:=zes l;have j1:=zjM l h;have hxl:=zil l;have u0:=zgk (mdN l);generalize mdN l=L at *;have kX:=exp_Z σ [] o L (by omega) (fun r hr=>(j1 r hr).2)
 rw[List.append_nil]at kX;have n0:=zgV hG (chZ σ.length (chL o L));obtain⟨S,eS⟩:∃S,S=σ++chZ σ.length (chL o L):=⟨_,rfl⟩;rw[←eS]at kM kX n0;have y0:=zgV n0 [.dead];generalize expB L=X at *;have j0:=z05 X;have z0:(((X.length:Nat):Int)==0)=false:=by rw[beq_eq_false_iff_ne];omega
 have z1:(((X.length:Nat):Int)=0)=False:=eq_false (by omega)
 have r0:(byv X).isEmpty=false:=by
  cases X with
  |nil=>simp at u0
  |cons _ _=>rfl
 have k1:(X.length≤2^32)=True:=eq_true (by omega)
 obtain⟨at0,e0,a0,a1⟩:∃at0:Int,at0=(if at_<0 then 0 else at_)∧0≤at0∧at0<9223372036854775808:=⟨_,rfl,by unfold inI64 at hat;split<;>omega,by unfold inI64 at hat;split<;>omega⟩
 obtain⟨k,hk,ek⟩:=zgq a0 u0;have wk:IntKind.i64.wrap ((k:Nat):Int)=((k:Nat):Int):=wrapI (by omega)
 have t0:(((k:Nat):Int)<((X.length:Nat):Int))=True:=eq_true (by omega)
 have d0:(((k:Nat):Int)≤((X.length:Nat):Int))=True:=eq_true (by omega)
 have y1:(byv X)[k]?=some (bc X[k]):=by unfold byv;rw[List.getElem?_map,List.getElem?_eq_getElem hk];rfl
 have k0:(byv X).set k (.pl (.int .u8 ((by_.toNat:Nat):Int)))=byv (X.set k by_):=zio X k by_;have u1:(X.set k by_).length=X.length:=List.length_set ..;have q0:=z05 (X.set k by_);have f0:=z4m X k;have q1:=z0q X;have h0:=z3z (S++[.dead]) o o X (X.set k by_) ho ho (by omega) (by omega) y0
 have o0:=z3z (S++[.dead]) o p X X ho hp (by omega) (by omega) y0
 have x1:=z3z (S++[.dead]) o p X (X.set k by_) ho hp (by omega) (by omega) y0
 have l0:=z3z (S++[.dead]) o o X (X.take k) ho ho (by omega) (by rw[List.length_take];omega) y0
 have kA:=zer (S++[.dead]) y0;generalize X.set k by_=T at *;refine Ans.of_run' t9 (fun m0 _=>?_)
 simp -implicitDefEqProofs only[c9,r9,go_sem];refine CO.intro kM ?_;simp -implicitDefEqProofs only[go_sem];refine CO.intro kX ?_;simp -implicitDefEqProofs only[go_sem,j0,z0]
 rcases(by by_cases hn:at_<0
           · exact .inl ⟨decide_eq_true hn,by rw[e0,if_pos hn]⟩
           · exact .inr ⟨decide_eq_false hn,by rw[e0,if_neg hn]⟩:(decide (at_<0)=true∧at0=0)∨(decide (at_<0)=false∧at0=at_)) with⟨hd,ea⟩|⟨hd,ea⟩
 all_goals
  rw[ea]at ek;simp -implicitDefEqProofs only[go_sem,hd,z0q,bc,j0,r0,k1,g0,s0,z1,ek,wk,t0,y1,k0,q0,u1];refine CO.intro h0 ?_;simp -implicitDefEqProofs only[go_sem];refine CO.intro o0 ?_;simp -implicitDefEqProofs only[go_sem];refine CO.intro x1 ?_;simp -implicitDefEqProofs only[go_sem,j0,z1,ek,wk,d0,f0];refine CO.intro l0 ?_;simp -implicitDefEqProofs only[go_sem];refine CO.intro kA ?_;simp -implicitDefEqProofs only[go_sem];exact Fini.trim2 (σ':=σ) (ex:=chZ σ.length (chL o L)++[.dead]) rfl (by rw[eS,List.append_assoc]) (Nat.le_refl _) (.pl _) m0
end
end Go.Proofs.YteakobbdgehlgaaGreatDoor
