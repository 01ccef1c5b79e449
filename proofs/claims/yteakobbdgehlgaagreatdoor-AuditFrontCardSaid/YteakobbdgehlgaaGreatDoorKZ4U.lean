/- A request laid as bytes, by the document: the walk. No condition. -/
import Derived.Test.YteakobbdgehlgaaGreatDoorKRb5U
import Derived.Test.YteakobbdgehlgaaGreatDoorKFullU
import Derived.Test.YteakobbdgehlgaaGreatDoorKRq2cU
import Derived.Test.YteakobbdgehlgaaGreatDoorKRc12U
import Derived.Test.YteakobbdgehlgaaGreatDoorKShA1U
set_option linter.unusedSimpArgs false
set_option linter.unusedVariables false
set_option linter.unusedSectionVars false
set_option maxRecDepth 100000
set_option maxHeartbeats 8000000
namespace Go.Proofs.YteakobbdgehlgaaGreatDoor
open Go Go.Ab Go.Cod
section
variable (σ:St)
theorem zeC (r:ReM) (hsm:ReSm r):Ans Tryz.prog 46 [reV r] σ (.sl 1 (byv (z1w r))) σ:=by
 have hi:=fun s=>zcj s r hsm
 unfold z1w
 cases hM:mayR r with
 |false =>
  have:Ans Tryz.prog 46 [reV r] σ .nils σ:=by
   refine Ans.of_run t46 ?_;unfold reV reC at hi⊢;simp -implicitDefEqProofs only[c46,r46,go_sem];refine CO.intro (hi _) ?_;rw[hM];simp -implicitDefEqProofs only[go_sem];exact Fini.ret rfl
  exact this.subR (.nils 1)
 |true =>
  have e0:=bd_ok hM;obtain⟨o0,hsz,j0⟩:=zjL hM;rw[if_pos rfl,←j0];have hf:=fun s=>z0V s r.op
  have t1:=zbo e0 (dOf r.op);have y0:=zbn e0;have k0:=z98 r (dOf r.op);have hzero:preC r (dOf r.op) 0=[opC r.op]:=by simp[preC]
  have hss:=z1k (dOf r.op);generalize dOf r.op=s at *;obtain⟨r1,h1,id0,id1,htx,hst,hen,l0,e1,k1,j1,d1⟩:=e0;have m1:=fun s=>z7P s r.id.toNat (by omega)
  have m2:=fun s=>z1Q s r.txt (by omega)
  have m3:=fun s=>z7P s r.st (by omega)
  have m4:=fun s=>z7P s r.en (by omega)
  have m5:=fun s=>z78 s r.mt hsm.mt
  have m6:=fun s=>z3P s (r.any,r.lo,r.hi)
  have m7:=fun s=>z8X s r.ru hsm.ru
  have m8:=fun s=>z9Z s r.ls hsm.ls
  have m9:=fun s=>z0O s r.val
  have mA:=fun s=>z3F s (bitsF r.val)
  have w1:IntKind.u64.wrap r.id=((r.id.toNat:Nat):Int):=by
   rw[show r.id=((r.id.toNat:Nat):Int) from by omega,z1r (by omega)];rfl
  have w2:=z7R r1 h1;have w3:=z7R l0 (by omega)
  have c78:putC r 73=putN r.id.toNat:=rfl;have c23:putC r 84=txtB r.txt:=rfl;have c98:putC r 83=putN r.st:=rfl;have x1:putC r 69=putN r.en:=rfl;have c119:putC r 90=[opC r.sta]:=rfl;have c77:putC r 77=z0W r.mt:=rfl;have u1:putC r 66=putBd (r.any,r.lo,r.hi):=rfl;have y1:putC r 82=z1G r.ru:=rfl;have c53:putC r 76=z2L r.ls:=rfl;have c163:putC r 86=putV r.val:=rfl;have c75:putC r 45=[]:=rfl;have n1:=y0 45;clear k1 j1 d1 j0;obtain⟨tok,op,id,n0,st,en,h0,mt,any,lo,t0,⟨src,m0,ra,rl,rh,eq⟩,ls,val⟩:=r;simp only at m1 m2 m3 m4 m5 m6 m7 m8 m9 mA w1 w2 w3 hf c78 c23 c98 x1 c119 c77 u1 y1 c53 c163 hzero;refine Ans.of_run' t46 (fun r0 _=>?_)
  unfold reV reC at hi⊢;unfold bandV at m6;unfold ruV at m7;simp -implicitDefEqProofs only[c46,r46,go_sem];refine CO.intro (hi _) ?_;rw[hM];simp -implicitDefEqProofs only[go_sem];refine CO.intro (hf _) ?_;simp -implicitDefEqProofs only[go_sem,w2,g0,s0];generalize hR:({ tok:=tok,op:=op,id:=id,txt:=n0,st:=st,en:=en,sta:=h0,mt:=mt,any:=any,lo:=lo,hi:=t0,ru:={ src:=src,tgt:=m0,any:=ra,lo:=rl,hi:=rh,eq:=eq },ls:=ls,val:=val }:ReM)=R at *;refine Go.Ab.L.count s.size (fun i=>mkE 99 [(1,.rp [Sx tok,I op,I id,Sx n0,UN st,UN en,I h0,mlV mt,Bo any,Fl lo,Fl t0,mlV src,mlV m0,Bo ra,Fl rl,Fl rh,.sl 1 (txs eq),lsV ls,Fl val]),(3,Sx s),(4,.osl σ.length (preC R s i).length),(5,I i)]) (fun i=>σ++[.row 1 (byv (preC R s i))]) ?_ ?_ (by rw[hzero];rfl) (by rw[hzero];rfl)
  · intro i u0 J hJ;have f0:i<s.data.toList.length:=by omega
    have hp:=t1 i (by omega)
    have hc:=o0 s.data.toList[i] (List.getElem_mem f0)
    have hx:byteAt s i=(s.data.toList[i]).toNat:=by
     unfold byteAt;rw[List.getD_eq_getElem?_getD,List.getElem?_eq_getElem f0,Option.getD_some]
    rw[k0 i f0,List.length_append]at hJ;have y0:=y0 s.data.toList[i];generalize s.data.toList[i]=c at hx hc hJ y0;generalize preC R s i=pre at hJ hp⊢;have q0:=wrap_succ (i:=i) (by omega)
    unfold z0Y at hc;rcases hc with rfl|rfl|rfl|rfl|rfl|rfl|rfl|rfl|rfl|rfl|rfl
    · rw[c78]at hJ y0;have hb:((byteAt s i:Nat):Int)=73:=by rw[hx];rfl
      have q1:pre.length+(putN id.toNat).length≤4294967296:=by omega
      simp -implicitDefEqProofs only[mkE,go_sem,z0e u0,dec_lt u0,hb,z07,w1];refine CO.intro (m1 _) ?_;simp -implicitDefEqProofs only[go_sem,g0,s0,z05,z0z,bc,q1,q0];simp only[z0r]at hJ;exact hJ
    · rw[c23]at hJ y0;have hb:((byteAt s i:Nat):Int)=84:=by rw[hx];rfl
      have q1:pre.length+(txtB n0).length≤4294967296:=by omega
      simp -implicitDefEqProofs only[mkE,go_sem,z0e u0,dec_lt u0,hb,z07,w1];refine CO.intro (m2 _) ?_;simp -implicitDefEqProofs only[go_sem,g0,s0,z05,z0z,bc,q1,q0];simp only[z0r]at hJ;exact hJ
    · rw[c98]at hJ y0;have hb:((byteAt s i:Nat):Int)=83:=by rw[hx];rfl
      have q1:pre.length+(putN st).length≤4294967296:=by omega
      simp -implicitDefEqProofs only[mkE,go_sem,z0e u0,dec_lt u0,hb,z07,w1];refine CO.intro (m3 _) ?_;simp -implicitDefEqProofs only[go_sem,g0,s0,z05,z0z,bc,q1,q0];simp only[z0r]at hJ;exact hJ
    · rw[x1]at hJ y0;have hb:((byteAt s i:Nat):Int)=69:=by rw[hx];rfl
      have q1:pre.length+(putN en).length≤4294967296:=by omega
      simp -implicitDefEqProofs only[mkE,go_sem,z0e u0,dec_lt u0,hb,z07,w1];refine CO.intro (m4 _) ?_;simp -implicitDefEqProofs only[go_sem,g0,s0,z05,z0z,bc,q1,q0];simp only[z0r]at hJ;exact hJ
    · rw[c119]at hJ y0;have hb:((byteAt s i:Nat):Int)=90:=by rw[hx];rfl
      have q1:pre.length+1≤4294967296:=by omega
      simp -implicitDefEqProofs only[mkE,go_sem,z0e u0,dec_lt u0,hb,z07,w3,g0,s0,z05,z0z,bc,q1,q0];simp only[z0r]at hJ;exact hJ
    · rw[c77]at hJ y0;have hb:((byteAt s i:Nat):Int)=77:=by rw[hx];rfl
      have q1:pre.length+(z0W mt).length≤4294967296:=by omega
      simp -implicitDefEqProofs only[mkE,go_sem,z0e u0,dec_lt u0,hb,z07,w1];refine CO.intro (m5 _) ?_;simp -implicitDefEqProofs only[go_sem,g0,s0,z05,z0z,bc,q1,q0];simp only[z0r]at hJ;exact hJ
    · rw[u1]at hJ y0;have hb:((byteAt s i:Nat):Int)=66:=by rw[hx];rfl
      have q1:pre.length+(putBd (any,lo,t0)).length≤4294967296:=by omega
      simp -implicitDefEqProofs only[mkE,go_sem,z0e u0,dec_lt u0,hb,z07,w1];refine CO.intro (m6 _) ?_;simp -implicitDefEqProofs only[go_sem,g0,s0,z05,z0z,bc,q1,q0];simp only[z0r]at hJ;exact hJ
    · rw[y1]at hJ y0;have hb:((byteAt s i:Nat):Int)=82:=by rw[hx];rfl
      have q1:pre.length+(z1G ⟨src,m0,ra,rl,rh,eq⟩).length≤4294967296:=by omega
      simp -implicitDefEqProofs only[mkE,go_sem,z0e u0,dec_lt u0,hb,z07,w1];refine CO.intro (m7 _) ?_;simp -implicitDefEqProofs only[go_sem,g0,s0,z05,z0z,bc,q1,q0];simp only[z0r]at hJ;exact hJ
    · rw[c53]at hJ y0;have hb:((byteAt s i:Nat):Int)=76:=by rw[hx];rfl
      have q1:pre.length+(z2L ls).length≤4294967296:=by omega
      simp -implicitDefEqProofs only[mkE,go_sem,z0e u0,dec_lt u0,hb,z07,w1];refine CO.intro (m8 _) ?_;simp -implicitDefEqProofs only[go_sem,g0,s0,z05,z0z,bc,q1,q0];simp only[z0r]at hJ;exact hJ
    · rw[c163]at hJ y0;have hb:((byteAt s i:Nat):Int)=86:=by rw[hx];rfl
      have q1:pre.length+(wrdB (bitsF val)).length≤4294967296:=by have:(wrdB (bitsF val)).length=8:=wrdB_len _;omega
      simp -implicitDefEqProofs only[mkE,go_sem,z0e u0,dec_lt u0,hb,z07,w1];refine CO.intro (m9 _) ?_;simp -implicitDefEqProofs only[go_sem];refine CO.intro (mA _) ?_;simp -implicitDefEqProofs only[go_sem,g0,s0,z05,z0z,bc,q1,q0];unfold putV at hJ;simp only[z0r]at hJ;exact hJ
    · rw[c75]at hJ;have hb:((byteAt s i:Nat):Int)=45:=by rw[hx];rfl
      simp -implicitDefEqProofs only[mkE,go_sem,z0e u0,dec_lt u0,hb,z07,q0];simp only[List.append_nil,List.length_nil,Nat.add_zero]at hJ;exact hJ
  · intro J;have d0:decide ((s.size:Int)<s.size)=false:=by simp
    simp -implicitDefEqProofs only[mkE,go_sem,d0,g0,s0,z05];exact Fini.trim2 (σ':=σ) (ex:=[_]) rfl rfl (Nat.le_refl _) (z1x _ _) r0
end
open Go.ChangeShapes Go.WideShapes Go.ChangeAt Go.RowKit
theorem zin (r:RuM):([z1G r]:List Byt).flatten.length≤2000:=by
 unfold z1G
 cases h:ruIs r with
 |false=>simp
 |true =>
  have hp:=z5m h r.eq.length (Nat.le_refl _);have hl:=(z25 h).2.2.2.1;rw[z7K]at hp;simp;omega
theorem z6s (r:ReM):(z1w r).length≤4000:=by
 unfold z1w
 cases hM:mayR r with
 |false=>exact Nat.zero_le _
 |true =>
  obtain⟨op0,op1,id0,id1,htx,hst,hen,u0,y0,q0,hru,hls⟩:=bd_ok hM;rw[if_pos rfl];unfold z0a putB2 putB1;have f1:∀b:Byt,([b]:List Byt).flatten=b:=fun b=>by simp
  have f2:∀b c:Byt,([b,c]:List Byt).flatten.length=b.length+c.length:=fun b c=>by simp
  refine Nat.le_trans (z2o (n:=3600) (m:=8) (z2o (n:=2600) (m:=1000) (z2o (n:=600) (m:=2000) (z2o (n:=583) (m:=17) (z2o (n:=73) (m:=510) (z2o (n:=72) (m:=1) (z2o (n:=52) (m:=20) (z2o (n:=12) (m:=40) (z2o (n:=2) (m:=10) (by simp) ?_) ?_) ?_) ?_) ?_) ?_) ?_) ?_) ?_) (by decide)<;>intro _
  · rw[f1];exact z0m (by omega)
  · rw[f1];have:=z1B r.txt (by omega);omega
  · rw[f2];have:=z0m (n:=r.st) (by omega);have:=z0m (n:=r.en) (by omega);omega
  · simp
  · exact(z90 q0).2
  · rw[f1];exact z6i _
  · exact zin _
  · exact zeg _
  · rw[f1];exact Nat.le_of_eq (wrdB_len _)
theorem zjM {x:ReM} (h:mayR x=true):ReSm x:=by
 unfold mayR zeroB z0c at h;generalize (fOf x.op).1=f at h;simp only[Bool.and_eq_true]at h;obtain⟨_,⟨_,_,_,_,_,_,z7,z8,_⟩,_,_,_,_,_,r6,_,_,r9,u0⟩:=h;refine⟨fun m hm=>by have:=(z3o r6).2 m hm;omega,?_,?_⟩
 · cases h128:hasF f 128 with
   |true =>
    rw[h128]at r9;obtain⟨q1,q2,q3,q4,q5⟩:=z25 (show ruIs x.ru=true from r9)
    exact⟨fun m hm=>by have:=(z3o q1).2 m hm;omega,fun m hm=>by have:=(z3o q2).2 m hm;omega,fun s hs=>by have:=q5 s hs;omega⟩
   |false =>
    rw[h128]at z7;have:=(z2c x.ru).1 z7;rw[this];exact⟨fun _ h=>(by cases h),fun _ h=>(by cases h),fun _ h=>(by cases h)⟩
 · intro l hl
   cases h256:hasF f 256 with
   |true =>
    rw[h256]at u0;have:=(z4L (show setB x.ls=true from u0)).2 l hl
    omega
   |false =>
    rw[h256]at z8;have:=zga (show emI x.ls.length=true from z8)
    rw[List.length_eq_zero_iff.1 this]at hl;cases hl
theorem wf8c {n:Int} (h:(Lit.int .u8 n).wf=true):0≤n∧n<256:=by
 simp[Lit.wf,IntKind.min,IntKind.max,IntKind.bits,IntKind.signed]at h;omega
section
variable {H:Type} {enc:TypeId×Value→H} {W:World} {base:Nat} {v:Value} {d:DataW H} {ps:List MemPlace}
theorem zjN (hv:Value.okWide Tryz.prog W .any base 5 v) (h:DataW.Trod enc Tryz.prog W 0 (fun _=>true) true 5 v d ps):∃c:UInt8,Rep noM noR W (bc c) v:=by
 obtain⟨n,rfl⟩:=okWide_int Tryz.underlying5 hv;obtain⟨x,hx,m,hm,e⟩:=Reads.arg (P:=Tryz.prog) (t:=5) (fun f=>Reads.int Tryz.underlying5 f) rfl h
 simp only[List.cons.injEq,and_true]at e;subst e;obtain⟨h0,h1⟩:=wf8c hm;obtain⟨k,rfl⟩:=Int.eq_ofNat_of_zero_le h0;refine⟨k.toUInt8,?_⟩;unfold bc;rw[toNat_toUInt8 (by omega)]
 exact hx
end
def recOf (ix:Int) (ck:Nat) (a:AcM) (cd:Int):RcM:=⟨ix,ck,z1w (z08 a),cd⟩
theorem zbp (ix:Int) (ck:Nat) {a:AcM} (ha:ActSz a) (cd:Int):bdB (recOf ix ck a cd).bd=true:=by
 have:=zeq (z96 a) (zeA ha) [];rw[List.append_nil]at this;show(wholeO (bodyR (z1w (z08 a)))).isSome=true;rw[this];rfl
theorem zeD (ix:Int) (ck:Nat) (a:AcM) (cd:Int):(recOf ix ck a cd).bd.length≤4000:=z6s _
theorem zeE {r:RcM} (h:rcIs r=true) (hb:r.bd.length≤4000):(putRc r).length≤4100∧1≤(putRc r).length:=by
 have h1:=z5p h;have h2:(putN r.ix.toNat).length≤10:=z0m (by omega)
 have h3:(putN r.ck).length≤10:=z0m (by omega)
 have h4:=z1B ⟨r.bd.toArray⟩ (by rw[z1j];omega)
 rw[z1j]at h4;unfold putRc;simp only[List.length_append,List.length_cons,List.length_nil];omega
theorem zaa {r:RcM} (hb:r.bd.length≤4000):(z0w r).length≤4100:=by
 unfold z0w;split
 · rename_i h;exact(zeE h hb).1
 · exact Nat.zero_le _
def cdOf (k:Nat):Int:=[0,4,5,6,7,8,9,10].getD k 0
theorem zeF {k:Nat} (h:k<8):cdB (cdOf k)=true∧(List.drop (k*1) ([I 0,I 4,I 5,I 6,I 7,I 8,I 9,I 10]:List AV)).head?=some (I (cdOf k)):=by
 match k,h with
 |0,_|1,_|2,_|3,_|4,_|5,_|6,_|7,_=>exact⟨rfl,rfl⟩
open Sha (txtR expB shaB z18 genB linkB z1i ChM z0q addCh takes boxC rowC z4x)
attribute [local irreducible] Sha.shaB
structure StM where
 gap:Nat
 a:AcM
 cd:Nat
def stpC (s:StM):List AV:=.pl (.int .u8 s.gap)::(acC s.a++[.pl (.int .u8 s.cd)])
def stpV (s:StM):AV:=.agg (stpC s)
structure StOk (s:StM):Prop where
 gap:s.gap<256
 a:ActSz s.a
 cd:s.cd<256
def noSt:StM:=⟨0,⟨0,0,0,0,0,0,[],[],0,0,0,⟨[],[],0,0,0,[],by decide,by decide⟩,0,[],by decide,by decide,by decide⟩,0⟩
def ckM (l:List StM) (i:Nat):Nat:=((l.take i).map (·.gap)).sum
def mdR (l:List StM) (i:Nat):RcM:=recOf i (ckM l (i+1)) (l.getD i noSt).a (cdOf ((l.getD i noSt).cd%8))
def mdL (l:List StM) (n:Nat):List RcM:=(List.range n).map (mdR l)
theorem z46 (l:List StM) (n:Nat):(mdL l n).length=n:=by simp[mdL]
theorem z7Y (l:List StM) (n:Nat):mdL l (n+1)=mdL l n++[mdR l n]:=by unfold mdL;rw[List.range_succ,List.map_append];rfl
theorem z7Z (l:List StM) (i:Nat) (hi:i<l.length):ckM l (i+1)=ckM l i+(l.getD i noSt).gap:=by
 unfold ckM;rw[List.take_succ_eq_append_getElem hi,List.map_append,List.sum_append,List.getD_eq_getElem?_getD,List.getElem?_eq_getElem hi];simp
theorem zgZ {l:List StM} (h:∀s∈l,StOk s) (i:Nat):ckM l i≤i*255:=by
 induction i with
 |zero=>simp[ckM]
 |succ i ih =>
  by_cases hi:i<l.length
  · rw[z7Z l i hi,List.getD_eq_getElem?_getD,List.getElem?_eq_getElem hi];have:=(h _ (List.getElem_mem hi)).gap;simp only[Option.getD_some];omega
  · have:ckM l (i+1)=ckM l i:=by unfold ckM;rw[List.take_of_length_le (by omega),List.take_of_length_le (by omega)]
    omega
theorem zeG {i ck k:Nat} (hi:i≤2147483647) (hc:ck≤1099511627776) {a:AcM} (ha:ActSz a) (hk:k<8):rcIs (recOf i ck a (cdOf k))=true:=by
 have h3:=zbp (i:Int) ck ha (cdOf k);unfold rcIs;rw[h3];unfold recOf;simp only[(zeF hk).1,Bool.and_true,Bool.and_eq_true,decide_eq_true_eq];omega
theorem zh0 {l:List StM} (h:∀s∈l,StOk s) {i:Nat} (hi:i<l.length) (h8:i<8):rcIs (mdR l i)=true:=by
 have h1:=zgZ h (i+1)
 have h2:ActSz (l.getD i noSt).a:=by
  rw[List.getD_eq_getElem?_getD,List.getElem?_eq_getElem hi];exact(h _ (List.getElem_mem hi)).a
 exact zeG (by omega) (by omega) h2 (Nat.mod_lt _ (by decide))
theorem zcr (L:List RcM) (x:RcM):lastC (L++[x])=x.ck:=by
 unfold lastC;rw[List.length_append,List.length_singleton,Nat.add_sub_cancel,List.getD_eq_getElem?_getD,List.getElem?_append_right (Nat.le_refl _),Nat.sub_self];rfl
theorem zgk (l:List StM) (i:Nat):lastC (mdL l i)=if i=0 then 0 else ckM l i:=by
 cases i with
 |zero=>rfl
 |succ i=>rw[z7Y,zcr];rfl
theorem zbq {l:List StM} {i:Nat} (hi:i<l.length):lastC (mdL l i)≤ckM l (i+1):=by
 rw[zgk,z7Z l i hi];split<;>omega
theorem zh1 {l:List StM} (h:∀s∈l,StOk s):∀n,n≤l.length→n≤8→OkL (mdL l n)
 |0,_,_=>zew
 |n+1,h1,h2=>by
  rw[z7Y];exact zbk (zh1 h n (by omega) (by omega)) (zh0 h (by omega) (by omega)) (by rw[z46];rfl) (zbq (by omega))
theorem zh2 (l:List StM) (i:Nat):(mdR l i).bd.length≤4000:=zeD _ _ _ _
theorem zh3 (l:List StM) (n:Nat):∀r∈mdL l n,r.bd.length≤4000:=by
 intro r hr;obtain⟨i,_,rfl⟩:=List.mem_map.1 hr;exact zh2 l i
theorem zgl (l:List StM) {n m:Nat} (h:n≤m):(mdL l m).take n=mdL l n:=by
 unfold mdL;rw[←List.map_take,List.take_range,Nat.min_eq_left h]
theorem zeH (l:List StM) {n k:Nat} (h:n≤k):mdL (l.take k) n=mdL l n:=by
 unfold mdL;refine List.map_congr_left fun i hi=>?_
 have hi:=List.mem_range.1 hi;unfold mdR ckM;have e:(l.take k).getD i noSt=l.getD i noSt:=by rw[List.getD_eq_getElem?_getD,List.getD_eq_getElem?_getD,List.getElem?_take,if_pos (by omega)]
 rw[e,List.take_take,Nat.min_eq_left (by omega)]
def chL (o:Int) (L:List RcM):ChM:=⟨200,L,hdL o L⟩
theorem zio (o:Int) (L:List RcM) (x:RcM):addCh (chL o L) x=chL o (L++[x]):=by
 unfold addCh chL;simp only;rw[z7W]
theorem zbr (o:Int) (l:List StM) (i:Nat):z0q (chL o (mdL l i)) (ckM l (i+1)) (z1w (z08 (l.getD i noSt).a)) (cdOf ((l.getD i noSt).cd%8))=mdR l i:=by
 unfold z0q chL;simp only[z46];rfl
theorem zcs (o:Int) (L:List RcM):z4x (chL o L)=lastC L:=rfl
theorem zeI {o:Int} {l:List StM} (h:∀s∈l,StOk s) {i:Nat} (hi:i<l.length) (h8:i<8) :
  takes (chL o (mdL l i)) (ckM l (i+1)) (z1w (z08 (l.getD i noSt).a)) (cdOf ((l.getD i noSt).cd%8))=true:=by
 unfold takes;rw[zbr,zh0 h hi h8,zcs];have h1:=zbq (l:=l) hi;have h2:((chL o (mdL l i)).L.length:Int)=i:=by show((mdL l i).length:Int)=i;rw[z46]
 rw[h2];have e1:decide ((chL o (mdL l i)).most≤(i:Int))=false:=decide_eq_false (by show ¬(200:Int)≤i;omega)
 have e2:decide (((ckM l (i+1):Nat):Int)<((lastC (mdL l i):Nat):Int))=false:=decide_eq_false (by omega)
 rw[e1,e2];rfl
def chZ (n:Nat) (c:ChM):St:=match c.L with
 |[]=>[boxC 0 c]
 |r::_=>[boxC (n+2) c,.box (rcC r),.row 4 (c.L.map rcV)]
open Sha (txtR expB shaB z18 genB linkB z1i ChM z0q addCh takes boxC rowC z4x gloA_app kV z53 z6q newCh)
theorem zab (n:Nat) (m:Int) (h:Byt):chZ n ⟨m,[],h⟩=[boxC 0 ⟨m,[],h⟩]:=rfl
theorem z2M (n:Nat) (m:Int) (r:RcM) (L:List RcM) (h:Byt):chZ n ⟨m,r::L,h⟩=[boxC (n+2) ⟨m,r::L,h⟩,.box (rcC r),.row 4 ((r::L).map rcV)]:=rfl
section
variable (σ:St)
theorem add_Z (c:ChM) (hh:c.head.length=32) (hL:c.L.length≤1000) (ck:Nat) (bd:Byt) (cd:Int) (hne:bd≠[]) (hbl:bd.length≤40000) (hg:gloA σ 0=some kV) :
  Ans Tryz.prog 16 [.ptr σ.length 0,UN ck,.sl 1 (byv bd),I cd] (σ++chZ σ.length c) (Bo (takes c ck bd cd)) (σ++chZ σ.length (if takes c ck bd cd then addCh c (z0q c ck bd cd) else c)):=by
 obtain⟨m,L,hd⟩:=c;simp only at hh hL
 cases L with
 |nil =>
  have h:=z53 (σ++[boxC 0 ⟨m,[],hd⟩]) σ.length m hd hh ck bd cd (by rw[List.getElem?_append_right (Nat.le_refl _)];simp) (by simp) hne hbl (gloA_app hg _)
  have e:(!decide (m≤0)&&rcIs (z0q ⟨m,[],hd⟩ ck bd cd))=takes ⟨m,[],hd⟩ ck bd cd:=by
   unfold takes;have:decide ((ck:Int)<((z4x ⟨m,[],hd⟩:Nat):Int))=false:=decide_eq_false (by show ¬(ck:Int)<((0:Nat):Int);omega)
   rw[this,Bool.not_false,Bool.and_true];rfl
  rw[e]at h;rw[zab]
  cases ht:takes ⟨m,[],hd⟩ ck bd cd with
  |false =>
   rw[ht]at h;simp only[Bool.false_eq_true,if_false]at h⊢;rw[zab];exact h
  |true =>
   rw[ht]at h;simp only[if_true]at h⊢;have e2:addCh ⟨m,[],hd⟩ (z0q ⟨m,[],hd⟩ ck bd cd)=⟨m,[z0q ⟨m,[],hd⟩ ck bd cd],shaB (linkB hd (z0w (z0q ⟨m,[],hd⟩ ck bd cd)))⟩:=rfl;rw[e2]at h⊢;rw[z2M];have e3:(σ++[boxC 0 ⟨m,[],hd⟩]).length+1=σ.length+2:=by simp
   rw[e3,List.set_append_right _ _ (Nat.le_refl _),Nat.sub_self,List.set_cons_zero,List.append_assoc]at h;exact h
 |cons r L =>
  have hq:σ.length+2<(σ++chZ σ.length ⟨m,r::L,hd⟩).length:=by rw[z2M];simp
  have h:=z6q (σ++chZ σ.length ⟨m,r::L,hd⟩) σ.length (σ.length+2) ⟨m,r::L,hd⟩ hh (fun h=>nomatch h) (Nat.le_trans hL (by decide)) ck bd cd
   (by rw[z2M,List.getElem?_append_right (Nat.le_refl _),Nat.sub_self];rfl) (by rw[z2M,List.getElem?_append_right (by omega),Nat.add_sub_cancel_left];rfl) (by omega) hq (by omega) hne hbl (gloA_app hg _)
  cases ht:takes ⟨m,r::L,hd⟩ ck bd cd with
  |false =>
   rw[ht]at h;exact h
  |true =>
   rw[ht]at h;simp only[if_true]at h⊢;have e2:addCh ⟨m,r::L,hd⟩ (z0q ⟨m,r::L,hd⟩ ck bd cd)=⟨m,r::(L++[z0q ⟨m,r::L,hd⟩ ck bd cd]),shaB (linkB hd (z0w (z0q ⟨m,r::L,hd⟩ ck bd cd)))⟩:=rfl;rw[e2]at h⊢;unfold Sha.chSt at h;rw[z2M]at h⊢;rw[z2M];rw[List.set_append_right _ _ (by omega:σ.length≤σ.length+2),List.set_append_right _ _ (Nat.le_refl _),Nat.sub_self,Nat.add_sub_cancel_left]at h
   exact h
theorem zeJ {l:List StM} {i:Nat} (h:i<l.length):(l.map stpV)[i]?=some (.agg (stpC l[i])):=by
 rw[List.getElem?_map,List.getElem?_eq_getElem h];rfl
theorem zeK {a:AcM} (ha:ActSz a):z1w (z08 a)≠[]:=by
 have h:=zbp 0 0 ha 0;intro e;have e2:(recOf 0 0 a 0).bd=[]:=e;rw[e2]at h;exact absurd h (by decide +kernel)
theorem zgm (o:Int) (l:List StM) (n:Nat):(chL o (mdL l n)).L.length=n:=z46 l n
abbrev EnvM (l:List StM) (p i ck:Nat):Env:=mkE 53 [(1,.sl 21 (l.map stpV)),(6,.ptr p 0),(7,UN ck),(8,I i)]
theorem zgn (o:Int) (l:List StM) (hl:∀s∈l,StOk s) (hll:l.length≤9223372036854775807) (hG:∀ex,gloA (σ++ex) 0=some kV) :
  Ans Tryz.prog 38 [I o,.sl 21 (l.map stpV)] σ (.tup [.ptr σ.length 0,Bo true]) (σ++chZ σ.length (chL o (mdL l (min l.length 8)))):=by
 have y0:=Sha.new_ans σ o 200 hG;have e0:newCh o 200=chL o []:=rfl;rw[e0]at y0;have j1:∀s:St,nilA2 s true (.ptr σ.length 0)=some false:=fun _=>rfl
 have j0:(l.map stpV).length=l.length:=List.length_map ..;have z0:chZ σ.length (chL o [])=[boxC 0 (chL o [])]:=rfl;rw[←z0]at y0;have m1:gloA σ 0=some kV:=by have:=hG [];rwa [List.append_nil]at this
 refine Ans.of_run' t38 (fun q1 _=>?_)
 simp -implicitDefEqProofs only[c38,r38,go_sem];refine CO.intro y0 ?_;simp -implicitDefEqProofs only[go_sem,j1];refine Go.Ab.L.count (min l.length 8) (fun i=>EnvM l σ.length i (ckM l i)) (fun i=>σ++chZ σ.length (chL o (mdL l i))) ?_ ?_ rfl rfl
 · intro i hi J hJ;have q0:i<l.length:=by omega
   have h0:i<8:=by omega
   have hd:decide ((i:Int)<(l.length:Int))=true:=decide_eq_true (by omega)
   have k0:decide ((i:Int)<(8:Int))=true:=decide_eq_true (by omega)
   have n1:((i:Int)<(l.length:Int))=True:=eq_true (by omega)
   have hx:=zeJ q0;have hs:=hl _ (List.getElem_mem q0);have n0:l.getD i noSt=l[i]:=by rw[List.getD_eq_getElem?_getD,List.getElem?_eq_getElem q0];rfl
   have hck:=zgZ hl (i+1);have ec:=z7Z l i q0;have d0:ckM l i+l[i].gap=ckM l (i+1):=by rw[ec,n0]
   have k1:IntKind.u64.wrap ((l[i].gap:Nat):Int)=((l[i].gap:Nat):Int):=z1r (by have:=hs.gap;omega)
   have o0:IntKind.u64.wrap (((ckM l i:Nat):Int)+((l[i].gap:Nat):Int))=((ckM l (i+1):Nat):Int):=by
    rw[←d0];rw[show((ckM l i:Nat):Int)+((l[i].gap:Nat):Int)=((ckM l i+l[i].gap:Nat):Int) by omega];exact z1r (by rw[d0];omega)
   have f0:=zeI (o:=o) hl q0 h0;have r0:=zbr o l i;rw[n0]at f0 r0;have u0:=add_Z σ (chL o (mdL l i)) (z45 _ _) (by rw[zgm];omega) (ckM l (i+1)) (z1w (z08 l[i].a)) (cdOf (l[i].cd%8)) (zeK hs.a) (Nat.le_trans (z6s _) (by decide)) m1
   rw[f0,if_pos rfl,r0,zio,←z7Y]at u0;have wi:IntKind.i64.wrap ((i:Int)+1)=((i+1:Nat):Int):=wrap_succ (i:=i) (by omega)
   have u1:=fun s=>za9 s l[i].a
   have u2:=fun s=>zeC s (z08 l[i].a) (zjM (z96 l[i].a))
   have t0:=zeF (Nat.mod_lt l[i].cd (show 0<8 by decide))
   have y1:((l[i].cd:Nat):Int).tmod 8=((l[i].cd%8:Nat):Int):=rfl;have x1:(((l[i].cd%8:Nat):Int)<((8:Nat):Int))=True:=eq_true (by have:=Nat.mod_lt l[i].cd (show 0<8 by decide);omega)
   have m0:((l[i].cd%8+1)*1≤8)=True:=eq_true (by have:=Nat.mod_lt l[i].cd (show 0<8 by decide);omega)
   have l0:(acC l[i].a).length=19:=rfl;have hxc:stpC l[i]=.pl (.int .u8 l[i].gap)::(acC l[i].a++[.pl (.int .u8 l[i].cd)]):=rfl;generalize hst:σ++chZ σ.length (chL o (mdL l i))=S at u0⊢;generalize cdOf (l[i].cd%8)=cc at u0 t0;generalize z1w (z08 l[i].a)=bb at u0 u2;unfold reV at u1 u2;generalize reC (z08 l[i].a)=rq at u1 u2;unfold acV acC at u1;unfold stpC acC at hx;simp -implicitDefEqProofs only[mkE,go_sem,j0,hd,k0,n1,hx,k1,o0,y1,x1,m0,t0];refine CO.intro (u1 _) ?_;simp -implicitDefEqProofs only[go_sem];refine CO.intro (u2 _) ?_;simp -implicitDefEqProofs only[go_sem];refine CO.intro u0 ?_;simp -implicitDefEqProofs only[go_sem,wi];exact hJ
 · intro J;have hm1:(l.map stpV).length=l.length:=j0;by_cases h8:l.length<8
   · have hd:decide (((min l.length 8:Nat):Int)<(l.length:Int))=false:=decide_eq_false (by omega)
     simp -implicitDefEqProofs only[mkE,go_sem,j0,hd];exact Fini.ret rfl
   · have k0:decide (((min l.length 8:Nat):Int)<(8:Int))=false:=decide_eq_false (by omega)
     cases hd:decide (((min l.length 8:Nat):Int)<(l.length:Int))<;>simp -implicitDefEqProofs only[mkE,go_sem,j0,hd,k0]
     all_goals exact Fini.ret rfl
end
theorem z3d (L:List RcM):(L.map rcV).length=L.length:=List.length_map ..
theorem z99 {L:List RcM} {i:Nat} (h:L.length=i+1):(L.map rcV)[i]?=some (rcV (L.getD i noR0))∧lastC L=(L.getD i noR0).ck:=by
 refine⟨?_,?_⟩
 · rw[List.getElem?_map,List.getD_eq_getElem?_getD,List.getElem?_eq_getElem (by omega)];rfl
 · unfold lastC;rw[h];rfl
theorem zgo (u r:Byt):(u++r).drop ((u++r).length-r.length)=r:=by rw[List.length_append,Nat.add_sub_cancel,List.drop_left]
abbrev EnvE (b:Byt) (p i n:Nat):Env:=mkE 70 [(0,.sl 1 (byv b)),(4,.ptr p 0),(5,.osl (p+1) i),(15,I n),(16,I i)]
theorem z5s (σ:St) (b:Byt) (hb:b.length≤50000):Ans Tryz.prog 32 [.sl 1 (byv b)] σ (expW (rdE b)) σ:=by
 have f0:Inb b (0,false):=Nat.zero_le _;have x1:=zbj σ.length (rdE b);have j0:Bel σ.length (expW none):=zbj σ.length none;refine Ans.of_run' t32 (fun u0 _=>?_)
 simp -implicitDefEqProofs only[c32,r32,go_sem];refine CO.intro (new_ans σ b) ?_;simp -implicitDefEqProofs only[go_sem,List.append_assoc,List.length_append];have hn:=z1Z (σ++[rob b (0,false),.row 4 []]) σ.length b (0,false) 200 (by decide) (g0 _ _ _) f0 hb
 rw[s0]at hn
 cases h1:numR 200 b with
 |none =>
  have e0:rdE b=none:=by unfold rdE;rw[h1];rfl
  rw[e0];rw[z0T (show numR 200 (b.drop 0)=none from h1)]at hn
  refine CO.intro hn ?_;simp -implicitDefEqProofs only[go_sem];refine Go.Ab.L.count 0 (fun i=>mkE 70 [(0,.sl 1 (byv b)),(4,.ptr σ.length 0),(5,.osl (σ.length+1) 0),(15,I 0),(16,I 0)]) (fun _=>σ++[rob b (0,true),.row 4 []]) ?_ ?_ rfl rfl
  · intro i hi;omega
  · intro J;have h3:=z2u (σ++[rob b (0,true),.row 4 []]) σ.length b (0,true) (g0 _ _ _);simp -implicitDefEqProofs only[mkE,go_sem];refine CO.intro h3 ?_;simp -implicitDefEqProofs only[go_sem];exact Fini.trim2 (σ':=σ) (ex:=[_,_]) rfl rfl (Nat.le_refl _) j0 u0
 |some p =>
  obtain⟨n,t⟩:=p;have j1:=(z16 (most:=200) (by decide)).bwd _ _ _ h1
  obtain⟨hn2,u1⟩:=j1;obtain⟨hdr,-,hle⟩:=(ends_num 200).drop (b:=b) (a:=0) (by omega) h1
  rw[z0J (show numR 200 (b.drop 0)=some (n,t) from h1)]at hn
  refine CO.intro hn ?_;have n1:IntKind.i64.wrap (n:Int)=(n:Int):=wrapI (by omega)
  simp -implicitDefEqProofs only[go_sem,n1];have hlt:b.length=(putN n).length+t.length:=by rw[←List.length_append,←u1]
  refine Go.Ab.L.intro (α:={ p:Nat×List RcM×Byt // p.1≤n∧goE b.length t p.1=some (p.2.1,p.2.2) }) (fun p=>n-p.1.1)
   (fun p=>EnvE b σ.length p.1.1 n) (fun p=>σ++[rob b (b.length-p.1.2.2.length,false),.row 4 (p.1.2.1.map rcV)]) ?_ ⟨(0,[],t),Nat.zero_le _,rfl⟩ rfl rfl
  rintro⟨⟨i,L,r⟩,hi,hg⟩ J hJ;simp only at hi hg hJ⊢;have hlen:=z7V hg;simp only at hlen;obtain⟨w,hw⟩:=zev (by omega) hg
  simp only at hw;have y1:b=(putN n++w)++r:=by rw[List.append_assoc,←hw,←u1]
  have hbl:b.length=(putN n++w).length+r.length:=by rw[←List.length_append,←y1]
  have q1:b.drop (b.length-r.length)=r:=by
   have:=zgo (putN n++w) r;rw[←y1]at this;exact this
  have m1:Inb b (b.length-r.length,false):=Nat.sub_le _ _;by_cases hlt2:i<n
  case neg =>
   have l0:i=n:=by omega
   subst l0;have d0:decide ((i:Int)<(i:Int))=false:=decide_eq_false (by omega)
   have h3:=z2u (σ++[rob b (b.length-r.length,false),.row 4 (L.map rcV)]) σ.length b (b.length-r.length,false) (g0 _ _ _);have n0:=z3d L;simp -implicitDefEqProofs only[mkE,go_sem,d0];refine CO.intro h3 ?_;by_cases hr:r=[]
   · have e1:(((b.length-r.length:Nat):Int) != (b.length:Nat))=false:=by rw[hr];simp
     have e0:rdE b=some L:=by unfold rdE;rw[h1];simp only[Option.bind_some];rw[hg];simp only[Option.bind_some];rw[if_pos hr]
     rw[e0]at x1⊢;simp -implicitDefEqProofs only[go_sem,z05,e1,g1,s1,n0,hlen];exact Fini.trim2 (σ':=σ) (ex:=[_,_]) rfl rfl (Nat.le_refl _) x1 u0
   · have hr2:0<r.length:=List.length_pos_iff.2 hr
     have e1:(((b.length-r.length:Nat):Int) != (b.length:Nat))=true:=by
      rw[bne,Bool.not_eq_true',beq_eq_false_iff_ne];omega
     have e0:rdE b=none:=by unfold rdE;rw[h1];simp only[Option.bind_some];rw[hg];simp only[Option.bind_some];rw[if_neg hr]
     rw[e0];simp -implicitDefEqProofs only[go_sem,z05,e1];exact Fini.trim2 (σ':=σ) (ex:=[_,_]) rfl rfl (Nat.le_refl _) j0 u0
  have d0:decide ((i:Int)<(n:Int))=true:=decide_eq_true (by omega)
  have y0:goE b.length t (i+1)=none→rdE b=none:=fun h=>by unfold rdE;rw[h1];simp only[Option.bind_some];rw[zbi h (by omega:i+1≤n)];rfl
  have m0:=z2H (σ++[rob b (b.length-r.length,false),.row 4 (L.map rcV)]) σ.length b (b.length-r.length,false) b.length (by omega) (g0 _ _ _) m1 hb
  rw[s0]at m0
  cases h2:textR b.length r with
  |none =>
   rw[z0T (by rw[q1];exact h2)]at m0
   have r0:=z7e (σ++[rob b (b.length-r.length,true),.row 4 (L.map rcV)]) [] (by decide)
   rw[show rdRc []=none by kernel_rfl]at r0
   rw[y0 (by rw[goE,hg];simp only[Option.bind_some];rw[h2];rfl)]
   simp -implicitDefEqProofs only[mkE,go_sem,d0,z05];refine CO.intro m0 ?_;have hz:z3x ⟨#[]⟩=byv []:=rfl;simp -implicitDefEqProofs only[go_sem,hz];refine CO.intro r0 ?_;unfold rcW noRcV;simp -implicitDefEqProofs only[go_sem];exact Fini.trim2 (σ':=σ) (ex:=[_,_]) rfl rfl (Nat.le_refl _) j0 u0
  |some sp =>
   obtain⟨s,r2⟩:=sp;have hsz:s.size≤b.length:=((z1l (most:=b.length) (by omega)).bwd _ _ _ h2).1
   rw[z0J (by rw[q1];exact h2)]at m0
   have r0:=z7e (σ++[rob b (b.length-r2.length,false),.row 4 (L.map rcV)]) s.data.toList (by rw[z1k];omega)
   simp -implicitDefEqProofs only[mkE,go_sem,d0,z05];refine CO.intro m0 ?_;simp -implicitDefEqProofs only[go_sem,z6R];refine CO.intro r0 ?_
   cases h3:rdRc s.data.toList with
   |none =>
    rw[y0 (by rw[goE,hg];simp only[Option.bind_some];rw[h2];simp only[Option.bind_some];rw[h3];rfl)]
    unfold rcW noRcV;simp -implicitDefEqProofs only[go_sem];exact Fini.trim2 (σ':=σ) (ex:=[_,_]) rfl rfl (Nat.le_refl _) j0 u0
   |some x =>
    have q0:goE b.length t (i+1)=if x.ix=(i:Int)∧lastC L≤x.ck then some (L++[x],r2) else none:=by
     rw[goE,hg];simp only[Option.bind_some];rw[h2];simp only[Option.bind_some];rw[h3];rfl
    have r1:rcV x=.agg [I x.ix,UN x.ck,.sl 1 (byv x.bd),I x.cd]:=rfl;unfold rcW;simp only;rw[r1];by_cases hix:x.ix=(i:Int)
    case neg =>
     have e1:(x.ix != (i:Int))=true:=by rw[bne,Bool.not_eq_true',beq_eq_false_iff_ne];exact hix
     rw[y0 (by rw[q0,if_neg (fun h=>hix h.1)])]
     simp -implicitDefEqProofs only[go_sem,e1];exact Fini.trim2 (σ':=σ) (ex:=[_,_]) rfl rfl (Nat.le_refl _) j0 u0
    have e1:(x.ix != (i:Int))=false:=by rw[hix,bne,beq_self_eq_true];rfl
    have n0:=z3d L;have wi:IntKind.i64.wrap ((i:Int)+1)=((i+1:Nat):Int):=wrap_succ (i:=i) (by omega)
    have k0:i+1≤4294967296:=by omega
    have k1:L.map rcV++[.agg [I x.ix,UN x.ck,.sl 1 (byv x.bd),I x.cd]]=(L++[x]).map rcV:=by rw[List.map_append];rfl
    by_cases hck:lastC L≤x.ck
    case neg =>
     rw[y0 (by rw[q0,if_neg (fun h=>hck h.2)])]
     cases i with
     |zero =>
      have:lastC L=0:=by rw[List.length_eq_zero_iff.1 hlen];rfl
      omega
     |succ k =>
      have d1:decide ((0:Int)<((k+1:Nat):Int))=true:=decide_eq_true (by omega)
      have ws:IntKind.i64.wrap (((k+1:Nat):Int)-1)=(k:Int):=by rw[show((k+1:Nat):Int)-1=(k:Int) by omega];exact wrapI (by omega)
      obtain⟨hx1,t1⟩:=z99 hlen;have h0:((k:Int)<((k+1:Nat):Int))=True:=eq_true (by omega)
      have o0:rcV (L.getD k noR0)=.agg [I (L.getD k noR0).ix,UN (L.getD k noR0).ck,.sl 1 (byv (L.getD k noR0).bd),I (L.getD k noR0).cd]:=rfl;rw[o0]at hx1;have e2:decide ((x.ck:Int)<((L.getD k noR0).ck:Int))=true:=decide_eq_true (by omega)
      simp -implicitDefEqProofs only[go_sem,e1,d1,ws,h0,g1,n0,hlen,hx1,e2];exact Fini.trim2 (σ':=σ) (ex:=[_,_]) rfl rfl (Nat.le_refl _) j0 u0
    have t0:=hJ ⟨(i+1,L++[x],r2),by simp only;omega,by simp only;rw[q0,if_pos ⟨hix,hck⟩]⟩ (by simp only;omega)
    simp only at t0;rw[←k1]at t0
    cases i with
    |zero =>
     have d1:decide ((0:Int)<((0:Nat):Int))=false:=rfl;simp -implicitDefEqProofs only[go_sem,e1,d1,g1,s1,n0,hlen,k0,List.length_singleton,wi];exact t0
    |succ k =>
     have d1:decide ((0:Int)<((k+1:Nat):Int))=true:=decide_eq_true (by omega)
     have ws:IntKind.i64.wrap (((k+1:Nat):Int)-1)=(k:Int):=by rw[show((k+1:Nat):Int)-1=(k:Int) by omega];exact wrapI (by omega)
     obtain⟨hx1,t1⟩:=z99 hlen;have h0:((k:Int)<((k+1:Nat):Int))=True:=eq_true (by omega)
     have o0:rcV (L.getD k noR0)=.agg [I (L.getD k noR0).ix,UN (L.getD k noR0).ck,.sl 1 (byv (L.getD k noR0).bd),I (L.getD k noR0).cd]:=rfl;rw[o0]at hx1;have e2:decide ((x.ck:Int)<((L.getD k noR0).ck:Int))=false:=decide_eq_false (by omega)
     simp -implicitDefEqProofs only[go_sem,e1,d1,ws,h0,g1,s1,n0,hlen,hx1,e2,k0,List.length_singleton,wi];exact t0
open Sha (txtR expB shaB z18 genB linkB z1i)
theorem ne_self (x:ByteArray):(x.toList != x.toList)=false:=by simp
theorem nz (n:Int):(n != n)=false:=by simp
theorem z5t {L:List RcM} {i:Nat} (h:i<L.length):(L.map rcV)[i]?=some (.agg [I L[i].ix,UN L[i].ck,.sl 1 (byv L[i].bd),I L[i].cd]):=by
 rw[List.getElem?_map,List.getElem?_eq_getElem h];rfl
theorem z9a (σ:St) (L:List RcM) (hL:L.length≤1000):Ans Tryz.prog 23 [.sl 4 (L.map rcV),.sl 4 (L.map rcV)] σ (Bo true) σ:=by
 have u0:=z3d L;refine Ans.of_run t23 ?_;simp -implicitDefEqProofs only[c23,r23,go_sem,u0,nz];refine Go.Ab.L.count L.length (fun i=>mkE 69 [(0,.sl 4 (L.map rcV)),(1,.sl 4 (L.map rcV)),(5,I i)]) (fun _=>σ) ?_ ?_ rfl rfl
 · intro i hi J hJ;have hd:decide ((i:Int)<(L.length:Int))=true:=decide_eq_true (by omega)
   have y0:((i:Int)<(L.length:Int))=True:=eq_true (by omega)
   have hx:=z5t hi;have wi:IntKind.i64.wrap ((i:Int)+1)=((i+1:Nat):Int):=wrap_succ (i:=i) (by omega)
   simp -implicitDefEqProofs only[mkE,go_sem,u0,hd,y0,hx,nz,ne_self,z0z,bc,z30,z34,AV.isStr,wi];exact hJ
 · intro J;have hd:decide ((L.length:Int)<(L.length:Int))=false:=decide_eq_false (by omega)
   simp -implicitDefEqProofs only[mkE,go_sem,u0,hd];exact Fini.ret rfl
theorem z80 (σ:St) (X:List Byt) (hL:X.length≤1000):Ans Tryz.prog 36 [.sl 1 (bsv X),.sl 1 (bsv X)] σ (Bo true) σ:=by
 have u0:=z2B X;refine Ans.of_run t36 ?_;simp -implicitDefEqProofs only[c36,r36,go_sem,u0,nz];refine Go.Ab.L.count X.length (fun i=>mkE 28 [(0,.sl 1 (bsv X)),(1,.sl 1 (bsv X)),(5,I i)]) (fun _=>σ) ?_ ?_ rfl rfl
 · intro i hi J hJ;have hd:decide ((i:Int)<(X.length:Int))=true:=decide_eq_true (by omega)
   have y0:((i:Int)<(X.length:Int))=True:=eq_true (by omega)
   have hx:=z4J X i hi;have wi:IntKind.i64.wrap ((i:Int)+1)=((i+1:Nat):Int):=wrap_succ (i:=i) (by omega)
   simp -implicitDefEqProofs only[mkE,go_sem,u0,hd,y0,hx,nz,ne_self,z0z,bc,z30,z34,AV.isStr,wi];exact hJ
 · intro J;have hd:decide ((X.length:Int)<(X.length:Int))=false:=decide_eq_false (by omega)
   simp -implicitDefEqProofs only[mkE,go_sem,u0,hd];exact Fini.ret rfl
open Sha (txtR expB shaB z18 genB linkB z1i gloA_app kV)
theorem ziq (n:Nat) (X:List Byt):∀x∈bsv X,Bel n x:=by
 intro x hx;obtain⟨b,_,rfl⟩:=List.mem_map.1 hx;exact z1x _ _
theorem zh4 {b:Byt} {L:List RcM} (hb:b.length<2^64) (h:rdE b=some L):∀x∈L,x.bd.length≤b.length:=by
 obtain⟨h1,h2,h3⟩:=za7 hb h;intro x hx;have hm:=zbl hx;obtain⟨i,hi,rfl⟩:=List.getElem_of_mem hx;have e:(expB L).length=(putN L.length).length+((L.map txtR).flatten).length:=by unfold expB;rw[List.length_append]
 have e2:(txtR L[i]).length=(putN (putRc L[i]).length).length+(putRc L[i]).length:=by
  rw[z5r (h2 i hi).1];unfold txtB;rw[List.length_append,z1j]
 have e3:L[i].bd.length≤(putRc L[i]).length:=by
  unfold putRc txtB;simp only[List.length_append];omega
 rw[h1];omega
theorem z81 (o:Int) (L:List RcM) (hb:∀r∈L,r.bd.length≤40000):∀x∈imB o L,x.length≤60000:=by
 intro x hx;unfold imB at hx;rcases List.mem_cons.1 hx with rfl|hx
 · show(9:Nat)≤60000;decide
 · obtain⟨i,hi,rfl⟩:=List.mem_map.1 hx;have hi:=List.mem_range.1 hi;have e:L.getD i noR0=L[i]:=by rw[List.getD_eq_getElem?_getD,List.getElem?_eq_getElem hi];rfl
   have:=Sha.bytesRc_le L[i] (hb _ (List.getElem_mem hi));rw[z1i,z45,e];omega
def boxR (L:List RcM):St:=L.map fun r=>.box (rcC r)
section
variable (σ:St)
theorem zac {o:Int} {b:Byt} (hb:b.length≤40000) (h:rdE b=none):Ans Tryz.prog 35 [I o,.sl 1 (byv b)] σ (.tup [.nils,Bo false]) σ:=by
 have k:=z5s σ b (by omega)
 rw[h]at k;unfold expW at k;refine Ans.of_run t35 ?_;simp -implicitDefEqProofs only[c35,r35,go_sem];refine CO.intro k ?_;simp -implicitDefEqProofs only[go_sem];exact Fini.ret rfl
theorem z47 {o:Int} {b:Byt} {L:List RcM} (hb:b.length≤40000) (h:rdE b=some L) (hG:∀ex,gloA (σ++ex) 0=some kV) :
  Ans Tryz.prog 35 [I o,.sl 1 (byv b)] σ (.tup [.osl σ.length (L.length+1),Bo true]) (σ++[.row 1 (bsv (imB o L))]):=by
 have k:=z5s σ b (by omega)
 rw[h]at k;unfold expW at k;have kg:Ans Tryz.prog 28 [I o] σ (.sl 1 (byv (genB o))) σ:=Sha.genesis_ans σ o;have r0:=z3d L;obtain⟨hbe,hok,hn⟩:=za7 (by omega) h
 have n0:=zh4 (by omega) h
 refine Ans.of_run' t35 (fun k0 _=>?_)
 simp -implicitDefEqProofs only[c35,r35,go_sem];refine CO.intro k ?_;simp -implicitDefEqProofs only[go_sem];refine CO.intro kg ?_;simp -implicitDefEqProofs only[go_sem,r0];refine Go.Ab.L.count L.length (fun i=>mkE 41 [(8,.osl σ.length (i+1)),(21,.sl 4 (L.map rcV)),(22,I L.length),(23,I i)]) (fun i=>σ++(.row 1 (bsv (imB o (L.take i)))::boxR (L.take i))) ?_ ?_ rfl rfl
 · intro i hi J hJ;have hd:decide ((i:Int)<(L.length:Int))=true:=decide_eq_true (by omega)
   have k1:((i:Int)<(L.length:Int))=True:=eq_true (by omega)
   have hx:=z5t hi;have hbi:=n0 _ (List.getElem_mem hi);have wi:IntKind.i64.wrap ((i:Int)+1)=((i+1:Nat):Int):=wrap_succ (i:=i) (by omega)
   have j1:L.take (i+1)=L.take i++[L[i]]:=List.take_succ_eq_append_getElem hi;rw[j1,zgh]at hJ;have f0:boxR (L.take i++[L[i]])=boxR (L.take i)++[.box (rcC L[i])]:=by unfold boxR;rw[List.map_append];rfl
   rw[f0]at hJ;have u0:=z4M o (L.take i);have u1:(L.take i).length=i:=by rw[List.length_take];omega
   have x1:=z81 o (L.take i) fun r hr=>by have:=n0 r (List.mem_of_mem_take hr);omega
   have d0:=za8 o (L.take i) i (by omega)
   rw[List.take_of_length_le (by omega:(L.take i).length≤i)]at d0
   have hXi:((imB o (L.take i)).getD i []).length≤60000:=by
    rw[List.getD_eq_getElem?_getD,List.getElem?_eq_getElem (by rw[u0];omega)]
    exact x1 _ (List.getElem_mem _)
   have e0:(bsv (imB o (L.take i)))[i]?=some (.sl 1 (byv ((imB o (L.take i)).getD i []))):=by
    rw[z4J _ i (by rw[u0];omega),List.getD_eq_getElem?_getD,List.getElem?_eq_getElem (by rw[u0];omega)];rfl
   have h0:=fun s=>z3s s L[i] (by omega)
   have y1:=Sha.bytesRc_le L[i] (by omega)
   have m1:=fun s=>Sha.link_ans s (hdL o (L.take i)) (z0w L[i]) (z45 _ _) y1
   have m0:=fun ex=>Sha.sha_ans (σ++ex) ((imB o (L.take i)).getD i []) (by omega) (fun ex2=>by rw[List.append_assoc];exact hG _)
   rw[d0]at m0;have hlen:(bsv (imB o (L.take i))).length=i+1:=by rw[z2B,u0,u1]
   have y0:bsv (imB o (L.take i))++[.sl 1 (byv (linkB (hdL o (L.take i)) (z0w L[i])))]=bsv (imB o (L.take i)++[linkB (hdL o (L.take i)) (z0w L[i])]):=by unfold bsv;rw[List.map_append];rfl
   rw[←y0]at hJ;generalize (imB o (L.take i)).getD i []=img at *;generalize bsv (imB o (L.take i))=X at *;generalize hdL o (L.take i)=hd0 at *;have q0:i+1+1≤4294967296:=by omega
   have l0:((i:Int)<((i+1:Nat):Int))=True:=eq_true (by omega)
   obtain⟨S,eS⟩:∃S,S=σ++(.row 1 X::boxR (L.take i)):=⟨_,rfl⟩;have t0:∀ex,(S++ex)[σ.length]?=some (.row 1 X):=fun ex=>by rw[eS,List.append_assoc];exact g0 σ _ _
   have o0:∀y ex,(S++ex).set σ.length y=σ++(y::(boxR (L.take i)++ex)):=fun y ex=>by rw[eS,List.append_assoc];exact s0 σ _ _ _
   have j0:∀ex,Ans Tryz.prog 27 [.sl 1 (byv img)] (S++ex) (.agg (byv hd0)) (S++ex):=fun ex=>by
    have:=m0 (.row 1 X::boxR (L.take i)++ex);rw[←List.append_assoc,←eS]at this;exact this
   rw[←eS];simp -implicitDefEqProofs only[mkE,go_sem,hd,r0,k1,hx,g0,s0,t0,hlen,l0,e0];refine CD.intro (j0 _) ?_;simp -implicitDefEqProofs only[go_sem,g0,s0];refine CD.intro (h0 _) ?_;simp -implicitDefEqProofs only[go_sem];refine CD.intro (m1 _) ?_;simp -implicitDefEqProofs only[go_sem,t0,o0,hlen,q0,List.length_singleton,wi,e0];exact hJ
 · intro J;have hd:decide ((L.length:Int)<(L.length:Int))=false:=decide_eq_false (by omega)
   rw[List.take_length];simp -implicitDefEqProofs only[mkE,go_sem,hd];have q1:σ++(.row 1 (bsv (imB o L))::boxR L)=(σ++[.row 1 (bsv (imB o L))])++boxR L:=by rw[List.append_assoc];rfl
   refine Fini.trim2 (h:=?_) (he:=q1) (hl:=?_) (hb:=?_) (ho:=?_)
   · rfl
   · rw[List.length_append];exact Nat.le_add_right _ _
   · refine .tup _ fun k hk=>?_
     match k,hk with
     |0,_=>exact .osl _ _ (by simp)
     |1,_=>exact .pl _
   · intro y hy;rcases List.mem_append.1 hy with hy|hy
     · exact z8r (k0 y hy) (by simp)
     · obtain rfl:=List.mem_singleton.1 hy;exact ziq _ _
end
section
variable (σ:St)
theorem zgp {o:Int} {L:List RcM}:(bsv (imB o L))[L.length]?=some (.sl 1 (byv ((imB o L).getD L.length []))):=by
 have u0:=z4M o L;rw[z4J _ L.length (by rw[u0];omega),List.getD_eq_getElem?_getD,List.getElem?_eq_getElem (by rw[u0];omega)];rfl
theorem zgq {o:Int} {L:List RcM} (hbd:∀r∈L,r.bd.length≤40000):((imB o L).getD L.length []).length≤60000:=by
 have u0:=z4M o L;rw[List.getD_eq_getElem?_getD,List.getElem?_eq_getElem (by rw[u0];omega)]
 exact z81 o L hbd _ (List.getElem_mem _)
theorem zgr (o:Int) (L:List RcM):shaB ((imB o L).getD L.length [])=hdL o L:=by
 rw[za8 o L L.length (Nat.le_refl _),List.take_length]
end
def z32:Byt:=List.replicate 32 0
def vfyH (o:Int) (r:Option (List RcM)):Byt:=match r with
 |none=>z32
 |some L=>hdL o L
def vfyV (o:Int) (r:Option (List RcM)):AV:=.tup [.agg (byv (vfyH o r)),Bo r.isSome]
theorem zgs (n:Nat) (o:Int) (r:Option (List RcM)):Bel n (vfyV o r):=z2T (Sha.bel_bva _ _)
section
variable (σ:St)
theorem z3N (o:Int) (b:Byt) (hb:b.length≤40000) (hG:∀ex,gloA (σ++ex) 0=some kV):Ans Tryz.prog 34 [I o,.sl 1 (byv b)] σ (vfyV o (rdE b)) σ:=by
 have u0:=zgs σ.length o (rdE b);have j0:byv z32=List.replicate 32 (.pl (.int .u8 0)):=rfl;simp only[List.reduceReplicate]at j0
 cases h:rdE b with
 |none =>
  rw[h]at u0;have k:=zac (σ++[.box (byv z32)]) (o:=o) hb h;unfold vfyV vfyH at u0⊢;simp only at u0⊢;rw[j0]at u0 k⊢;refine Ans.of_run' t34 (fun y0 _=>?_)
  simp -implicitDefEqProofs only[c34,r34,go_sem];refine CO.intro k ?_;simp -implicitDefEqProofs only[go_sem,g0,s0];exact tr_ (σ':=σ) (ex:=[_]) rfl u0 y0
 |some L =>
  rw[h]at u0;have n0:∀r∈L,r.bd.length≤40000:=fun r hr=>by have:=zh4 (by omega) h r hr;omega
  have k:=z47 (σ++[.box (byv z32)]) (o:=o) hb h (fun ex=>by rw[List.append_assoc];exact hG _)
  have r0:(bsv (imB o L)).length=L.length+1:=by rw[z2B,z4M]
  have hx:=zgp (o:=o) (L:=L);have hs:∀ex,Ans Tryz.prog 27 [.sl 1 (byv ((imB o L).getD L.length []))] (σ++ex) (.agg (byv (shaB ((imB o L).getD L.length [])))) (σ++ex):=fun ex=>Sha.sha_ans (σ++ex) _ (by have:=zgq (o:=o) n0;omega) (fun ex2=>by rw[List.append_assoc];exact hG _)
  rw[zgr]at hs;obtain⟨-,-,hn⟩:=za7 (by omega) h
  have ws:IntKind.i64.wrap (((L.length+1:Nat):Int)-1)=(L.length:Int):=by rw[show((L.length+1:Nat):Int)-1=(L.length:Int) by omega];exact wrapI (by omega)
  have m0:((L.length:Int)<((L.length+1:Nat):Int))=True:=eq_true (by omega)
  have hl:=z05 (hdL o L);have q0:=z45 o L;have ha:(byv (hdL o L)).all AV.one=true:=Sha.bv_all _;have k0:List.take 32 (byv (hdL o L))=byv (hdL o L):=List.take_of_length_le (by rw[hl,q0];exact Nat.le_refl _)
  unfold vfyV vfyH at u0⊢;simp only at u0⊢;rw[List.append_assoc,List.length_append]at k;generalize hdL o L=hd0 at *;rw[j0]at k;refine Ans.of_run' t34 (fun y0 _=>?_)
  simp -implicitDefEqProofs only[c34,r34,go_sem];refine CO.intro k ?_;simp -implicitDefEqProofs only[go_sem,g0,s0,g1,s1,r0,ws,m0,hx];refine CO.intro (hs _) ?_;simp -implicitDefEqProofs only[go_sem,hl,q0,ha,k0,g0,s0];exact Fini.trim2 (σ':=σ) (ex:=[_,_]) (by simp -implicitDefEqProofs only[go_sem,resA,z02,rvA,oneOf,g0,hl,q0,k0]<;>rfl) rfl (Nat.le_refl _) u0 y0
theorem zad (n:Nat) (a b:Byt) (ha:a.length=n) (hb:b.length=n):eqCells (List.replicate n .int) (byv a) (byv b)=some (a==b):=Sha.eqCells_bv n a b ha hb
theorem rdE_0:rdE [0]=some []:=by kernel_rfl
theorem zjO:rdE [0,0]=none:=by kernel_rfl
theorem z9b (hG:∀ex,gloA (σ++ex) 0=some kV):Ans Tryz.prog 31 [] σ (Bo true) σ:=by
 have k1:=z3N σ 7 [0] (by decide) hG
 have k2:=z3N σ 7 [0,0] (by decide) hG
 have k3:=z5s σ [0] (by decide)
 have kg:Ans Tryz.prog 28 [I 7] σ (.sl 1 (byv (genB 7))) σ:=Sha.genesis_ans σ 7;have ks:Ans Tryz.prog 27 [.sl 1 (byv (genB 7))] σ (.agg (byv (shaB (genB 7)))) σ:=Sha.sha_ans σ (genB 7) (show(9:Nat)≤100000 by decide) hG
 rw[rdE_0]at k1 k3;rw[zjO]at k2;unfold vfyV vfyH at k1 k2;unfold expW at k3;simp only at k1 k2 k3;have e0:hdL 7 []=shaB (genB 7):=rfl;rw[e0]at k1;have u0:(shaB (genB 7)).length=32:=z18 _;have q0:=zad 32 (shaB (genB 7)) (shaB (genB 7)) u0 u0;rw[beq_self_eq_true]at q0;simp only[List.reduceReplicate]at q0;have hl:=z05 (shaB (genB 7));have ha:(byv (shaB (genB 7))).all AV.one=true:=Sha.bv_all _;have j0:List.take 32 (byv (shaB (genB 7)))=byv (shaB (genB 7)):=List.take_of_length_le (by rw[hl,u0];exact Nat.le_refl _)
 generalize shaB (genB 7)=hd0 at *;have n0:=z05 z32;have y0:z32.length=32:=rfl;have k0:(byv z32).all AV.one=true:=Sha.bv_all _;have k1:Ans Tryz.prog 34 [I 7,.sl 1 [.pl (.int .u8 0)]] σ (.tup [.agg (byv hd0),Bo true]) σ:=k1;have k2:Ans Tryz.prog 34 [I 7,.sl 1 [.pl (.int .u8 0),.pl (.int .u8 0)]] σ (.tup [.agg (byv z32),Bo false]) σ:=k2;have k3:Ans Tryz.prog 32 [.sl 1 [.pl (.int .u8 0)]] σ (.tup [.sl 4 [],Bo true]) σ:=k3;have m0:((((0:Nat):Int))==0)=true:=rfl;refine Ans.of_run t31 ?_;simp -implicitDefEqProofs only[c31,r31,go_sem];refine CO.intro k1 ?_;simp -implicitDefEqProofs only[go_sem,hl,u0,ha,j0];refine CO.intro k2 ?_;simp -implicitDefEqProofs only[go_sem,n0,y0,k0];refine CO.intro k3 ?_;simp -implicitDefEqProofs only[go_sem,hl,u0,j0];refine CD.intro kg ?_;simp -implicitDefEqProofs only[go_sem];refine CD.intro ks ?_;simp -implicitDefEqProofs only[go_sem,q0,m0];exact Fini.ret rfl
end
open Sha (txtR expB shaB z18 genB linkB z1i ChM z0q addCh takes boxC rowC z4x gloA_app kV)
theorem zir (L:List RcM):((L.map rcV).all fun y=>decide (y.cells.length=4)&&y.okc)=true:=by
 rw[List.all_eq_true];intro x hx;obtain⟨r,_,rfl⟩:=List.mem_map.1 hx;rfl
theorem zis {L:List RcM} {i:Nat} (h:i<L.length):(L.map rcV).set i (.agg [I L[i].ix,UN L[i].ck,.sl 1 (byv L[i].bd),I L[i].cd])=L.map rcV:=by
 refine List.ext_getElem? fun k=>?_
 rw[List.getElem?_set];split
 · rename_i e;subst e;rw[if_pos (by rw[List.length_map];exact h),z5t h]
 · rfl
section
variable (σ:St)
theorem zct (q:Nat) (L:List RcM) (hL:L.length≤1000) (hne:L≠[]) (hq:σ[q]?=some (.row 4 (L.map rcV))):Ans Tryz.prog 49 [.osl q L.length] σ (.osl σ.length L.length) (σ++[.row 4 (L.map rcV)]):=by
 have q0:=z3d L;have u0:=zir L;simp -implicitDefEqProofs only[go_sem]at u0
 have k0:q<σ.length:=by
  rcases Nat.lt_or_ge q σ.length with h|h
  · exact h
  · rw[List.getElem?_eq_none h]at hq;cases hq
 have j0:∀ex,(σ++ex)[q]?=some (.row 4 (L.map rcV)):=fun ex=>by rw[List.getElem?_append_left k0];exact hq
 have y0:0<L.length:=List.length_pos_iff.2 hne
 have hn:nilA2 σ false (.osl q L.length)=some false:=by
  simp[nilA2,hq,q0,y0]
 have k1:(L.length≤2^32)=True:=eq_true (by omega)
 refine Ans.of_run t49 ?_;simp -implicitDefEqProofs only[c49,r49,go_sem,hn,j0,q0,u0,g0,s0,k1];exact Fini.ret rfl
theorem zae (p q:Nat) (c:ChM) (hp:σ[p]?=some (boxC q c)) (hq:c.L≠[]→σ[q]?=some (.row 4 (c.L.map rcV))) (hL:c.L.length≤1000) (hb:∀r∈c.L,r.bd≠[]∧r.bd.length≤40000) :
  Ans Tryz.prog 24 [.ptr p 0] σ (.sl 4 (c.L.map rcV)) σ:=by
 unfold boxC rowC at hp
 cases hE:c.L.isEmpty with
 |true =>
  have h0:c.L=[]:=by simpa using hE
  rw[hE]at hp;simp only[if_true]at hp;rw[h0]
  have hk:Ans Tryz.prog 49 [.nils] σ .nils σ:=by
   refine Ans.of_run t49 ?_;simp -implicitDefEqProofs only[c49,r49,go_sem,nilA2,nilA];exact Fini.ret rfl
  refine Ans.subR (r:=.nils) ?_ (Sub.nils 4);refine Ans.of_run t24 ?_;simp -implicitDefEqProofs only[c24,r24,go_sem,hp,List.drop_succ_cons,List.drop_zero,List.head?_cons];refine CO.intro hk ?_;simp -implicitDefEqProofs only[go_sem];refine Go.Ab.L.count 0 (fun i=>mkE 27 [(3,.nils),(11,I 0),(12,I 0)]) (fun i=>σ) ?_ ?_ rfl rfl
  · intro i hi;omega
  · intro J;simp -implicitDefEqProofs only[mkE,go_sem];exact Fini.ret rfl
 |false =>
  have j0:c.L≠[]:=by intro h;rw[h]at hE;cases hE
  have hq:=hq j0;have u0:=z3d c.L;rw[hE]at hp;simp only[Bool.false_eq_true,if_false]at hp;have hk:=zct σ q c.L hL j0 hq;refine Ans.of_run' t24 (fun y0 _=>?_)
  simp -implicitDefEqProofs only[c24,r24,go_sem,hp,hq,List.drop_succ_cons,List.drop_zero,List.head?_cons];refine CO.intro hk ?_;simp -implicitDefEqProofs only[go_sem,g0,u0];refine Go.Ab.L.count c.L.length (fun i=>mkE 27 [(3,.osl σ.length c.L.length),(11,I c.L.length),(12,I i)]) (fun i=>σ++[.row 4 (c.L.map rcV)]) ?_ ?_ rfl rfl
  · intro i hi J hJ;have hd:decide ((i:Int)<((c.L.length:Nat):Int))=true:=decide_eq_true (by omega)
    have k0:((i:Int)<((c.L.length:Nat):Int))=True:=eq_true (by omega)
    have hx:=z5t hi;obtain⟨b1,b2⟩:=hb _ (List.getElem_mem hi);have m0:∀s,Ans Tryz.prog 44 [.sl 1 (byv c.L[i].bd)] s (.sl 1 (byv c.L[i].bd)) s:=fun s=>Sha.clone_ans s c.L[i].bd (by omega) b1
    have wi:IntKind.i64.wrap ((i:Int)+1)=((i+1:Nat):Int):=wrap_succ (i:=i) (by omega)
    have q0:=zis hi;simp -implicitDefEqProofs only[mkE,go_sem,hd,g0,s0,u0,k0,hx];refine CO.intro (m0 _) ?_;simp -implicitDefEqProofs only[go_sem,g0,s0,u0,k0,hx,q0,wi];exact hJ
  · intro J;have hd:decide ((c.L.length:Int)<((c.L.length:Nat):Int))=false:=decide_eq_false (by omega)
    simp -implicitDefEqProofs only[mkE,go_sem,hd,g0,s0,u0];refine Fini.trim2 (σ':=σ) (ex:=[_]) rfl rfl (Nat.le_refl _) (.sl 4 _ fun i hi=>?_) y0
    rw[List.getElem_map];exact bel_rcV _ _
end
theorem zit {n:Nat} (h:n≤200):(putN n).length≤10:=z0m (by omega)
theorem ziu {r:RcM} (h:r.bd.length≤4000):(txtR r).length≤4110:=by
 have h1:=zaa h;have h2:=z1B ⟨(z0w r).toArray⟩ (by rw[z1j];omega)
 rw[z1j]at h2;unfold Sha.txtR;omega
theorem zbs:∀(L:List RcM),(∀r∈L,r.bd.length≤4000)→((L.map txtR).flatten).length≤L.length*4110
 |[],_=>by simp
 |x::L,h=>by
  have h1:=ziu (h x (by simp))
  have h2:=zbs L fun r hr=>h r (by simp[hr])
  simp only[List.map_cons,List.flatten_cons,List.length_append,List.length_cons];omega
theorem zeL {L:List RcM} (hn:L.length≤8) (h:∀r∈L,r.bd.length≤4000):(expB L).length≤33000:=by
 have h1:=zbs L h;have h2:=zit (n:=L.length) (by omega)
 unfold Sha.expB;rw[List.length_append];omega
theorem ziv {l:List StM} (h:∀s∈l,StOk s) {n:Nat} (h1:n≤l.length) (h2:n≤8):rdE (expB (mdL l n))=some (mdL l n) :=
 rdE_fwd (zh1 h n h1 h2) (by rw[z46];omega) (by have:=zeL (L:=mdL l n) (by rw[z46];exact h2) (zh3 l n);omega)
theorem md_ne {l:List StM} (h:∀s∈l,StOk s) {n:Nat} (h1:n≤l.length):∀r∈mdL l n,r.bd≠[]∧r.bd.length≤40000:=by
 intro r hr;obtain⟨i,hi,rfl⟩:=List.mem_map.1 hr;have hi:=List.mem_range.1 hi;refine⟨?_,Nat.le_trans (zh2 l i) (by decide)⟩
 have:ActSz (l.getD i noSt).a:=by
  rw[List.getD_eq_getElem?_getD,List.getElem?_eq_getElem (by omega)];exact(h _ (List.getElem_mem _)).a
 exact zeK this
theorem chZ_p (σ ex:St) (c:ChM):((σ++chZ σ.length c)++ex)[σ.length]?=some (boxC (σ.length+2) c)∨c.L=[]∧((σ++chZ σ.length c)++ex)[σ.length]?=some (boxC 0 c):=by
 obtain⟨m,L,hd⟩:=c
 cases L with
 |nil=>right;exact⟨rfl,by rw[List.append_assoc,zab];exact g0 σ _ _⟩
 |cons r L=>left;rw[List.append_assoc,z2M];exact g0 σ _ _
theorem chZ_q (σ ex:St) (c:ChM) (h:c.L≠[]):((σ++chZ σ.length c)++ex)[σ.length+2]?=some (.row 4 (c.L.map rcV)):=by
 obtain⟨m,L,hd⟩:=c
 cases L with
 |nil=>exact absurd rfl h
 |cons r L=>rw[List.append_assoc,z2M,List.getElem?_append_right (by omega),Nat.add_sub_cancel_left];rfl
theorem zgt {c:ChM} (h:c.L=[]) (q:Nat):boxC q c=boxC 0 c:=by unfold Sha.boxC Sha.rowC;rw[h];rfl
theorem zeM (σ ex:St) (c:ChM):((σ++chZ σ.length c)++ex)[σ.length]?=some (boxC (σ.length+2) c):=by
 rcases chZ_p σ ex c with h|⟨h0,h⟩
 · exact h
 · rw[h,zgt h0 (σ.length+2)]
def mdN (l:List StM):List RcM:=mdL l (min l.length 8)
section
variable (σ:St)
theorem exp_Z (ex:St) (o:Int) (L:List RcM) (hL:L.length≤1000) (hb:∀r∈L,r.bd.length≤40000) :
  Ans Tryz.prog 25 [.ptr σ.length 0] ((σ++chZ σ.length (chL o L))++ex) (.sl 1 (byv (expB L))) ((σ++chZ σ.length (chL o L))++ex) :=
 Sha.export_ans _ σ.length (σ.length+2) (chL o L) (zeM σ ex _) (chZ_q σ ex _) hL hb
theorem rec_Z (ex:St) (o:Int) (L:List RcM) (hL:L.length≤1000) (hb:∀r∈L,r.bd≠[]∧r.bd.length≤40000) :
  Ans Tryz.prog 24 [.ptr σ.length 0] ((σ++chZ σ.length (chL o L))++ex) (.sl 4 (L.map rcV)) ((σ++chZ σ.length (chL o L))++ex) :=
 zae _ σ.length (σ.length+2) (chL o L) (zeM σ ex _) (chZ_q σ ex _) hL hb
theorem ziw (n:Nat) (c:ChM):0<(chZ n c).length:=by
 obtain⟨m,L,hd⟩:=c;cases L<;>simp[chZ]
theorem zjP (ex:St) (o:Int) (L:List RcM) :
  Ans Tryz.prog 21 [.ptr σ.length 0] ((σ++chZ σ.length (chL o L))++ex) (.agg (byv (hdL o L))) ((σ++chZ σ.length (chL o L))++ex) :=
 Sha.head_ans _ σ.length (σ.length+2) (chL o L) (z45 _ _) (zeM σ ex _) (by have:=ziw σ.length (chL o L);simp only[List.length_append];omega)
end
theorem z55 {σ:St} {k:Nat} {v:List Value} (h:∀ex,gloA (σ++ex) k=some v) (a:St):∀ex,gloA ((σ++a)++ex) k=some v:=fun ex=>by rw[List.append_assoc];exact h _
structure MdOk (l:List StM):Prop where
 ok:∀s∈l,StOk s
 len:l.length≤9223372036854775807
section
variable (σ:St) (o:Int) (l:List StM)
theorem z82:(mdN l).length=min l.length 8:=z46 _ _
theorem zeN (h:MdOk l):∀r∈mdN l,r.bd≠[]∧r.bd.length≤40000:=md_ne h.ok (Nat.min_le_left _ _)
theorem z83 (h:MdOk l):rdE (expB (mdN l))=some (mdN l):=ziv h.ok (Nat.min_le_left _ _) (Nat.min_le_right _ _)
theorem zaf:(expB (mdN l)).length≤33000:=zeL (by rw[z82];omega) (zh3 _ _)
theorem madeN (h:MdOk l) (hG:∀ex,gloA (σ++ex) 0=some kV):Ans Tryz.prog 38 [I o,.sl 21 (l.map stpV)] σ (.tup [.ptr σ.length 0,Bo true]) (σ++chZ σ.length (chL o (mdN l))):=zgn σ o l h.ok h.len hG
theorem z6v (h:MdOk l) (hG:∀ex,gloA (σ++ex) 0=some kV):Ans Tryz.prog 8 [I o,.sl 21 (l.map stpV)] σ (Bo true) σ:=by
 have kM:=madeN σ o l h hG;have hl8:=z82 l;have j0:=zeN l h;have n0:=z83 l h;have hxl:=zaf l;generalize mdN l=L at *;have kX:=exp_Z σ [] o L (by omega) (fun r hr=>(j0 r hr).2)
 have kC:=rec_Z σ [] o L (by omega) j0
 have kH:=zjP σ [] o L;rw[List.append_nil]at kX kC kH;have k0:=z55 hG (chZ σ.length (chL o L));obtain⟨S,eS⟩:∃S,S=σ++chZ σ.length (chL o L):=⟨_,rfl⟩;have kR:=z5s S (expB L) (by omega)
 have kV:=z3N S o (expB L) (by omega) (by rw[eS];exact k0)
 have kS:=z9a S L (by omega)
 have kA:=z9b S (by rw[eS];exact k0)
 rw[n0]at kR kV;unfold expW at kR;unfold vfyV vfyH at kV;simp only[Option.isSome_some]at kR kV;rw[←eS]at kM kX kC kH;have hl:=z05 (hdL o L);have u0:=z45 o L;have ha:(byv (hdL o L)).all AV.one=true:=Sha.bv_all _;have m0:List.take 32 (byv (hdL o L))=byv (hdL o L):=List.take_of_length_le (by rw[hl,u0];exact Nat.le_refl _)
 have q0:=zad 32 (hdL o L) (hdL o L) u0 u0;rw[beq_self_eq_true]at q0;simp only[List.reduceReplicate]at q0;generalize hdL o L=hd0 at *;generalize expB L=X at *;refine Ans.of_run' t8 (fun y0 _=>?_)
 simp -implicitDefEqProofs only[c8,r8,go_sem];refine CO.intro kM ?_;simp -implicitDefEqProofs only[go_sem];refine CO.intro kX ?_;simp -implicitDefEqProofs only[go_sem];refine CO.intro kR ?_;simp -implicitDefEqProofs only[go_sem];refine CO.intro kV ?_;simp -implicitDefEqProofs only[go_sem,hl,u0,ha];refine CD.intro kC ?_;simp -implicitDefEqProofs only[go_sem];refine CD.intro kS ?_;simp -implicitDefEqProofs only[go_sem,hl,u0,m0];refine CD.intro kH ?_;simp -implicitDefEqProofs only[go_sem,q0];refine CD.intro kA ?_;simp -implicitDefEqProofs only[go_sem];exact Fini.trim2 (σ':=σ) (ex:=chZ σ.length (chL o L)) rfl eS (Nat.le_refl _) (.pl _) y0
end
def QSt:List AV→Prop:=fun xs=>∃s:StM,StOk s∧xs=stpC s
theorem zgu (f:Nat):Reads Tryz.prog 120 f QSt:=by
 cases f with
 |zero=>exact Reads.zero
 |succ f =>
  have h:=Reads.struct (P:=Tryz.prog) (t:=120) (f:=f) (Qs:=[QInt .u8,QAct,QInt .u8]) Tryz.underlying120 (by kernel_rfl) rfl (by
   intro p hp;simp only[List.zip_cons_cons,List.zip_nil_right,List.mem_cons,List.not_mem_nil,or_false]at hp;rcases hp with rfl|rfl|rfl
   · exact Reads.int Tryz.underlying5 f
   · exact zeB f
   · exact Reads.int Tryz.underlying5 f)
  refine h.mono fun xs hq=>?_
  obtain⟨_,_,rfl,⟨g,hg,rfl⟩,_,_,rfl,⟨a,ha,rfl⟩,_,_,rfl,⟨c,hc,rfl⟩,rfl⟩:=hq;obtain⟨a1,a2⟩:=wf8c hg;obtain⟨b1,b2⟩:=wf8c hc;obtain⟨n,rfl⟩:=Int.eq_ofNat_of_zero_le a1;obtain⟨m,rfl⟩:=Int.eq_ofNat_of_zero_le b1;exact⟨⟨n,a,m⟩,⟨(by show n<256;omega),ha,(by show m<256;omega)⟩,rfl⟩
theorem zbt:∀{ys:List (List AV)},(∀y∈ys,QSt y)→∃l:List StM,l.length=ys.length∧(∀s∈l,StOk s)∧ys.map (wrapC true)=l.map stpV
 |[],_=>⟨[],rfl,(by intro s hs;cases hs),rfl⟩
 |y::ys,h=>by
  obtain⟨s,hs,rfl⟩:=h y List.mem_cons_self;obtain⟨l,h1,h2,h3⟩:=zbt (ys:=ys) fun z hz=>h z (List.mem_cons_of_mem _ hz)
  refine⟨s::l,by simp[h1],?_,by rw[List.map_cons,h3];rfl⟩
  intro t ht;rcases List.mem_cons.1 ht with rfl|ht
  · exact hs
  · exact h2 t ht
section
variable {H:Type} {enc:TypeId×Value→H} {W:World} {base:Nat} {v:Value} {d:DataW H} {ps:List MemPlace}
theorem z9c (hv:Value.okWide Tryz.prog W .any base 74 v) (h:DataW.Trod enc Tryz.prog W 0 (fun _=>true) true 74 v d ps):∃l:List StM,MdOk l∧Rep noM noR W (.sl 21 (l.map stpV)) v:=by
 obtain⟨sa,len,cap,rfl⟩:=okWide_slice Tryz.underlying74 hv
 obtain⟨x,hx,hq⟩:=Reads.arg (P:=Tryz.prog) (t:=74) (Q:=QSlice 21 true QSt) (fun f=>by
  cases f with
  |zero=>exact Reads.zero
  |succ f=>exact Reads.slice true Tryz.underlying74 (by kernel_rfl) (by decide) (zgu f) (fun _ _ _=>rfl)) rfl h
 rcases hq with hq|⟨ys,hys,hl,hq⟩
 · simp only[List.cons.injEq,and_true]at hq;subst hq;exact⟨[],⟨(by intro s hs;cases hs),Nat.zero_le _⟩,Sub.nils 21 _ _ _ _ hx⟩
 · obtain⟨l,h1,h2,h3⟩:=zbt hys;simp only[List.cons.injEq,and_true]at hq;subst hq;rw[h3]at hx;have hml:maxLen=9223372036854775807:=by decide
   exact⟨l,⟨h2,by omega⟩,hx⟩
end
theorem z84 {l:List StM} (h:MdOk l) (n:Nat):MdOk (l.take n):=⟨fun s hs=>h.ok s (List.mem_of_mem_take hs),by rw[List.length_take];have:=h.len;omega⟩
theorem zgv {l:List StM} {n:Nat} (hn:n≤min l.length 8):mdN (l.take n)=(mdN l).take n:=by
 unfold mdN;rw[List.length_take,zgl l hn,show min (min n l.length) 8=n by omega,zeH l (Nat.le_refl _)]
section
variable (σ:St) (o:Int) (l:List StM)
theorem z6A (h:MdOk l) (cut:UInt8) (hG:∀ex,gloA (σ++ex) 0=some kV):Ans Tryz.prog 7 [I o,.sl 21 (l.map stpV),bc cut] σ (Bo true) σ:=by
 have d0:(l.map stpV).length=l.length:=List.length_map ..;have hcl:cut.toNat<256:=cut.toNat_lt;have u0:(if((8:Int))<((l.length:Nat):Int) then(8:Int) else((l.length:Nat):Int))=((min l.length 8:Nat):Int):=by split<;>omega
 have e0:(if((l.length:Nat):Int)<8 then((l.length:Nat):Int) else(8:Int))=((min l.length 8:Nat):Int):=by split<;>omega
 have w1:IntKind.i64.wrap (((min l.length 8:Nat):Int)+1)=((min l.length 8+1:Nat):Int):=wrap_succ (by omega)
 obtain⟨n,en⟩:∃n,n=cut.toNat%(min l.length 8+1):=⟨_,rfl⟩;have hn:n≤min l.length 8:=by have:=Nat.mod_lt cut.toNat (show 0<min l.length 8+1 by omega);omega
 have m0:((cut.toNat:Nat):Int).tmod ((min l.length 8+1:Nat):Int)=((n:Nat):Int):=by rw[en];rfl
 have hz:(((min l.length 8+1:Nat):Int)=0)=False:=eq_false (by omega)
 have wc:IntKind.i64.wrap ((cut.toNat:Nat):Int)=((cut.toNat:Nat):Int):=wrapI (by omega)
 have wn:IntKind.i64.wrap ((n:Nat):Int)=((n:Nat):Int):=wrapI (by omega)
 have w2:IntKind.i64.wrap (((n:Nat):Int)+1)=((n+1:Nat):Int):=wrap_succ (by omega)
 have q0:(l.map stpV).take n=(l.take n).map stpV:=by rw[List.map_take]
 have hle:(((n:Nat):Int)≤((l.length:Nat):Int))=True:=eq_true (by omega)
 have hA:=madeN σ o l h hG;have hB:=madeN (σ++chZ σ.length (chL o (mdN l))) o (l.take n) (z84 h n) (z55 hG _);have eB:=zgv hn;have la:=z82 l;have ba:=zeN l h;have ra:=z83 l h;have xa:=zaf l;have lb:=z82 (l.take n);have bb:=zeN (l.take n) (z84 h n);have rb:=z83 (l.take n) (z84 h n);have xb:=zaf (l.take n);have f0:(mdN (l.take n)).length=n:=by rw[eB,List.length_take,la];omega
 have o0:(imB o (mdN l)).take (n+1)=imB o (mdN (l.take n)):=by rw[eB];exact zgi o _ n (by rw[la];exact hn)
 have t0:=za8 o (mdN l) n (by rw[la];exact hn)
 rw[←eB]at t0;generalize mdN l=LA at *;generalize mdN (l.take n)=LB at *;have e1:=exp_Z σ (chZ (σ++chZ σ.length (chL o LA)).length (chL o LB)) o LA (by omega) (fun r hr=>(ba r hr).2)
 have e2:=fun ex=>exp_Z (σ++chZ σ.length (chL o LA)) ex o LB (by omega) (fun r hr=>(bb r hr).2)
 obtain⟨S1,eS1⟩:∃S1,S1=σ++chZ σ.length (chL o LA):=⟨_,rfl⟩;rw[←eS1]at hA hB e1;simp only[←eS1]at e2;obtain⟨S,eS⟩:∃S,S=S1++chZ S1.length (chL o LB):=⟨_,rfl⟩;rw[←eS]at hB e1;simp only[←eS]at e2;have j0:∀ex,gloA (S++ex) 0=some kV:=by rw[eS,eS1];exact z55 (z55 hG _) _
 have i1:=z47 S (o:=o) (by omega) ra j0
 have i2:=z47 (S++[.dead]) (o:=o) (by omega) rb (z55 j0 _)
 have v1:=z3N (S++[.dead,.dead]) o (expB LB) (by omega) (z55 j0 _)
 rw[rb]at v1;unfold vfyV vfyH at v1;simp only[Option.isSome_some]at v1;have na:=z4M o LA;have nb:=z4M o LB;have da:(bsv (imB o LA)).length=LA.length+1:=by rw[z2B,na]
 have db:(bsv (imB o LB)).length=LB.length+1:=by rw[z2B,nb]
 have h0:(bsv (imB o LA)).take (n+1)=bsv (imB o LB):=by unfold bsv;rw[←List.map_take,o0]
 have sl:=z80 (S++[.dead,.dead]) (imB o LB) (by omega)
 have u1:(bsv (imB o LA))[n]?=some (.sl 1 (byv ((imB o LA).getD n []))):=by
  rw[z4J _ n (by rw[na];omega),List.getD_eq_getElem?_getD,List.getElem?_eq_getElem (by rw[na];omega)];rfl
 have hXi:((imB o LA).getD n []).length≤60000:=by
  rw[List.getD_eq_getElem?_getD,List.getElem?_eq_getElem (by rw[na];omega)]
  exact z81 o LA (fun r hr=>(ba r hr).2) _ (List.getElem_mem _)
 have sh:Ans Tryz.prog 27 [.sl 1 (byv ((imB o LA).getD n []))] (S++[.dead,.dead]) (.agg (byv (shaB ((imB o LA).getD n [])))) (S++[.dead,.dead]):=Sha.sha_ans _ _ (by omega) (z55 j0 _)
 have r0:shaB ((imB o LA).getD n [])=hdL o LB:=t0;rw[r0]at sh;have kA:=z9b (S++[.dead,.dead]) (z55 j0 _);have hl:=z05 (hdL o LB);have y0:=z45 o LB;have ha:(byv (hdL o LB)).all AV.one=true:=Sha.bv_all _;have l0:List.take 32 (byv (hdL o LB))=byv (hdL o LB):=List.take_of_length_le (by rw[hl,y0];exact Nat.le_refl _)
 have n0:=zad 32 (hdL o LB) (hdL o LB) y0 y0;rw[beq_self_eq_true]at n0;simp only[List.reduceReplicate]at n0;have c1:(((LA.length+1:Nat):Int) != ((min l.length 8+1:Nat):Int))=false:=by rw[la];simp
 have c2:(((LB.length+1:Nat):Int) != ((n+1:Nat):Int))=false:=by rw[f0];simp
 rw[List.append_assoc,List.length_append]at i2;simp only[List.length_cons,List.length_nil,Nat.zero_add,List.cons_append,List.nil_append]at i2;have q1:(((n:Nat):Int)<((LA.length+1:Nat):Int))=True:=eq_true (by omega)
 have q2:(((n+1:Nat):Int)≤((LA.length+1:Nat):Int))=True:=eq_true (by omega)
 generalize hdL o LB=hd0 at *;generalize (imB o LA).getD n []=img at *;generalize bsv (imB o LA)=BA at *;generalize bsv (imB o LB)=BB at *;refine Ans.of_run' t7 (fun k0 _=>?_)
 simp -implicitDefEqProofs only[c7,r7,go_sem];refine CO.intro hA ?_;simp -implicitDefEqProofs only[go_sem,bc,wc,d0,u0,w1,hz,m0,wn,q0,hle];refine CO.intro hB ?_;simp -implicitDefEqProofs only[go_sem];refine CO.intro e1 ?_;simp -implicitDefEqProofs only[go_sem];refine CO.intro i1 ?_;simp -implicitDefEqProofs only[go_sem,g0,s0,da];refine CO.intro (e2 _) ?_;simp -implicitDefEqProofs only[go_sem];refine CO.intro i2 ?_;simp -implicitDefEqProofs only[go_sem,g1,s1,da,db,d0,u0,w1,w2,c1,c2];refine CO.intro (e2 _) ?_;simp -implicitDefEqProofs only[go_sem];refine CO.intro v1 ?_;simp -implicitDefEqProofs only[go_sem,hl,y0,ha,w2,da,q2,h0];refine CD.intro sl ?_;simp -implicitDefEqProofs only[go_sem,hl,y0,l0,da,q1,u1];refine CD.intro sh ?_;simp -implicitDefEqProofs only[go_sem,n0];refine CD.intro kA ?_;simp -implicitDefEqProofs only[go_sem];exact Fini.trim2 (σ':=σ) (ex:=chZ σ.length (chL o LA)++chZ S1.length (chL o LB)++[.dead,.dead]) rfl (by rw[eS,eS1];simp only[List.append_assoc]) (Nat.le_refl _) (.pl _) k0
end
end Go.Proofs.YteakobbdgehlgaaGreatDoor
