/- Two label sets, two requests held against each other. No condition. -/
import Derived.Test.YtmkmhhjkdaklbaaGreatRg3as
import Derived.Test.YtmkmhhjkdaklbaaGreatRq2cs
import Derived.Test.YtmkmhhjkdaklbaaGreatRf2s
import Derived.Test.YtmkmhhjkdaklbaaGreatRl1s
import Derived.Test.YtmkmhhjkdaklbaaGreatRc3s
import Derived.Test.YtmkmhhjkdaklbaaGreatXVi2s
import Derived.Test.YtmkmhhjkdaklbaaGreatXPPar6s
import Derived.Test.YtmkmhhjkdaklbaaGreatXDr3s
import Derived.Test.YtmkmhhjkdaklbaaGreatProg
import Derived.Test.YtmkmhhjkdaklbaaGreatAbSteps
import Derived.Test.YtmkmhhjkdaklbaaGreatAbTrees
set_option linter.unusedSimpArgs false
set_option linter.unusedVariables false
set_option linter.unusedSectionVars false
namespace Go.Proofs.YtmkmhhjkdaklbaaGreat
open Go Go.Ab Go.Cod
set_option maxRecDepth 100000
def eqLb (x y:Lab):Bool:=x.1.toList==y.1.toList&&(x.2.toList==y.2.toList&&true)
def sameL (A B:List Lab):Bool:=decide (A.length=B.length)&&(List.range A.length).all fun i=>eqLb (A.getD i noLb) (B.getD i noLb)
theorem za4 (A:List Lab):sameL A A=true:=by simp[sameL,eqLb]
theorem zbO (σ:St) (A B:List Lab) (hA:A.length≤1000):Ans Tryz.prog 102 [.sl 2 (lvs A),.sl 2 (lvs B)] σ (Bo (sameL A B)) σ:=by
 refine Ans.of_run t102 ?_
 have e0:((A.length:Int) != B.length)= !decide (A.length=B.length):=by
  rw[Bool.eq_iff_iff];simp only[bne_iff_ne,Bool.not_eq_true',decide_eq_false_iff_not];omega
 unfold sameL;by_cases hl:A.length=B.length
 · rw[decide_eq_true hl,Bool.true_and];rw[decide_eq_true hl]at e0;simp -implicitDefEqProofs only[c102,r102,go_sem,z0g,e0];refine Go.Ab.L.scan A.length (fun i=>eqLb (A.getD i noLb) (B.getD i noLb)) (fun i=>mkE 26 [(0,.sl 2 (lvs A)),(1,.sl 2 (lvs B)),(5,I i)]) (fun _=>σ) ?_ ?_ rfl rfl
   · intro i hi hp J hJ;have hx:=lvs_D A i hi;have hy:=lvs_D B i (by omega)
     have hlB:((i:Int)<B.length)=True:=by simp;omega
     have hF:eqLb (A.getD i noLb) (B.getD i noLb)=false→((List.range A.length).all fun i=>eqLb (A.getD i noLb) (B.getD i noLb))=false:=fun h=>List.all_eq_false.2 ⟨i,List.mem_range.2 hi,by rw[h];decide⟩
     have hin:=wrap_succ (i:=i) (by omega)
     generalize A.getD i noLb=x at hx hJ hF;generalize B.getD i noLb=y at hy hJ hF;simp -implicitDefEqProofs only[mkE,go_sem,z00,z0g,z0j hi,dec_lt hi,hlB,hx,hy,Bool.true_xor]
     cases hb:eqLb x y with
     |true =>
      have hgo:=hJ hb;have hb':(x.1.toList==y.1.toList&&(x.2.toList==y.2.toList&&true))=true:=hb;simp only[Bool.and_true]at hb';simp -implicitDefEqProofs only[go_sem,hb',hin];exact hgo
     |false =>
      have hb':(x.1.toList==y.1.toList&&(x.2.toList==y.2.toList&&true))=false:=hb;simp only[Bool.and_true]at hb';rw[hF hb];simp -implicitDefEqProofs only[go_sem,hb'];exact Fini.ret rfl
   · intro hp J;have hd:decide ((A.length:Int)<A.length)=false:=by simp
     simp -implicitDefEqProofs only[mkE,go_sem,z0g,hd];refine Fini.ret' rfl (z1k ?_);exact(List.all_eq_true.2 fun i hi=>hp i (List.mem_range.1 hi)).symm
 · rw[decide_eq_false hl,Bool.false_and];rw[decide_eq_false hl]at e0;simp -implicitDefEqProofs only[c102,r102,go_sem,z0g,e0];exact Fini.ret rfl
def z2L (x y:ReM):Bool :=
 (x.tok.toList==y.tok.toList)&&((x.op==y.op)&&((x.id==y.id)&&((x.txt.toList==y.txt.toList)&&(((x.st:Int)==(y.st:Int))&&(((x.en:Int)==(y.en:Int))&&((x.sta==y.sta)&&(sameM x.mt y.mt&&(z3f (x.any,x.lo,x.hi) (y.any,y.lo,y.hi)&&(z4f x.ru y.ru&&(sameL x.ls y.ls&&eqBf x.val y.val))))))))))
theorem z8s (x:ReM):z2L x x=true:=by simp[z2L,z5K,z5c,z8k,za4,eqBf]
set_option maxHeartbeats 4000000 in
theorem za5 (σ:St) (x y:ReM) (h1:x.mt.length≤1000) (h2:x.ru.src.length≤1000) (h3:x.ru.tgt.length≤1000) (h4:x.ru.eq.length≤100000) (h5:x.ls.length≤1000):Ans Tryz.prog 42 [reV x,reV y] σ (Bo (z2L x y)) σ:=by
 have i1:=fun s=>z5a s x.mt y.mt h1
 have i2:=fun s=>z4g s (x.any,x.lo,x.hi) (y.any,y.lo,y.hi)
 have i3:=fun s=>zbq s x.ru y.ru h2 h3 h4
 have i4:=fun s=>zbO s x.ls y.ls h5
 have i5:=fun s=>z1U s x.val
 have i6:=fun s=>z1U s y.val
 unfold bandV at i2;unfold ruV at i3;refine Ans.of_run t42 ?_;unfold reV reC z2L eqBf
 cases a0:(x.tok.toList==y.tok.toList) with
 |false =>
  simp -implicitDefEqProofs only[c42,r42,go_sem,z00,a0];exact Fini.ret rfl
 |true =>
 cases a1:(x.op==y.op) with
 |false =>
  simp -implicitDefEqProofs only[c42,r42,go_sem,z00,a0,a1];exact Fini.ret rfl
 |true =>
 cases a2:(x.id==y.id) with
 |false =>
  simp -implicitDefEqProofs only[c42,r42,go_sem,z00,a0,a1,a2];exact Fini.ret rfl
 |true =>
 cases a3:(x.txt.toList==y.txt.toList) with
 |false =>
  simp -implicitDefEqProofs only[c42,r42,go_sem,z00,a0,a1,a2,a3];exact Fini.ret rfl
 |true =>
 cases a4:((x.st:Int)==(y.st:Int)) with
 |false =>
  simp -implicitDefEqProofs only[c42,r42,go_sem,z00,a0,a1,a2,a3,a4];exact Fini.ret rfl
 |true =>
 cases a5:((x.en:Int)==(y.en:Int)) with
 |false =>
  simp -implicitDefEqProofs only[c42,r42,go_sem,z00,a0,a1,a2,a3,a4,a5];exact Fini.ret rfl
 |true =>
 cases a6:(x.sta==y.sta) with
 |false =>
  simp -implicitDefEqProofs only[c42,r42,go_sem,z00,a0,a1,a2,a3,a4,a5,a6];exact Fini.ret rfl
 |true =>
 simp -implicitDefEqProofs only[c42,r42,go_sem,z00,a0,a1,a2,a3,a4,a5,a6]
 first|refine CD.intro (i1 _) ?_|refine CS.intro i1 ?_
 cases sameM x.mt y.mt with
 |false =>
  simp -implicitDefEqProofs only[go_sem,z00];exact Fini.ret rfl
 |true =>
 simp -implicitDefEqProofs only[go_sem,z00]
 first|refine CD.intro (i2 _) ?_|refine CS.intro i2 ?_
 cases z3f (x.any,x.lo,x.hi) (y.any,y.lo,y.hi) with
 |false =>
  simp -implicitDefEqProofs only[go_sem,z00];exact Fini.ret rfl
 |true =>
 simp -implicitDefEqProofs only[go_sem,z00]
 first|refine CD.intro (i3 _) ?_|refine CS.intro i3 ?_
 cases z4f x.ru y.ru with
 |false =>
  simp -implicitDefEqProofs only[go_sem,z00];exact Fini.ret rfl
 |true =>
 simp -implicitDefEqProofs only[go_sem,z00]
 first|refine CD.intro (i4 _) ?_|refine CS.intro i4 ?_
 cases sameL x.ls y.ls with
 |false =>
  simp -implicitDefEqProofs only[go_sem,z00];exact Fini.ret rfl
 |true =>
 simp -implicitDefEqProofs only[go_sem,z00]
 first|refine CD.intro (i5 _) ?_|refine CS.intro i5 ?_
 simp -implicitDefEqProofs only[go_sem,z00]
 first|refine CD.intro (i6 _) ?_|refine CS.intro i6 ?_
 simp -implicitDefEqProofs only[go_sem,z00];exact Fini.ret rfl
theorem zd2:bitsF 9221120237041090561=9221120237041090561:=by decide +kernel
theorem z2s (v:Nat):bitsF (bitsF v)=bitsF v:=by
 cases h:nanF v with
 |true =>
  have e:bitsF v=9221120237041090561:=by unfold bitsF;rw[if_pos h]
  rw[e,zd2]
 |false =>
  have e:bitsF v=v:=by unfold bitsF;rw[h];rfl
  rw[e,e]
theorem zbP {v:Nat} (h:v<2^64):bitsF v<2^64:=by
 unfold bitsF;split
 · decide
 · exact h
def z0C (r:ReM):ReM:={ r with val:=bitsF r.val }
theorem z3Q (r:ReM):mayR (z0C r)=mayR r:=by
 have hz:zF (bitsF r.val)=zF r.val:=by unfold zF;rw[z2s]
 unfold mayR zeroB z0i z0C;simp only[hz]
theorem z9o (r:ReM):reIs (z0C r)=reIs r:=by
 unfold reIs;rw[z3Q];rfl
theorem z5Q (r:ReM):z0N (z0C r)=z0N r:=by
 have hp:putV (bitsF r.val)=putV r.val:=by unfold putV;rw[z2s]
 unfold z0N;rw[z3Q];unfold z0s putB2 putB1 z0C;simp only[hp]
theorem z1B (r:ReM):z17 (z0C r)=z17 r:=by
 unfold z17;rw[z9o,z5Q];rfl
structure SzA (r:ReM):Prop where
 val:r.val<2^64
 bd:r.lo<2^64∧r.hi<2^64
 ru:r.ru.lo<2^64∧r.ru.hi<2^64
theorem z4t {r:ReM} (hi:reIs r=true) (hs:SzA r):reIs (z0C r)=true∧RqSz (z0C r) :=
 ⟨by rw[z9o];exact hi,⟨zbP hs.val,z2s _⟩,hs.bd,hs.ru⟩
theorem z9p {r:ReM} (hi:reIs r=true) (hs:SzA r) (t:Byt):reqR (z17 r++t)=some (z0C r,t):=by
 rw[←z1B];exact req_fits.fwd _ t (z4t hi hs)
theorem zep {r:ReM} (hi:reIs r=true) (hs:SzA r) {k:Nat} (hk:k<(z17 r).length):reqR ((z17 r).take k)=none:=by
 rw[←z1B]at hk⊢;exact req_fits.cut (z4t hi hs) hk
theorem zbQ {r:ReM} (hm:mayR r=true) (hs:SzA r) (t:Byt):bodyR (z0N r++t)=some (noTok (z0C r),t):=by
 rw[←z5Q,←za3];exact body_fits.fwd _ t ⟨by show mayR (z0C r)=true;rw[z3Q];exact hm,rfl,⟨zbP hs.val,z2s _⟩,hs.bd,hs.ru⟩
theorem RqSz.a {x:ReM} (h:RqSz x):SzA x:=⟨h.val.1,h.bd,h.ru⟩
theorem z7u {r:ReM} (h:mayR r=true):bMay (r.any,r.lo,r.hi)=true∧bMay (r.ru.any,r.ru.lo,r.ru.hi)=true:=by
 have z:bMay (false,0,0)=true:=by decide +kernel
 unfold mayR zeroB z0i at h;generalize (fOf r.op).1=f at h;simp only[Bool.and_eq_true]at h;obtain⟨_,⟨_,_,_,_,_,z6,z7,_,_⟩,_,_,_,_,_,_,_,r8,r9,_⟩:=h;constructor
 · cases h64:hasF f 64 with
   |true=>rw[h64]at r8;exact r8
   |false =>
    rw[h64]at z6;have:=(z1w (r.any,r.lo,r.hi)).1 z6;rw[this];exact z
 · cases h128:hasF f 128 with
   |true=>rw[h128]at r9;exact(z1t (show ruIs r.ru=true from r9)).2.2.1
   |false =>
    rw[h128]at z7;have:=(z1G r.ru).1 z7;rw[this];exact z
theorem zd3 {x y:RuM} (hx:bMay (x.any,x.lo,x.hi)=true) (wx:ruSz x) (hy:bMay (y.any,y.lo,y.hi)=true) (wy:ruSz y) (h:z4f x y=true):x=y:=by
 unfold z4f at h;simp only[Bool.and_eq_true,decide_eq_true_eq]at h;obtain⟨h1,h2,h3,h4,h5⟩:=h;have e1:=z6s h2;have e2:=z6s h3;have e3:=z7g hx wx hy wy h4;have e4:=ze8 h1 h5;obtain⟨a,b,c,d,e,f⟩:=x;obtain⟨a',b',c',d',e',f'⟩:=y;simp only[Prod.mk.injEq]at e1 e2 e3 e4;obtain⟨rfl,rfl,rfl⟩:=e3;rw[e1,e2,e4]
theorem sameL_eq {A B:List Lab} (h:sameL A B=true):A=B:=by
 unfold sameL at h;simp only[Bool.and_eq_true,decide_eq_true_eq]at h;refine zbr (z:=noLb) h.1 fun i hi=>?_
 have:=List.all_eq_true.1 h.2 i (List.mem_range.2 hi);unfold eqLb at this;simp only[Bool.and_eq_true,beq_iff_eq,and_true]at this;exact Prod.ext (toList_inj this.1) (toList_inj this.2)
theorem za6 {x y:ReM} (hx:mayR x=true) (wx:SzA x) (hy:mayR y=true) (wy:SzA y) (h:z2L x y=true):z0C x=z0C y:=by
 unfold z2L eqBf at h;simp only[Bool.and_eq_true,beq_iff_eq]at h;obtain⟨h1,h2,h3,h4,h5,h6,h7,h8,h9,h10,h11,h12⟩:=h;have b1:=z7u hx;have b2:=z7u hy;have e1:=toList_inj h1;have e4:=toList_inj h4;have e8:=z6s h8;have e9:=z7g b1.1 wx.bd b2.1 wy.bd h9;have e10:=zd3 b1.2 wx.ru b2.2 wy.ru h10;have e11:=sameL_eq h11;unfold z0C;obtain⟨a0,a1,a2,a3,a4,a5,a6,a7,a8,a9,aa,ab,ac,ad⟩:=x;obtain⟨c0,c1,c2,c3,c4,c5,c6,c7,c8,c9,ca,cb,cc,cd⟩:=y;simp only[Prod.mk.injEq]at e1 h2 h3 e4 h5 h6 h7 e8 e9 e10 e11 h12;obtain⟨rfl,rfl,rfl⟩:=e9;have:=Int.ofNat.inj h5;have:=Int.ofNat.inj h6;have:=Int.ofNat.inj h12;subst e1 h2 h3 e4 h7 e8 e10 e11
 simp_all
theorem z3R {x y:ReM} (h:z0C x=z0C y):z2L x y=true:=by
 have e:z2L x y=z2L (z0C x) (z0C y):=by
  unfold z2L eqBf z0C;simp only[z2s]
 rw[e,h,z8s]
theorem za7 {x y:ReM} (hx:reIs x=true) (wx:SzA x) (hy:reIs y=true) (wy:SzA y):z2L x y=decide (z17 x=z17 y):=by
 rw[Bool.eq_iff_iff,decide_eq_true_eq];constructor
 · intro h;have:=za6 (z24 hx).2.2 wx (z24 hy).2.2 wy h;rw[←z1B x,this,z1B]
 · intro h;rw[←z1B x,←z1B y]at h;exact z3R (req_fits.apart (z4t hx wx) (z4t hy wy) h)
end Go.Proofs.YtmkmhhjkdaklbaaGreat
namespace Go.Proofs.YtmkmhhjkdaklbaaGreat
open Go Go.Ab Go.Cod Go.ChangeShapes Go.WideShapes Go.ChangeAt Go.RowKit
set_option maxRecDepth 100000
structure ActSz (a:AcM):Prop where
 val:a.val<2^64
 bd:a.lo<2^64∧a.hi<2^64
 ru:a.ru.lo<2^64∧a.ru.hi<2^64
theorem z7v {sel:Int} {lo hi:Nat} (h1:lo<2^64) (h2:hi<2^64):(z0v sel lo hi).2.1<2^64∧(z0v sel lo hi).2.2<2^64:=by
 unfold z0v;split
 · exact⟨by decide,by decide⟩
 · split
   · exact⟨h2,h1⟩
   · exact⟨h1,h2⟩
theorem z5h {a:AcM} (h:ActSz a):SzA (z05 a):=by
 have hb:=z7v (sel:=a.sel) h.bd.1 h.bd.2;have hr:ruSz (z2d a.ru):=zcN h.ru.1 h.ru.2;have z:(0:Nat)<2^64:=by decide
 unfold z05;simp only
 repeat' split
 all_goals first
  |exact⟨z,⟨z,z⟩,⟨z,z⟩⟩
  |exact⟨z,hb,⟨z,z⟩⟩
  |exact⟨z,⟨z,z⟩,hr⟩
  |exact⟨h.val,⟨z,z⟩,⟨z,z⟩⟩
theorem wf64i {n:Int} (h:(Lit.int .u64 n).wf=true):0≤n∧n<18446744073709551616:=by
 simp[Lit.wf,IntKind.min,IntKind.max,IntKind.bits,IntKind.signed]at h;omega
def QBytA:List AV→Prop:=fun xs=>∃b:Byt,xs=[.sl 1 (byv b)]
theorem za8 (f:Nat):Reads Tryz.prog 29 f QBytA:=by
 cases f with
 |zero=>exact Reads.zero
 |succ f =>
  refine((Reads.slice (sz:=1) false Tryz.underlying29 (by kernel_rfl) (by decide) (Reads.int Tryz.underlying5 f) (fun y hy _=>by obtain⟨n,_,rfl⟩:=hy;rfl)).weak QSlice.weak).mono fun xs hq=>?_
  obtain⟨ys,h1,h2,rfl⟩:=hq;obtain⟨b,e⟩:=z8j h1;exact⟨b,by rw[e]⟩
def QAct:List AV→Prop:=fun xs=>∃a:AcM,ActSz a∧xs=acC a
theorem zbR (f:Nat):Reads Tryz.prog 56 f QAct:=by
 cases f with
 |zero=>exact Reads.zero
 |succ f =>
  have h:=Reads.struct (P:=Tryz.prog) (t:=56) (f:=f) (Qs:=[QInt .i64,QInt .i64,QInt .i64,QInt .i64,QInt .u64,QInt .u64,QMats,QInts,z8l,QDRuW,z6r,QBytA]) Tryz.underlying56 (by kernel_rfl) rfl (by
   intro p hp;simp only[List.zip_cons_cons,List.zip_nil_right,List.mem_cons,List.not_mem_nil,or_false]at hp;rcases hp with rfl|rfl|rfl|rfl|rfl|rfl|rfl|rfl|rfl|rfl|rfl|rfl
   · exact Reads.int Tryz.underlying3 f
   · exact Reads.int Tryz.underlying3 f
   · exact Reads.int Tryz.underlying3 f
   · exact Reads.int Tryz.underlying3 f
   · exact Reads.int Tryz.underlying45 f
   · exact Reads.int Tryz.underlying45 f
   · exact z47 f
   · exact z5J f
   · exact z4h f
   · exact z7h f
   · exact Reads.floatW Tryz.underlying23 f
   · exact za8 f)
  refine h.mono fun xs hq=>?_
  obtain⟨_,_,rfl,⟨what,_,rfl⟩,_,_,rfl,⟨who,_,rfl⟩,_,_,rfl,⟨id,_,rfl⟩,_,_,rfl,⟨sta,_,rfl⟩,_,_,rfl,⟨st,hst,rfl⟩,_,_,rfl,⟨en,hen,rfl⟩,
   _,_,rfl,⟨ds,hd,rfl⟩,_,_,rfl,⟨ns,rfl⟩,_,_,rfl,⟨sel,lo,hi,h1,h2,rfl⟩,_,_,rfl,⟨ru,h3,h4,rfl⟩,_,_,rfl,⟨val,hv,rfl⟩,_,_,rfl,⟨raw,rfl⟩,rfl⟩:=hq
  obtain⟨a1,a2⟩:=wf64i hst;obtain⟨b1,b2⟩:=wf64i hen;obtain⟨n,rfl⟩:=Int.eq_ofNat_of_zero_le a1;obtain⟨m,rfl⟩:=Int.eq_ofNat_of_zero_le b1;exact⟨⟨what,who,id,sta,n,m,ds,ns,sel,lo,hi,ru,val,raw,hd,by omega,by omega⟩,⟨hv,⟨h1,h2⟩,⟨h3,h4⟩⟩,rfl⟩
theorem z8t {H:Type} {enc:TypeId×Value→H} {W:World} {base:Nat} {v:Value} {d:DataW H} {ps:List MemPlace} (hv:Value.okWide Tryz.prog W .any base 56 v)
  (h:DataW.Trod enc Tryz.prog W 0 (fun _=>true) true 56 v d ps):∃a:AcM,ActSz a∧Rep noM noR W (acV a) v:=by
 obtain⟨cs,rfl,_⟩:=okWide_struct Tryz.underlying56 hv;obtain⟨xs,h1,r,h2,rfl⟩:=Reads.argS zbR h;exact⟨r,h2,h1⟩
end Go.Proofs.YtmkmhhjkdaklbaaGreat
namespace Go.Proofs.YtmkmhhjkdaklbaaGreat
open Go Go.Ab Go.Cod
set_option maxRecDepth 100000
abbrev S0:ByteArray:=⟨#[45]⟩
theorem hn_0:(S0.toList==(⟨#[]⟩:ByteArray).toList)=false:=by decide +kernel
abbrev S1:ByteArray:=⟨#[73]⟩
theorem hn_1:(S1.toList==(⟨#[]⟩:ByteArray).toList)=false:=by decide +kernel
abbrev S3:ByteArray:=⟨#[73,84]⟩
theorem hn_3:(S3.toList==(⟨#[]⟩:ByteArray).toList)=false:=by decide +kernel
abbrev S116:ByteArray:=⟨#[83,69,77,66]⟩
theorem zfl:(S116.toList==(⟨#[]⟩:ByteArray).toList)=false:=by decide +kernel
abbrev S117:ByteArray:=⟨#[73,83,69,77,66]⟩
theorem zfm:(S117.toList==(⟨#[]⟩:ByteArray).toList)=false:=by decide +kernel
abbrev S8:ByteArray:=⟨#[90]⟩
theorem hn_8:(S8.toList==(⟨#[]⟩:ByteArray).toList)=false:=by decide +kernel
abbrev S128:ByteArray:=⟨#[82]⟩
theorem zfn:(S128.toList==(⟨#[]⟩:ByteArray).toList)=false:=by decide +kernel
abbrev S768:ByteArray:=⟨#[76,86]⟩
theorem zfo:(S768.toList==(⟨#[]⟩:ByteArray).toList)=false:=by decide +kernel
abbrev S16:ByteArray:=⟨#[77]⟩
theorem hn_16:(S16.toList==(⟨#[]⟩:ByteArray).toList)=false:=by decide +kernel
attribute [go_sem] Bool.not_false Bool.not_true hn_0 hn_1 hn_3 zfl zfm hn_8 zfn zfo hn_16
end Go.Proofs.YtmkmhhjkdaklbaaGreat
namespace Go.Ab
open Go
theorem L.step {P:Program} {n0:Nat} {clr:List Tmp} {x:ACode} {k:List Fr} {B:Bs} {env:Env} {σ:St}
  (h:∀J:Env→St→Prop,(∀env σ,L P n0 clr x k B env σ→J env σ)→R P n0 x (.loop J clr::k) B env σ):L P n0 clr x k B env σ:=by
 unfold L;intro I hI;refine hI _ _ (h I fun env' σ' hl=>?_)
 unfold L at hl;exact hl I hI
end Go.Ab
namespace Go.Proofs.YtmkmhhjkdaklbaaGreat
open Go Go.Ab Go.Cod
set_option maxRecDepth 100000
section
variable (σ:St) (p:Nat) (b:Byt) (hb:b.length≤50000)
include hb in
end
end Go.Proofs.YtmkmhhjkdaklbaaGreat
namespace Go.Proofs.YtmkmhhjkdaklbaaGreat
open Go Go.Ab Go.Cod
set_option maxRecDepth 100000
theorem sz_0:((S0.size:Nat):Int)=1:=rfl
theorem ds_0:(S0.toList==(⟨#[45]⟩:ByteArray).toList)=true:=by decide +kernel
theorem sz_1:((S1.size:Nat):Int)=1:=rfl
theorem ds_1:(S1.toList==(⟨#[45]⟩:ByteArray).toList)=false:=by decide +kernel
theorem sz_3:((S3.size:Nat):Int)=2:=rfl
theorem ds_3:(S3.toList==(⟨#[45]⟩:ByteArray).toList)=false:=by decide +kernel
theorem zfp:((S116.size:Nat):Int)=4:=rfl
theorem zfq:(S116.toList==(⟨#[45]⟩:ByteArray).toList)=false:=by decide +kernel
theorem zfr:((S117.size:Nat):Int)=5:=rfl
theorem zfs:(S117.toList==(⟨#[45]⟩:ByteArray).toList)=false:=by decide +kernel
theorem sz_8:((S8.size:Nat):Int)=1:=rfl
theorem ds_8:(S8.toList==(⟨#[45]⟩:ByteArray).toList)=false:=by decide +kernel
theorem zft:((S128.size:Nat):Int)=1:=rfl
theorem zfu:(S128.toList==(⟨#[45]⟩:ByteArray).toList)=false:=by decide +kernel
theorem zfv:((S768.size:Nat):Int)=2:=rfl
theorem zfw:(S768.toList==(⟨#[45]⟩:ByteArray).toList)=false:=by decide +kernel
theorem sz_16:((S16.size:Nat):Int)=1:=rfl
theorem ds_16:(S16.toList==(⟨#[45]⟩:ByteArray).toList)=false:=by decide +kernel
theorem wk0:IntKind.i64.wrap 0=0:=rfl
theorem zk0:Int.toNat 0=0:=rfl
theorem wk1:IntKind.i64.wrap 1=1:=rfl
theorem zk1:Int.toNat 1=1:=rfl
theorem wk2:IntKind.i64.wrap 2=2:=rfl
theorem zk2:Int.toNat 2=2:=rfl
theorem wk3:IntKind.i64.wrap 3=3:=rfl
theorem zk3:Int.toNat 3=3:=rfl
theorem wk4:IntKind.i64.wrap 4=4:=rfl
theorem zk4:Int.toNat 4=4:=rfl
theorem wk5:IntKind.i64.wrap 5=5:=rfl
theorem zk5:Int.toNat 5=5:=rfl
attribute [go_sem] wk0 wk1 wk2 wk3 wk4 wk5 zk0 zk1 zk2 zk3 zk4 zk5 z06 z35 z37 z1b g0 g1 s0 s1 Int.le_refl sz_0 ds_0 sz_1 ds_1 sz_3 ds_3 zfp zfq zfr zfs sz_8 ds_8 zft zfu zfv zfw sz_16 ds_16
end Go.Proofs.YtmkmhhjkdaklbaaGreat
namespace Go.Proofs.YtmkmhhjkdaklbaaGreat
open Go Go.Ab
set_option maxRecDepth 100000
def c34:ACode :=
 (sq_ [pr_ 0 mf_]
 (sq_ [pr_ 6 (.build z19_ [(0,1,(.const (.string (ByteArray.mk #[114,111,111,116])))),(1,1,(.const (.int .i64 1)))]),
 pr_ 1 (.allocm z19_),
 st_ (so_ 19 1 6)]
 (sq_ [pr_ 8 (.bsl true 1 false 6 [.pl (.int .u8 0)] [(0,1,(.const (.int .u8 4))),(1,1,(.const (.int .u8 114))),(2,1,(.const (.int .u8 111))),(3,1,(.const (.int .u8 111))),(4,1,(.const (.int .u8 116))),(5,1,(.const (.int .u8 1)))]),
 pr_ 9 (.strm (.tmp 8)),
 c1_ 10 43 9,
 mv_ 7 10,
 pr_ 11 (ex_ 0 7),
 pr_ 12 (ex_ 1 7),
 pr_ 2 (.allocm z19_),
 st_ (so_ 19 2 11),
 mv_ 3 12]
 (sq_ [pr_ 14 (.bsl true 1 false 7 [.pl (.int .u8 0)] [(0,1,(.const (.int .u8 4))),(1,1,(.const (.int .u8 114))),(2,1,(.const (.int .u8 111))),(3,1,(.const (.int .u8 111))),(4,1,(.const (.int .u8 116))),(5,1,(.const (.int .u8 1))),(6,1,(.const (.int .u8 0)))]),
 pr_ 15 (.strm (.tmp 14)),
 c1_ 16 43 15,
 mv_ 13 16,
 pr_ 17 (ex_ 0 13),
 pr_ 18 (ex_ 1 13),
 pr_ 4 (.allocm z19_),
 st_ (so_ 19 4 17),
 mv_ 5 18]
 (sq_ [pr_ 19 (lt_ 19 1),
 c1_ 20 39 19,
 pr_ 21 (.b2s (.tmp 20)),
 pr_ 22 (.bin false .eql (.tmp 21) (.const (.string (ByteArray.mk #[4,114,111,111,116,1])))),
 mv_ 23 22,
 gp_ 24 23 true (mo_ 3),
 pr_ 25 (pa_ 23 24),
 mv_ 26 25,
 gp_ 27 26 true (fa_ 0 2),
 gp_ 28 26 true (lf_ 1 27),
 gp_ 29 26 true (.bin false .eql (.tmp 28) (.const (.string (ByteArray.mk #[114,111,111,116])))),
 pr_ 30 (pa_ 26 29),
 mv_ 31 30,
 gp_ 32 31 true (fa_ 1 2),
 gp_ 33 31 true (lf_ 1 32),
 gp_ 34 31 true (bk_ .eql 33 .i64 1),
 pr_ 35 (pa_ 31 34),
 mv_ 36 35,
 gp_ 37 36 true (mo_ 5),
 gp_ 38 36 true (no_ 37),
 pr_ 39 (pa_ 36 38),
 mv_ 40 39,
 gp_ 41 40 true (lt_ 19 1),
 gc_ 42 40 true 35 [(.tmp 41)],
 pr_ 43 (pa_ 40 42),
 mv_ 44 43,
 gp_ 45 44 true (lt_ 19 1),
 gc_ 46 44 true 37 [(.tmp 45)],
 gp_ 47 44 true (.b2s (.tmp 46)),
 gp_ 48 44 true (.bin false .eql (.tmp 47) (.const (.string (ByteArray.mk #[1])))),
 pr_ 49 (pa_ 44 48),
 mv_ 0 49]
 .ret)))))
def o34:List Tmp:=[1,2,4,8,14]
def r34:List RV:=[.tmp 0]
theorem t34:Text Tryz.prog 34 o34 c34 r34 50:=.mk_ Tryz.f34 rfl
def c11:ACode :=
 (sq_ [pr_ 2 (.boxr (.tmp 0)),
 pr_ 3 (.boxr (.tmp 1)),
 pr_ 4 mf_]
 (.seq (.draw [⟨pr_ 7 (lt_ 19 2),[],false,0,0⟩,
 ⟨c1_ 8 41 7,[0],true,0,0⟩,
 ⟨pr_ 9 (lt_ 19 3),[],false,0,1⟩,
 ⟨c1_ 10 41 9,[0,1,2],true,0,0⟩,
 ⟨⟨some 5,none,.flo 19⟩,[],false,0,2⟩,
 ⟨⟨some 6,none,.flo 19⟩,[],false,0,2⟩,
 ⟨⟨some 5,none,.adopt false 5 19 (.tmp 8)⟩,(List.range 6),true,0,0⟩,
 ⟨⟨some 6,none,.adopt false 6 19 (.tmp 10)⟩,(List.range 7),true,0,0⟩])
 (.seq (.draw [⟨pr_ 11 (lt_ 19 5),[],false,0,0⟩,
 ⟨c1_ 12 39 11,[0],true,0,0⟩,
 ⟨pr_ 13 (.b2s (.tmp 12)),[0,1],false,1,3⟩,
 ⟨pr_ 14 (lt_ 19 6),[],false,0,1⟩,
 ⟨c1_ 15 39 14,[0,1,3],true,0,0⟩,
 ⟨pr_ 16 (.b2s (.tmp 15)),[0,1,3,4],false,2,3⟩,
 ⟨pr_ 17 (bt_ .eql 13 16),(List.range 6),false,2,3⟩,
 ⟨pr_ 18 (lt_ 19 5),[],false,0,2⟩,
 ⟨pr_ 19 (lt_ 19 6),[],false,0,2⟩,
 ⟨cl_ 20 42 [(.tmp 18),(.tmp 19)],[0,1,3,4,7,8],true,0,0⟩,
 ⟨pr_ 21 (.bin true .eql (.tmp 17) (.tmp 20)),(List.range 10),false,3,3⟩,
 ⟨mv_ 22 21,(List.range 11),false,3,3⟩,
 ⟨gc_ 23 22 true 34 [],(List.range 12),true,0,0⟩,
 ⟨pr_ 24 (pa_ 22 23),(List.range 13),false,4,4⟩,
 ⟨mv_ 4 24,(List.range 14),false,4,4⟩])
 .ret)))
def o11:List Tmp:=[]
def r11:List RV:=[.tmp 4]
theorem t11:Text Tryz.prog 11 o11 c11 r11 25:=.mk_ Tryz.f11 rfl
def c14:ACode :=
 (sq_ [pr_ 3 (.boxr (.tmp 0)),
 pr_ 6 mf_]
 (.seq (sq_ [mv_ 17 1,
 pr_ 18 (.lenv (.tmp 17)),
 pr_ 19 (bk_ .gtr 18 .i64 300)]
 (.cond (.tmp 19)
 (sq_ [cl_ 20 34 [],
 mv_ 6 20]
 .ret)
 .skip))
 (sq_ [pr_ 21 (lt_ 19 3),
 c1_ 22 41 21,
 ⟨some 7,none,.fresh 19 7 (.tmp 22)⟩]
 (sq_ [pr_ 23 (lt_ 19 7),
 c1_ 24 39 23,
 mv_ 8 24]
 (sq_ [mv_ 26 8,
 c1_ 27 43 26,
 mv_ 25 27,
 pr_ 28 (ex_ 0 25),
 pr_ 29 (ex_ 1 25),
 ⟨some 9,none,.fresh 19 9 (.tmp 28)⟩,
 mv_ 10 29]
 (sq_ [pr_ 31 (lt_ 19 7),
 c1_ 32 37 31,
 c1_ 33 45 32,
 mv_ 30 33,
 pr_ 34 (ex_ 0 30),
 pr_ 35 (ex_ 1 30),
 pr_ 11 (.allocm z19_),
 st_ (so_ 19 11 34),
 mv_ 12 35]
 (.seq (.seq (.draw [⟨mv_ 36 8,[],false,0,0⟩,
 ⟨pr_ 37 (.lenv (.tmp 36)),[0],false,0,0⟩,
 ⟨pr_ 38 (bk_ .lss 37 .i64 6),[0,1],false,0,0⟩,
 ⟨mv_ 39 38,[0,1,2],false,0,0⟩,
 ⟨gp_ 40 39 false (mo_ 10),[0,1,2,3],false,0,0⟩,
 ⟨gp_ 41 39 false (no_ 40),[0,1,2,3,4],false,0,0⟩,
 ⟨pr_ 42 (po_ 39 41),(List.range 6),false,0,0⟩,
 ⟨mv_ 43 42,(List.range 7),false,0,0⟩,
 ⟨gp_ 44 43 false (mo_ 12),(List.range 8),false,0,0⟩,
 ⟨gp_ 45 43 false (no_ 44),(List.range 9),false,0,0⟩,
 ⟨pr_ 46 (po_ 43 45),(List.range 10),false,0,0⟩,
 ⟨mv_ 47 46,(List.range 11),false,0,0⟩,
 ⟨gp_ 48 47 false (lt_ 19 9),(List.range 12),false,0,0⟩,
 ⟨gp_ 49 47 false (lt_ 19 7),(List.range 12),false,0,0⟩,
 ⟨gc_ 50 47 false 42 [(.tmp 48),(.tmp 49)],(List.range 14),true,0,0⟩,
 ⟨gp_ 51 47 false (no_ 50),(List.range 15),false,1,1⟩,
 ⟨pr_ 52 (po_ 47 51),(List.range 16),false,1,1⟩,
 ⟨mv_ 53 52,(List.range 17),false,1,1⟩,
 ⟨gp_ 54 53 false (fa_ 18 9),(List.range 18),false,1,1⟩,
 ⟨gp_ 55 53 false (lf_ 1 54),(List.range 19),false,1,1⟩,
 ⟨gc_ 56 53 false 47 [(.tmp 55)],(List.range 20),true,0,0⟩,
 ⟨gp_ 57 53 false (fa_ 18 7),(List.range 18),false,1,2⟩,
 ⟨gp_ 58 53 false (lf_ 1 57),[0,1,2,3,4,5,6,7,8,9,10,11,12,13,14,15,16,17,21],false,1,2⟩,
 ⟨gc_ 59 53 false 48 [(.tmp 58)],(List.range 23),true,0,0⟩,
 ⟨gp_ 60 53 false (bt_ .neq 56 59),(List.range 24),false,3,3⟩,
 ⟨pr_ 61 (po_ 53 60),(List.range 25),false,3,3⟩])
 (.cond (.tmp 61)
 (sq_ [pr_ 6 mf_]
 .ret)
 .skip))
 (sq_ [pr_ 62 (fa_ 0 7),
 pr_ 63 (lf_ 1 62),
 pr_ 64 (fa_ 0 11),
 st_ (so_ 1 64 63)]
 (sq_ [mv_ 66 8,
 pr_ 67 (.app 1 (.const (.slice none 0 0)) (.tmp 66)),
 mv_ 68 1,
 pr_ 69 (.app 1 (.tmp 67) (.tmp 68)),
 c1_ 70 43 69,
 mv_ 65 70,
 pr_ 71 (ex_ 0 65),
 pr_ 72 (ex_ 1 65),
 ⟨some 13,none,.fresh 19 13 (.tmp 71)⟩,
 mv_ 14 72]
 (.seq (sq_ [mv_ 73 2,
 pr_ 74 (bk_ .lss 73 .i64 0)]
 (.cond (.tmp 74)
 (.ops [pr_ 2 (mi_ .i64 0)])
 .skip))
 (sq_ [mv_ 76 8,
 mv_ 77 2,
 mv_ 78 8,
 pr_ 79 (.lenv (.tmp 78)),
 pr_ 80 (bt_ .rem 77 79),
 pr_ 81 (.slcv 1 (.tmp 76) none (some (.tmp 80))),
 c1_ 82 43 81,
 mv_ 75 82,
 pr_ 83 (ex_ 0 75),
 pr_ 84 (ex_ 1 75),
 ⟨some 15,none,.fresh 19 15 (.tmp 83)⟩,
 mv_ 16 84]
 (sq_ [pr_ 85 (lt_ 19 11),
 pr_ 86 (lt_ 19 7),
 cl_ 87 42 [(.tmp 85),(.tmp 86)],
 mv_ 88 87,
 gp_ 89 88 true (mo_ 14),
 gp_ 90 88 true (mo_ 1),
 gp_ 91 88 true (.lenv (.tmp 90)),
 gp_ 92 88 true (bk_ .eql 91 .i64 0),
 gp_ 93 88 true (.bin true .eql (.tmp 89) (.tmp 92)),
 pr_ 94 (pa_ 88 93),
 mv_ 95 94,
 gp_ 96 95 true (mo_ 16),
 gp_ 97 95 true (no_ 96),
 pr_ 98 (pa_ 95 97),
 mv_ 99 98,
 gc_ 100 99 true 34 [],
 pr_ 101 (pa_ 99 100),
 mv_ 6 101]
 .ret))))))))))))
def o14:List Tmp:=[11]
def r14:List RV:=[.tmp 6]
theorem t14:Text Tryz.prog 14 o14 c14 r14 102:=.mk_ Tryz.f14 rfl
end Go.Proofs.YtmkmhhjkdaklbaaGreat
namespace Go.Proofs.YtmkmhhjkdaklbaaGreat
open Go Go.Ab Go.Cod
set_option maxRecDepth 100000
theorem z7w (b:Bool):(b==b)=true:=by cases b<;>rfl
structure ReLn (x:ReM):Prop where
 mt:x.mt.length≤1000
 src:x.ru.src.length≤1000
 tgt:x.ru.tgt.length≤1000
 eq:x.ru.eq.length≤100000
 ls:x.ls.length≤1000
theorem z4u {n:Nat} (h:emI n=true):n=0:=by unfold emI at h;simp only[beq_iff_eq]at h;omega
theorem zfx {x:ReM} (h:mayR x=true):ReLn x:=by
 unfold mayR zeroB z0i at h;generalize (fOf x.op).1=f at h;simp only[Bool.and_eq_true]at h;obtain⟨_,⟨_,_,_,_,_,_,z7,z8,_⟩,_,_,_,_,_,r6,_,_,r9,r10⟩:=h;have l1:=(z2C r6).1
 have l2:x.ru.src.length≤1000∧x.ru.tgt.length≤1000∧x.ru.eq.length≤100000:=by
  cases h128:hasF f 128 with
  |true =>
   rw[h128]at r9;obtain⟨q1,q2,q3,q4,q5⟩:=z1t (show ruIs x.ru=true from r9)
   have:=(z2C q1).1;have:=(z2C q2).1;omega
  |false =>
   rw[h128]at z7;have z7:noRl x.ru=true:=z7;unfold noRl at z7;simp only[Bool.and_eq_true]at z7;have:=z4u z7.1;have:=z4u z7.2.1;have:=z4u z7.2.2.1;omega
 have l3:x.ls.length≤1000:=by
  cases h256:hasF f 256 with
  |true =>
   rw[h256]at r10;have:=(z46 (show setB x.ls=true from r10)).1
   omega
  |false =>
   rw[h256]at z8;have:=z4u (show emI x.ls.length=true from z8)
   omega
 exact⟨by omega,l2.1,l2.2.1,l2.2.2,l3⟩
end Go.Proofs.YtmkmhhjkdaklbaaGreat
namespace Go.Proofs.YtmkmhhjkdaklbaaGreat
open Go Go.Ab Go.Cod Go.ChangeShapes Go.WideShapes Go.ChangeAt Go.RowKit
set_option maxRecDepth 100000
theorem zeq (r:RuM):([z1e r]:List Byt).flatten.length≤2000:=by
 unfold z1e
 cases h:ruIs r with
 |false=>simp
 |true =>
  have hp:=z4s h r.eq.length (Nat.le_refl _);have hl:=(z1t h).2.2.2.1;rw[z6l]at hp;simp;omega
theorem z5i (r:ReM):(z0N r).length≤4000:=by
 unfold z0N
 cases hM:mayR r with
 |false=>exact Nat.zero_le _
 |true =>
  obtain⟨op0,op1,id0,id1,htx,hst,hen,sta0,sta1,hmt,hru,hls⟩:=bd_ok hM;rw[if_pos rfl];unfold z0s putB2 putB1;have f1:∀b:Byt,([b]:List Byt).flatten=b:=fun b=>by simp
  have f2:∀b c:Byt,([b,c]:List Byt).flatten.length=b.length+c.length:=fun b c=>by simp
  refine Nat.le_trans (z0o (n:=3600) (m:=8) (z0o (n:=2600) (m:=1000) (z0o (n:=600) (m:=2000) (z0o (n:=583) (m:=17) (z0o (n:=73) (m:=510) (z0o (n:=72) (m:=1) (z0o (n:=52) (m:=20) (z0o (n:=12) (m:=40) (z0o (n:=2) (m:=10) (by simp) ?_) ?_) ?_) ?_) ?_) ?_) ?_) ?_) ?_) (by decide)<;>intro _
  · rw[f1];exact z0w (by omega)
  · rw[f1];have:=z1m r.txt (by omega);omega
  · rw[f2];have:=z0w (n:=r.st) (by omega);have:=z0w (n:=r.en) (by omega);omega
  · simp
  · exact(z5g hmt).2
  · rw[f1];exact z3O _
  · exact zeq _
  · exact z8n _
  · rw[f1];exact Nat.le_of_eq (z1E _)
theorem z8u (r:ReM):(z17 r).length≤4100:=by
 unfold z17
 cases hM:reIs r with
 |false=>exact Nat.zero_le _
 |true =>
  have h1:=z5i r;have h2:=z1m r.tok (by have:=(z24 hM).1;omega)
  have h3:=(z24 hM).1;rw[if_pos rfl,List.length_append];omega
theorem z9q {x:ReM} (h:mayR x=true) (y:ReM) (σ:St):Ans Tryz.prog 42 [reV x,reV y] σ (Bo (z2L x y)) σ:=by
 have h:=zfx h;exact za5 σ x y h.mt h.src h.tgt h.eq h.ls
theorem zfy (x y:Byt):((⟨x.toArray⟩:ByteArray).toList==(⟨y.toArray⟩:ByteArray).toList)=decide (x=y):=by
 rw[Bool.eq_iff_iff,decide_eq_true_eq,beq_iff_eq];constructor
 · intro h;have:=congrArg (fun s:ByteArray=>s.data.toList) (toList_inj h)
   simpa using this
 · intro h;rw[h]
section
variable {H:Type} {enc:TypeId×Value→H} {W:World} {base:Nat} {v:Value} {d:DataW H} {ps:List MemPlace}
end
end Go.Proofs.YtmkmhhjkdaklbaaGreat
namespace Go.Proofs.YtmkmhhjkdaklbaaGreat
open Go Go.Ab Go.Cod
set_option maxRecDepth 100000
theorem g4q (σ:St) (x y z u w:Ob) (ex:St):(σ++x::y::z::u::w::ex)[σ.length+4]?=some w:=by rw[List.getElem?_append_right (by simp)];simp
theorem s4q (σ:St) (x y z u v w:Ob) (ex:St):(σ++x::y::z::u::v::ex).set (σ.length+4) w=σ++x::y::z::u::w::ex:=by rw[List.set_append_right _ _ (by simp)];simp
def rootR:ReM:=⟨⟨#[114,111,111,116]⟩,1,0,⟨#[]⟩,0,0,0,[],false,0,0,⟨[],[],false,0,0,[]⟩,[],0⟩
theorem zbS:reIs rootR=true:=by kernel_rfl
theorem zd4:mayR rootR=true:=by kernel_rfl
theorem z7x:z0N rootR=[1]:=by
 unfold z0N;rw[if_pos zd4]
 kernel_rfl
theorem za9:z17 rootR=[4,114,111,111,116,1]:=by
 unfold z17 txtB;rw[if_pos zbS,z7x,z2S (by decide)]
 rfl
theorem zbT:wholeO (reqR [4,114,111,111,116,1])=some rootR:=by kernel_rfl
theorem zbU:wholeO (reqR [4,114,111,111,116,1,0])=none:=by kernel_rfl
def rootZ:AV:=.agg [Sx ⟨#[114,111,111,116]⟩,I 1,I 0,Sx .empty,UN 0,UN 0,I 0,.nils,Bo false,Fl 0,Fl 0,.nils,.nils,Bo false,Fl 0,Fl 0,.nils,.nils,Fl 0]
theorem z6x:Sub rootZ (reV rootR):=.agg (.cons (.refl _) (.cons (.refl _) (.cons (.refl _) (.cons (.refl _) (.cons (.refl _) (.cons (.refl _) (.cons (.refl _) (.cons (.nils 3) (.cons (.refl _) (.cons (.refl _) (.cons (.refl _) (.cons (.nils 3) (.cons (.nils 3) (.cons (.refl _) (.cons (.refl _) (.cons (.refl _) (.cons (.nils 1) (.cons (.nils 2) (.cons (.refl _) .nil)))))))))))))))))))
theorem rq_b (σ:St):Ans Tryz.prog 34 [] σ (Bo true) σ:=by
 have q1:=fun s=>z1X s [4,114,111,111,116,1] (by decide)
 have q2:=fun s=>z1X s [4,114,111,111,116,1,0] (by decide)
 rw[zbT]at q1;rw[zbU]at q2;have p1:=fun s=>(z25 s rootR).subA (.cons z6x .nil)
 have p2:=fun s=>(z9k s rootR).subA (.cons z6x .nil)
 have p3:=fun s=>(z6w s rootR).subA (.cons z6x .nil)
 rw[za9]at p1;rw[zbS]at p2;rw[z7x]at p3;unfold z1W rootR reV reC at q1;unfold z1W noRe reV reC at q2;unfold rootZ at p1 p2 p3;simp only[byv,List.map_cons,List.map_nil]at q1 q2;obtain⟨B1,e1⟩:∃B:Byt,B=[4,114,111,111,116,1]:=⟨_,rfl⟩;obtain⟨B2,e2⟩:∃B:Byt,B=[1]:=⟨_,rfl⟩;have h1:((⟨B1.toArray⟩:ByteArray).toList==(ByteArray.mk #[4,114,111,111,116,1]).toList)=true:=by rw[e1];decide +kernel
 have h2:((⟨B2.toArray⟩:ByteArray).toList==(ByteArray.mk #[1]).toList)=true:=by rw[e2];decide +kernel
 rw[←e1]at p1;rw[←e2]at p3;refine Ans.of_run' t34 (fun hbel _=>?_)
 simp -implicitDefEqProofs only[c34,r34,go_sem,List.append_assoc,List.cons_append,List.nil_append,List.length_append,List.length_cons,List.length_nil,g0,s0,g1,s1,g2,s2,g3,s3,g4q,s4q];refine CO.intro (q1 _) ?_;simp -implicitDefEqProofs only[go_sem,List.append_assoc,List.cons_append,List.nil_append,List.length_append,List.length_cons,List.length_nil,g0,s0,g1,s1,g2,s2,g3,s3,g4q,s4q];refine CO.intro (q2 _) ?_;simp -implicitDefEqProofs only[go_sem,List.append_assoc,List.cons_append,List.nil_append,List.length_append,List.length_cons,List.length_nil,g0,s0,g1,s1,g2,s2,g3,s3,g4q,s4q];refine CO.intro (p1 _) ?_;simp -implicitDefEqProofs only[go_sem,List.append_assoc,List.cons_append,List.nil_append,List.length_append,List.length_cons,List.length_nil,g0,s0,g1,s1,g2,s2,g3,s3,g4q,s4q,z15,bc,z2o,z2p,AV.isStr,h1];refine CO.intro (p2 _) ?_;simp -implicitDefEqProofs only[go_sem,List.append_assoc,List.cons_append,List.nil_append,List.length_append,List.length_cons,List.length_nil,g0,s0,g1,s1,g2,s2,g3,s3,g4q,s4q];refine CO.intro (p3 _) ?_;simp -implicitDefEqProofs only[go_sem,List.append_assoc,List.cons_append,List.nil_append,List.length_append,List.length_cons,List.length_nil,g0,s0,g1,s1,g2,s2,g3,s3,g4q,s4q,z15,bc,z2o,z2p,AV.isStr,h2];exact Fini.trim2 (σ':=σ) rfl rfl (Nat.le_refl _) (.pl _) hbel
theorem z7y (a c:AcM) (ha:ActSz a) (hc:ActSz c):Ans Tryz.prog 11 [acV a,acV c] [] (.pl (.bool true)) []:=by
 have u1:=fun s=>z3v s a
 have u2:=fun s=>z3v s c
 have i1:=z49 a;have i2:=z49 c;have w1:=z5h ha;have w2:=z5h hc;have m1:=z5f a;generalize z05 a=r at u1 i1 w1 m1;generalize z05 c=o at u2 i2 w2;have p1:=fun s=>z25 s r
 have p2:=fun s=>z25 s o
 have s1:=fun s=>z9q m1 o s
 simp only[za7 i1 w1 i2 w2]at s1;generalize z17 r=x at p1 s1;generalize z17 o=y at p2 s1;have te:=zfy x y;generalize decide (x=y)=v at te s1;have e0:=z7w v;unfold acV acC at u1 u2⊢;unfold reV reC at *;refine Ans.of_run t11 ?_;simp -implicitDefEqProofs only[c11,r11,go_sem];refine CD.intro (u1 _) ?_;simp -implicitDefEqProofs only[go_sem];refine CD.intro (u2 _) ?_;simp -implicitDefEqProofs only[go_sem];refine CD.intro (p1 _) ?_;simp -implicitDefEqProofs only[go_sem,z15,bc,z2o,z2p,AV.isStr];refine CD.intro (p2 _) ?_;simp -implicitDefEqProofs only[go_sem,z15,bc,z2o,z2p,AV.isStr,te];refine CD.intro (s1 _) ?_;simp -implicitDefEqProofs only[go_sem,e0];refine CD.intro (rq_b _) ?_;simp -implicitDefEqProofs only[go_sem];exact Fini.ret rfl
end Go.Proofs.YtmkmhhjkdaklbaaGreat
