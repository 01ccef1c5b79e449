/- What a row's closed facts ask of the program alone: reckoned once. No condition. -/
import Derived.Test.YtmkmhhjkdaklbaaGreatRows
import Derived.Test.YtmkmhhjkdaklbaaGreatAbArgv
import Derived.Test.YtmkmhhjkdaklbaaGreatRcR0v
import Derived.Test.YtmkmhhjkdaklbaaGreatRd4v
import Derived.Test.YtmkmhhjkdaklbaaGreatRq2bv
import Derived.Test.YtmkmhhjkdaklbaaGreatRd3v
import Derived.Test.YtmkmhhjkdaklbaaGreatXMr3v
import Derived.Test.YtmkmhhjkdaklbaaGreatRd6v
import Derived.Test.YtmkmhhjkdaklbaaGreatXMt1v
import Derived.Test.YtmkmhhjkdaklbaaGreatXVi5v
import Derived.Test.YtmkmhhjkdaklbaaGreatXMCode1v
import Derived.Test.YtmkmhhjkdaklbaaGreatRc4v
import Derived.Test.YtmkmhhjkdaklbaaGreatAbTreev
import Derived.Test.YtmkmhhjkdaklbaaGreatXMCode2v
import Derived.Test.YtmkmhhjkdaklbaaGreatProg
import Derived.Test.YtmkmhhjkdaklbaaGreatAbStepv
set_option linter.unusedSimpArgs false
set_option linter.unusedVariables false
set_option linter.unusedSectionVars false
namespace Go.Proofs.YtmkmhhjkdaklbaaGreat
open Go
theorem and_t {a b:Bool} (h1:a=true) (h2:b=true):(a&&b)=true:=by rw[h1,h2];rfl
theorem z9T:laidOutB Tryz.pinned.checked.prog=true:=by kernel_rfl
theorem z7N:Tryz.pinned.checked.prog.stopsHeard=true:=by kernel_rfl
theorem z7O:Tryz.pinned.checked.prog.mayEnter=true:=by kernel_rfl
theorem zfs:Tryz.pinned.checked.prog.liftsFinal=false:=by kernel_rfl
theorem zdG {a:Bool} (h:a=false):(a==Tryz.pinned.checked.prog.liftsFinal)=true:=by rw[h,zfs];rfl
end Go.Proofs.YtmkmhhjkdaklbaaGreat
namespace Go.Proofs.YtmkmhhjkdaklbaaGreat
open Go Go.Ab Go.Cod
set_option maxRecDepth 100000
theorem z7P (r:RcM):Ans Tryz.prog 5 [rcV r] [] (.pl (.bool true)) []:=by
 have d8:decide ((800:Int)<r.bd.length)=decide (800<r.bd.length):=decNN 800 _;refine Ans.of_run t5 ?_;by_cases h8:800<r.bd.length
 · rw[decide_eq_true h8]at d8;unfold rcV rcC;simp -implicitDefEqProofs only[c5,r5,go_sem,z01,d8];refine CO.intro (rd_b _) ?_;simp -implicitDefEqProofs only[go_sem];exact Fini.ret rfl
 · rw[decide_eq_false h8]at d8;have p1:=fun s=>z4t s r (by omega)
   have p2:=fun s=>z4u s r (by omega)
   have p3:=fun s=>z45 s r (by omega)
   have p4:=fun s=>z50 s r (by omega)
   have e0:(rcIs r==rcIs r)=true:=by cases rcIs r<;>rfl
   generalize z1S r=bl at p3 p4;generalize rcIs r=v at p1 p2 e0;unfold rcV rcC at *;simp -implicitDefEqProofs only[c5,r5,go_sem,z01,d8];refine CD.intro (p1 _) ?_;simp -implicitDefEqProofs only[go_sem];refine CD.intro (p2 _) ?_;simp -implicitDefEqProofs only[go_sem,e0];refine CD.intro (p3 _) ?_;simp -implicitDefEqProofs only[go_sem,z0l,bc,z1j,z17,AV.isStr];refine CD.intro (p4 _) ?_;simp -implicitDefEqProofs only[go_sem,z0l,bc,z1j,z17,AV.isStr,BEq.rfl];refine CD.intro (rd_b _) ?_;simp -implicitDefEqProofs only[go_sem];exact Fini.ret rfl
def preS (L:List Lab) (i:Nat):Byt:=putN L.length++z1e putLb (L.take i)
theorem z8Z (L:List Lab) (i:Nat) (h:i<L.length):preS L (i+1)=preS L i++(txtB L[i].1++txtB L[i].2):=by
 unfold preS z1e;rw[List.take_succ_eq_append_getElem h,List.flatMap_append,List.append_assoc];simp[putLb]
theorem zaV (L:List Lab):preS L L.length=z67 L:=by unfold preS z67 z2C;rw[List.take_length]
theorem z90 (L:List Lab):preS L 0=putN L.length:=by unfold preS z1e;simp
theorem z7U {L:List Lab} (h:setB L=true):∀i,i≤L.length→(preS L i).length≤10+60*i
 |0,_=>by rw[z90];have:=z0v (n:=L.length) (by have:=(z43 h).1;omega);omega
 |i+1,hi=>by
  have ih:=z7U h i (by omega)
  have hx:=(z43 h).2 L[i] (List.getElem_mem (by omega))
  have h1:=z2e L[i].1 (by omega)
  have h2:=z2e L[i].2 (by omega)
  rw[z8Z L i (by omega),List.length_append,List.length_append]
  omega
def z3v (L:List Lab):Byt:=if setB L then z67 L else[]
section
variable (σ:St)
theorem z9U (L:List Lab) (hL:∀x∈L,x.1.size≤100000):Ans Tryz.prog 96 [.sl 2 (lvs L)] σ (.sl 1 (byv (z3v L))) σ:=by
 have hi:=fun s=>z27 s L hL
 unfold z3v
 cases hR:setB L with
 |false =>
  have:Ans Tryz.prog 96 [.sl 2 (lvs L)] σ .nils σ:=by
   refine Ans.of_run t96 ?_;simp -implicitDefEqProofs only[c96,r96,go_sem];refine CO.intro (hi _) ?_;rw[hR];simp -implicitDefEqProofs only[go_sem];exact Fini.ret rfl
  exact this.subR (.nils 1)
 |true =>
  obtain⟨h1,h2⟩:=z43 hR;have hpl:=z7U hR;have n1:=fun s=>z4p s L.length (by omega)
  rw[←z90]at n1;have hw:=z1k (n:=L.length) (by omega)
  refine Ans.of_run' t96 (fun hbel _=>?_)
  simp -implicitDefEqProofs only[c96,r96,go_sem];refine CO.intro (hi _) ?_;rw[hR];simp -implicitDefEqProofs only[go_sem,z0m,hw];refine CO.intro (n1 _) ?_;simp -implicitDefEqProofs only[go_sem,z0m];refine Go.Ab.L.count L.length (fun i=>mkE 34 [(0,.sl 2 (lvs L)),(3,.osl σ.length (preS L i).length),(4,I i)]) (fun i=>σ++[.row 1 (byv (preS L i))]) ?_ ?_ rfl rfl
  · intro i hi J hJ;have hx:=lvs_D L i hi;rw[List.getD_eq_getElem?_getD,List.getElem?_eq_getElem hi,Option.getD_some]at hx;have hs:=h2 L[i] (List.getElem_mem hi);have hp:=hpl (i+1) (by omega)
    rw[z8Z L i hi]at hJ hp;generalize L[i]=s at hx hs hJ hp;generalize preS L i=pre at hJ hp⊢;have hin:=wrap_succ (i:=i) (by omega)
    rw[List.length_append,List.length_append]at hp hJ;have l1:pre.length+(txtB s.1).length≤4294967296:=by omega
    have l2:pre.length+(txtB s.1).length+(txtB s.2).length≤4294967296:=by omega
    simp -implicitDefEqProofs only[mkE,go_sem,z0m,z09 hi,dec_lt hi,hx];refine CD.intro (z1F _ s.1 (by omega)) ?_
    simp -implicitDefEqProofs only[go_sem,g0,s0,z01,z0l,bc,l1,z0m,z09 hi,hx];refine CD.intro (z1F _ s.2 (by omega)) ?_
    simp -implicitDefEqProofs only[go_sem,g0,s0,z01,z0l,bc,l1,l2,hin,List.length_append];simp only[z0r,List.append_assoc,Nat.add_assoc]at hJ⊢;exact hJ
  · intro J;have d0:decide ((L.length:Int)<L.length)=false:=by simp
    simp -implicitDefEqProofs only[mkE,go_sem,z0m,d0,g0,s0,z01,zaV];exact Fini.trim2 (σ':=σ) (ex:=[_]) rfl rfl (Nat.le_refl _) (z1Q _ _) hbel
end
def opC (op:Int):UInt8:=op.toNat.toUInt8
def layF (f k:Int) (ps:List Byt) (B:Byt):Byt:=if hasF f k then B++ps.flatten else B
def putB1 (f:Int) (r:ReM):Byt:=layF f 4 [putN r.st,putN r.en] (layF f 2 [txtB r.txt] (layF f 1 [putN r.id.toNat] [opC r.op]))
def putB2 (f:Int) (r:ReM):Byt:=layF f 64 [putBd (r.any,r.lo,r.hi)] (layF f 16 [z3t r.mt] (layF f 8 [[opC r.sta]] (putB1 f r)))
def z0C (f:Int) (r:ReM):Byt:=layF f 512 [putV r.val] (layF f 256 [z3v r.ls] (layF f 128 [z24 r.ru] (putB2 f r)))
def z75 (r:ReM):Byt:=if mayR r then z0C (fOf r.op).1 r else[]
theorem zaW {c:Int} (h:0≤c) (h1:c≤17):IntKind.u8.wrap c=(((opC c).toNat:Nat):Int):=by
 obtain⟨n,rfl⟩:=Int.eq_ofNat_of_zero_le h;have:n<18:=by omega
 match n,this with
 |0,_|1,_|2,_|3,_|4,_|5,_|6,_|7,_|8,_|9,_|10,_|11,_|12,_|13,_|14,_|15,_|16,_|17,_=>rfl
section
variable (σ:St)
theorem z2x {f k:Int} {ps:List Byt} {B:Byt} {n m:Nat} (hB:B.length≤n) (hp:hasF f k=true→ps.flatten.length≤m):(layF f k ps B).length≤n+m:=by
 unfold layF;split
 · rename_i h;have:=hp h;rw[List.length_append];omega
 · omega
structure BdOk (r:ReM):Prop where
 op0:0≤r.op
 op1:r.op≤17
 id0:0≤r.id
 id1:r.id≤2147483647
 txt:r.txt.size≤16
 st:r.st≤1099511627776
 en:r.en≤1099511627776
 sta0:0≤r.sta
 sta1:r.sta≤3
 mt:listB r.mt=true
 ru:hasF (fOf r.op).1 128=true→ruIs r.ru=true
 ls:hasF (fOf r.op).1 256=true→setB r.ls=true
theorem bd_ok {r:ReM} (h:mayR r=true):BdOk r:=by
 have hop:1≤r.op∧r.op≤17:=by
  have:(fOf r.op).2=true:=by unfold mayR at h;simp only[Bool.and_eq_true]at h;exact h.1
  unfold fOf at this;split at this
  · assumption
  · cases this
 unfold mayR at h;simp only[Bool.and_eq_true]at h;obtain⟨_,hz,hr⟩:=h;unfold zeroB at hz;unfold z0n idR clkB staR at hr;simp only[Bool.and_eq_true,Bool.or_eq_true,decide_eq_true_eq,Bool.not_eq_true']at hz hr;obtain⟨hid,htx,hst,hen,hsta,hmt,_,_,hru,hls⟩:=hr;refine⟨by omega,hop.2,hid.1,hid.2,?_,by omega,by omega,hsta.1,hsta.2,hmt,fun h=>?_,fun h=>?_⟩
 · rcases htx with h|h
   · rcases hz.2.1 with h'|h'
     · rw[h]at h';cases h'
     · unfold emS at h';have:=eq_of_beq h';rw[ByteArray.toList_eq,ByteArray.toList_eq]at this;have h0:r.txt.size=0:=by rw[←z1E,this];rfl
       omega
   · unfold tokB at h;simp only[Bool.and_eq_true,decide_eq_true_eq]at h;omega
 · rcases hru with h'|h'
   · rw[h]at h';cases h'
   · exact h'
 · rcases hls with h'|h'
   · rw[h]at h';cases h'
   · exact h'
theorem z91 {M:List Mtr} (h:listB M=true):0<([z3t M]:List Byt).flatten.length∧([z3t M]:List Byt).flatten.length≤510:=by
 have e:z3t M=putL M:=by unfold z3t;rw[h];rfl
 have:=zaG M;have:=z7z h;simp only[List.flatten_cons,List.flatten_nil,List.append_nil,e];omega
theorem zdJ {r:RuM} (h:ruIs r=true):0<([z24 r]:List Byt).flatten.length∧([z24 r]:List Byt).flatten.length≤100000:=by
 have e:z24 r=putR r:=by unfold z24;rw[h];rfl
 have h0:=z7y r;have h1:=z5e h r.eq.length (Nat.le_refl _);have h5:=(z1M h).2.2.2.1;rw[h0]at h1
 have hp:0<(putR r).length:=by
  have:=zaG r.src;unfold putR;simp only[List.length_append];omega
 simp only[List.flatten_cons,List.flatten_nil,List.append_nil,e];omega
theorem zdK {L:List Lab} (h:setB L=true):0<([z3v L]:List Byt).flatten.length∧([z3v L]:List Byt).flatten.length≤1000:=by
 have e:z3v L=z67 L:=by unfold z3v;rw[h];rfl
 have h0:=zaV L;have h1:=z7U h L.length (Nat.le_refl _);have h2:=(z43 h).1;rw[h0]at h1
 have hp:0<(z67 L).length:=by
  have:=zcl L.length;unfold z67 z2C
  cases h:putN L.length with
  |nil=>exact absurd h this
  |cons a b=>simp
 simp only[List.flatten_cons,List.flatten_nil,List.append_nil,e];omega
end
theorem zh3 (r:RuM):([z24 r]:List Byt).flatten.length≤100000:=by
 cases h:ruIs r with
 |true=>exact(zdJ h).2
 |false=>unfold z24;rw[h];exact Nat.zero_le _
theorem zdL (L:List Lab):([z3v L]:List Byt).flatten.length≤1000:=by
 cases h:setB L with
 |true=>exact(zdK h).2
 |false=>unfold z3v;rw[h];exact Nat.zero_le _
section
variable (σ:St)
end
end Go.Proofs.YtmkmhhjkdaklbaaGreat
namespace Go.Ab
open Go Go.ChangeShapes Go.WideShapes
def z7V:List AV→Prop:=fun xs=>∃n:Nat,n<2^64∧xs=[.pl (.float .f64 n)]
theorem Reads.floatW {P:Program} {t:TypeId} (ht:P.underlying t=some (.float .f64)) (f:Nat):Reads P t f z7V:=by
 intro H enc W cs x h
 have:∃n,n<2^64∧cs=[.float .f64 n]:=by
  cases f with
  |zero=>simp[DataW.trod]at h
  |succ n =>
   unfold DataW.trod at h;rw[ht]at h;split at h<;>simp_all [Lit.wf]
   rename_i heq;subst heq;simp only at h;have h:=(Option.ite_none_right_eq_some.1 h).1;exact⟨of_decide_eq_true h.2,h.1⟩
 obtain⟨n,hn,rfl⟩:=this;exact⟨_,z3m (.pl _),n,hn,rfl⟩
end Go.Ab
namespace Go.Proofs.YtmkmhhjkdaklbaaGreat
open Go Go.Ab Go.Cod Go.ChangeShapes Go.WideShapes Go.ChangeAt Go.RowKit
set_option maxRecDepth 100000
theorem toList_inj {a b:ByteArray} (h:a.toList=b.toList):a=b:=by
 rw[ByteArray.toList_eq,ByteArray.toList_eq]at h;cases a;cases b;simpa using h
section
variable (σ:St)
end
def z9V:List AV→Prop:=fun xs=>∃(b:Int) (lo hi:Nat),lo<2^64∧hi<2^64∧xs=[I b,Fl lo,Fl hi]
def QDRuW:List AV→Prop:=fun xs=>∃d:RuD,d.lo<2^64∧d.hi<2^64∧xs=duC d
theorem z51 (f:Nat):Reads Tryz.prog 39 f z9V:=by
 cases f with
 |zero=>exact Reads.zero
 |succ f =>
  have h:=Reads.struct (P:=Tryz.prog) (t:=39) (f:=f) (Qs:=[QInt .i64,z7V,z7V]) Tryz.underlying39 (by kernel_rfl) rfl (by
   intro p hp;simp only[List.zip_cons_cons,List.zip_nil_right,List.mem_cons,List.not_mem_nil,or_false]at hp;rcases hp with rfl|rfl|rfl
   · exact Reads.int Tryz.underlying3 f
   · exact Reads.floatW Tryz.underlying23 f
   · exact Reads.floatW Tryz.underlying23 f)
  refine h.mono fun xs hq=>?_
  obtain⟨_,_,rfl,⟨k,_,rfl⟩,_,_,rfl,⟨n,hn,rfl⟩,_,_,rfl,⟨v,hv,rfl⟩,rfl⟩:=hq;exact⟨k,n,v,hn,hv,rfl⟩
theorem z92 (f:Nat):Reads Tryz.prog 42 f QDRuW:=by
 cases f with
 |zero=>exact Reads.zero
 |succ f =>
  have h:=Reads.struct (P:=Tryz.prog) (t:=42) (f:=f) (Qs:=[QMats,QMats,z9V,QInts]) Tryz.underlying42 (by kernel_rfl) rfl (by
   intro p hp;simp only[List.zip_cons_cons,List.zip_nil_right,List.mem_cons,List.not_mem_nil,or_false]at hp;rcases hp with rfl|rfl|rfl|rfl
   · exact z4K f
   · exact z4K f
   · exact z51 f
   · exact z71 f)
  refine h.mono fun xs hq=>?_
  obtain⟨_,_,rfl,⟨M,hM,rfl⟩,_,_,rfl,⟨N,hN,rfl⟩,_,_,rfl,⟨b,lo,hi,h1,h2,rfl⟩,_,_,rfl,⟨e,rfl⟩,rfl⟩:=hq;exact⟨⟨M,N,b,lo,hi,e,hM,hN⟩,h1,h2,rfl⟩
end Go.Proofs.YtmkmhhjkdaklbaaGreat
namespace Go.Proofs.YtmkmhhjkdaklbaaGreat
open Go Go.Ab Go.Cod
set_option maxRecDepth 100000
theorem zh4 {α:Type} (l:List α):emI l.length=true↔l=[]:=by
 unfold emI;rw[beq_iff_eq,←List.length_eq_zero_iff];omega
theorem zim (v:Nat):zF v=true↔v=0:=by
 unfold zF;rw[beq_iff_eq];exact⟨fun h=>z3b (Int.ofNat.inj h),fun h=>by rw[h,z8T];rfl⟩
theorem zft (x:Bnd):noBd x=true↔x=(false,0,0):=by
 obtain⟨a,lo,hi⟩:=x;unfold noBd;simp only[Bool.and_eq_true,zim,Bool.not_eq_true',Prod.mk.injEq]
theorem zfu (r:RuM):noRl r=true↔r=noRu:=by
 obtain⟨a,b,c,lo,hi,e⟩:=r;unfold noRl noRu;simp only[Bool.and_eq_true,zh4,zft,RuM.mk.injEq,Prod.mk.injEq];constructor
 · rintro⟨rfl,rfl,rfl,rfl,rfl,rfl⟩;simp
 · rintro⟨rfl,rfl,rfl,rfl,rfl,rfl⟩;simp
structure RqSz (r:ReM):Prop where
 val:r.val<2^64∧bitsF r.val=r.val
 bd:r.lo<2^64∧r.hi<2^64
 ru:r.ru.lo<2^64∧r.ru.hi<2^64
def eqLb (x y:Lab):Bool:=x.1.toList==y.1.toList&&(x.2.toList==y.2.toList&&true)
def sameL (A B:List Lab):Bool:=decide (A.length=B.length)&&(List.range A.length).all fun i=>eqLb (A.getD i noLb) (B.getD i noLb)
structure SzA (r:ReM):Prop where
 val:r.val<2^64
 bd:r.lo<2^64∧r.hi<2^64
 ru:r.ru.lo<2^64∧r.ru.hi<2^64
theorem RqSz.a {x:ReM} (h:RqSz x):SzA x:=⟨h.val.1,h.bd,h.ru⟩
theorem zfv {n:Nat} (h:emI n=true):n=0:=by unfold emI at h;simp only[beq_iff_eq]at h;omega
structure RcOk (n:Nat) (r:RcM):Prop where
 i0:0≤r.ix
 i1:r.ix≤2147483647
 ck:r.ck≤1099511627776
 bd:r.bd.length≤n
 c0:0≤r.cd
 c1:r.cd<256
def toRc (r:RcM):Nat×Nat×ByteArray×UInt8:=(r.ix.toNat,r.ck,⟨r.bd.toArray⟩,cdC r.cd)
theorem zh5 {n:Nat} (hn:n<2^64):Fits (rcR n) putRc (RcOk n):=by
 refine dress_fits (z21 (z3H (by decide)) (z21 (z3H (by decide)) (z21 (z1s hn) byte_fits))) (g:=toRc) ?_ ?_
 · rintro⟨a,b,s,c⟩ ⟨h1,h2,h3,_⟩;have h1:a≤2147483647:=h1;have h3:s.size≤n:=h3;have hc:=c.toNat_lt;refine⟨⟨Int.natCast_nonneg _,by show((a:Nat):Int)≤2147483647;omega,h2,by show s.data.toList.length≤n;rw[z1E];exact h3,Int.natCast_nonneg _,by show((c.toNat:Nat):Int)<256;omega⟩,?_⟩
   show putN a++(putN b++(txtB ⟨s.data.toList.toArray⟩++[c.toNat.toUInt8]))=_;rw[zgh,toUInt8_toNat]
 · rintro⟨i,k,b,c⟩ ⟨h0,h1,h2,h3,h4,h5⟩;simp only at h0 h1 h2 h3 h4 h5;obtain⟨i,rfl⟩:=Int.eq_ofNat_of_zero_le h0;obtain⟨c,rfl⟩:=Int.eq_ofNat_of_zero_le h4;refine⟨⟨by show i≤2147483647;omega,h2,by show(⟨b.toArray⟩:ByteArray).size≤n;rw[z3q];exact h3,trivial⟩,?_⟩
   show(⟨(i:Nat),k,b.toArray.toList,((c.toUInt8.toNat:Nat):Int)⟩:RcM)=_;rw[toNat_toUInt8 (by omega)]
theorem zh6 {r:RcM} (h:rcIs r=true) {n:Nat} (hn:r.bd.length≤n):RcOk n r:=by
 have:=z5i h;exact⟨by omega,by omega,by omega,hn,by omega,by omega⟩
theorem zfw (r:RcM):r.bd.length≤(putRc r).length:=by
 unfold putRc txtB;simp only[List.length_append,List.length_cons,List.length_nil,z7M];omega
theorem zfx {r:RcM} (h:rcIs r=true) (hl:(putRc r).length<2^64):rdRc (putRc r)=some r:=by
 unfold rdRc okRc;have:=(zh5 hl).fwd r [] (zh6 h (zfw r));rw[List.append_nil]at this;rw[this];simp[wholeO,h]
theorem zbP {r:RcM} (h:rcIs r=true):z1S r=putRc r:=by unfold z1S;rw[if_pos h]
abbrev ltS (a b:ByteArray):Bool:=Op.bytesLess a.toList b.toList
theorem zh7:∀a∈names,∀b∈names,((a.toList==b.toList)||(ltS a b||ltS b a))=true:=by decide +kernel
theorem zin:∀a∈names,∀b∈names,a=b∨ltS a b=true∨ltS b a=true:=fun a ha b hb=>by
 have:=zh7 a ha b hb;simp only[Bool.or_eq_true]at this;rcases this with h|h|h
 · exact .inl (toList_inj (eq_of_beq h))
 · exact .inr (.inl h)
 · exact .inr (.inr h)
theorem zfU:∀a∈names,ltS a a=false:=by decide +kernel
theorem nm_tr:∀a∈names,∀b∈names,∀c∈names,ltS a b=true→ltS b c=true→ltS a c=true:=by decide +kernel
theorem nm_ok:∀a∈names,nameB a=true:=by decide +kernel
theorem zh8:∀a∈values,valB a=true:=by decide +kernel
def rise (L:List Lab):Prop:=L.Pairwise fun x y=>ltS x.1 y.1=true
theorem zaX (out:List Lab) (x:Lab):∀m,(∀k,pos out x m≤k→k<m→ltS x.1 (out.getD k noL).1=true)∧(0<pos out x m→ltS x.1 (out.getD (pos out x m-1) noL).1=false)
 |0=>⟨fun k h1 h2=>absurd h2 (Nat.not_lt_zero _),fun h=>absurd h (Nat.lt_irrefl _)⟩
 |m+1=>by
  obtain⟨h1,h2⟩:=zaX out x m;rw[pos];split
  · rename_i h;refine⟨fun k hk hk2=>?_,h2⟩
    by_cases hkm:k=m
    · subst hkm;exact h
    · exact h1 k hk (by omega)
  · rename_i h;refine⟨fun k hk hk2=>by omega,fun _=>?_⟩
    simpa using h
theorem zdM {out:List Lab} {x:Lab} (ho:rise out) (hd:z2p out) (hx:x.1∈names) (hn:∀y∈out,y.1≠x.1):rise (insL out x):=by
 obtain⟨h1,h2⟩:=zaX out x out.length;have hp:=zcf out x out.length;unfold insL;generalize pos out x out.length=n at h1 h2 hp⊢
 have ht:∀y∈out.take n,ltS y.1 x.1=true:=by
  intro y hy;obtain⟨i,hi,rfl⟩:=List.getElem_of_mem hy;rw[List.length_take]at hi;have hl:(out.getD (n-1) noL)=out[n-1]:=by rw[List.getD_eq_getElem?_getD,List.getElem?_eq_getElem (by omega),Option.getD_some]
  have h3:=h2 (by omega)
  rw[hl]at h3
  have hlast:ltS (out[n-1]'(by omega)).1 x.1=true:=by
   rcases zin _ (hd _ (List.getElem_mem (show n-1<out.length by omega))).1 _ hx with h|h|h
   · exact absurd h (hn _ (List.getElem_mem _))
   · exact h
   · rw[h]at h3;cases h3
  rw[List.getElem_take];by_cases hin:i=n-1
  · subst hin;exact hlast
  · have hi2:i<n-1:=by omega
    have:=(List.pairwise_iff_getElem.1 ho) i (n-1) (by omega) (by omega) hi2
    exact nm_tr _ (hd _ (List.getElem_mem (show i<out.length by omega))).1 _ (hd _ (List.getElem_mem (show n-1<out.length by omega))).1 _ hx this hlast
 have hdr:∀y∈out.drop n,ltS x.1 y.1=true:=by
  intro y hy;obtain⟨i,hi,rfl⟩:=List.getElem_of_mem hy;rw[List.length_drop]at hi;have:=h1 (n+i) (by omega) (by omega)
  rw[List.getD_eq_getElem?_getD,List.getElem?_eq_getElem (by omega),Option.getD_some]at this
  rw[List.getElem_drop];exact this
 unfold rise at ho⊢;rw[List.append_assoc,List.pairwise_append];refine⟨ho.sublist (List.take_sublist _ _),?_,fun a ha b hb=>?_⟩
 · rw[List.singleton_append,List.pairwise_cons];exact⟨hdr,ho.sublist (List.drop_sublist _ _)⟩
 · rcases List.mem_append.1 hb with hb|hb
   · rw[List.mem_singleton.1 hb];exact ht a ha
   · exact nm_tr _ (hd _ (List.mem_of_mem_take ha)).1 _ hx _ (hd _ (List.mem_of_mem_drop hb)).1 (ht a ha) (hdr b hb)
def distinct (L:List Lab):Prop:=L.Pairwise fun x y=>x.1≠y.1
theorem z76:∀(L acc:List Lab),rise acc→z2p acc→z2p L→distinct L→(∀x∈acc,∀y∈L,x.1≠y.1)→rise (L.foldl insL acc)
 |[],acc,h,_,_,_,_=>h
 |x::L,acc,h,hd,hL,hdis,hac=>by
  rw[List.foldl_cons];have hdis:=List.pairwise_cons.1 hdis;refine z76 L _ (zdM h hd (hL x List.mem_cons_self).1 fun y hy=>hac y hy x List.mem_cons_self) (fun y hy=>?_) (fun y hy=>hL y (List.mem_cons_of_mem _ hy)) hdis.2 (fun y hy z hz=>?_)
  · rcases z7f hy with rfl|hy
    · exact hL y List.mem_cons_self
    · exact hd y hy
  · rcases z7f hy with rfl|hy
    · exact hdis.1 z hz
    · exact hac y hy z (List.mem_cons_of_mem _ hz)
theorem zh9 {L:List Lab} {nm:ByteArray} (hd:z2p L) (h:((getL L nm).toList==(⟨#[]⟩:ByteArray).toList)=true):∀y∈L,y.1≠nm:=by
 induction L with
 |nil=>intro y hy;cases hy
 |cons x xs ih =>
  rw[getL]at h;split at h
  · exfalso
    have hv:=(hd x List.mem_cons_self).2;have:=toList_inj (eq_of_beq h);rw[this]at hv;have:=(z5x _ hv).1;exact absurd this (by decide)
  · rename_i hne;intro y hy;rcases List.mem_cons.1 hy with rfl|hy
    · intro he;rw[he]at hne;simp at hne
    · exact ih (fun z hz=>hd z (List.mem_cons_of_mem _ hz)) h y hy
theorem zbQ (l:List Int):∀acc:List Lab,z2p acc→distinct acc→distinct (l.foldl z1P acc):=by
 induction l with
 |nil=>intro acc _ h;exact h
 |cons n l ih =>
  intro acc hd h;rw[List.foldl_cons];have hd2:z2p (z1P acc n):=z3W [n] acc hd;refine ih _ hd2 ?_;unfold z1P;split
  · rename_i hg;have:=zh9 hd hg;unfold distinct;rw[List.pairwise_append];exact⟨h,by simp,fun a ha b hb=>by rw[List.mem_singleton.1 hb];exact this a ha⟩
  · exact h
theorem z7W (ns:List Int):setB (z2l ns)=true:=by
 have hd0:z2p ([]:List Lab):=fun x hx=>by cases hx
 have h1:z2p (labs0 ns):=z3W _ _ hd0;have h2:distinct (labs0 ns):=zbQ _ _ hd0 List.Pairwise.nil
 have h3:(labs0 ns).length≤5:=by
  have:=z5y (ns.take 5) [];have h5:(ns.take 5).length≤5:=by rw[List.length_take];omega
  simp only[List.length_nil]at this;exact Nat.le_trans this (by omega)
 have hl:z2p (labs ns)∧distinct (labs ns)∧1≤(labs ns).length∧(labs ns).length≤5:=by
  unfold labs;split
  · refine⟨fun x hx=>?_,by unfold distinct;simp,by simp,by simp⟩
    rw[List.mem_singleton.1 hx];exact⟨by simp[names],by simp[values]⟩
  · exact⟨h1,h2,by omega,h3⟩
 obtain⟨hd,hdis,l1,l5⟩:=hl;have hr:rise (setL (labs ns)):=z76 _ _ List.Pairwise.nil hd0 hd hdis (fun x hx=>by cases hx)
 have hsd:z2p (setL (labs ns)):=fun x hx=>hd x (za8 _ x hx)
 have hsl:=z7e (labs ns);unfold z2l;generalize setL (labs ns)=S at hr hsd hsl⊢
 have key:∀i,0<i→i<S.length→leS (S.getD i noLb).1 (S.getD (i-1) noLb).1=false:=by
  intro i h0 hi;have e1:S.getD i noLb=S[i]:=by rw[List.getD_eq_getElem?_getD,List.getElem?_eq_getElem hi,Option.getD_some]
  have e2:S.getD (i-1) noLb=S[i-1]:=by rw[List.getD_eq_getElem?_getD,List.getElem?_eq_getElem (by omega),Option.getD_some]
  rw[e1,e2];have hlt:=(List.pairwise_iff_getElem.1 hr) (i-1) i (by omega) hi (by omega)
  have n1:=(hsd _ (List.getElem_mem hi)).1;have n2:=(hsd _ (List.getElem_mem (show i-1<S.length by omega))).1
  unfold leS;rw[Bool.or_eq_false_iff];constructor
  · cases h:Op.bytesLess (S[i]).1.toList (S[i-1]).1.toList with
    |false=>rfl
    |true =>
     have:=nm_tr _ n2 _ n1 _ n2 hlt h;rw[zfU _ n2]at this;cases this
  · cases h:((S[i]).1.toList==(S[i-1]).1.toList) with
    |false=>rfl
    |true =>
     have:=toList_inj (eq_of_beq h);rw[this,zfU _ n2]at hlt;cases hlt
 have hset:setB S=true:=by
  unfold setB;simp only[Bool.and_eq_true,decide_eq_true_eq,List.all_eq_true,List.mem_range];refine⟨by omega,by omega,fun i hi=>?_⟩
  have e1:S.getD i noLb=S[i]:=by rw[List.getD_eq_getElem?_getD,List.getElem?_eq_getElem hi,Option.getD_some]
  have hm:=hsd _ (List.getElem_mem hi);unfold labOk;rw[e1,nm_ok _ hm.1,zh8 _ hm.2];by_cases h0:0<i
  · have:=key i h0 hi;rw[e1]at this;rw[this];simp
  · simp[h0]
 have hgo:z3r S=true:=by
  have gen:∀k i,i+k≤S.length→isGo S k i=true:=by
   intro k
   induction k with
   |zero=>intro i _;rfl
   |succ k ih =>
    intro i hi;rw[isGo]
    have hb:badAt S i=false:=by
     unfold badAt;by_cases h0:0<i
     · rw[decide_eq_true h0];exact key i h0 (by omega)
     · rw[decide_eq_false h0];rfl
    rw[hb];exact ih (i+1) (by omega)
  unfold z3r;have d1:decide (S.length<1)=false:=decide_eq_false (by omega)
  have d2:decide (6<S.length)=false:=decide_eq_false (by omega)
  rw[d1,d2];exact gen _ 0 (by omega)
 rw[if_pos hgo];exact hset
end Go.Proofs.YtmkmhhjkdaklbaaGreat
namespace Go.Proofs.YtmkmhhjkdaklbaaGreat
open Go Go.Ab
set_option maxRecDepth 100000
def c41:ACode :=
 (sq_ [pr_ 1 (.boxr (.tmp 0)),
 pr_ 2 (.allocm z19_)]
 (.seq (.draw [⟨pr_ 4 (fa_ 1 1),[],false,0,1⟩,
 ⟨pr_ 5 (lf_ 1 4),[0],false,0,1⟩,
 ⟨cl_ 6 99 [(.tmp 5),(.const (.int .i64 0)),(.const (.int .i64 6))],[0,1],false,0,1⟩,
 ⟨c1_ 7 98 6,[0,1,2],false,0,1⟩,
 ⟨pr_ 8 (fa_ 0 1),[],false,0,1⟩,
 ⟨pr_ 9 (lf_ 1 8),[4],false,0,1⟩,
 ⟨cl_ 10 99 [(.tmp 9),(.const (.int .i64 1)),(.const (.int .i64 17))],(List.range 6),false,0,1⟩,
 ⟨pr_ 11 (.build z19_ [(0,1,(.tmp 7)),(1,1,(.tmp 10))]),(List.range 7),false,0,1⟩,
 ⟨pr_ 3 (.allocm z19_),[],true,0,0⟩,
 ⟨st_ (so_ 19 3 11),(List.range 9),true,0,0⟩])
 (.seq (sq_ [pr_ 12 (fa_ 1 3),
 pr_ 13 (lf_ 1 12)]
 (.block 0 (.seq (sq_ [pr_ 15 (bk_ .eql 13 .i64 2),
 mv_ 14 15]
 (.cond (.tmp 14)
 .skip
 (sq_ [pr_ 16 (bk_ .eql 13 .i64 7),
 mv_ 14 16]
 (.cond (.tmp 14)
 .skip
 (sq_ [pr_ 17 (bk_ .eql 13 .i64 10),
 mv_ 14 17]
 (.cond (.tmp 14)
 .skip
 (sq_ [pr_ 18 (bk_ .eql 13 .i64 12),
 mv_ 14 18]
 (.cond (.tmp 14)
 .skip
 (.ops [pr_ 19 (bk_ .eql 13 .i64 15),
 mv_ 14 19])))))))))
 (.cond (.tmp 14)
 (.ops [pr_ 20 (fa_ 2 1),
 pr_ 21 (lf_ 1 20),
 cl_ 22 99 [(.tmp 21),(.const (.int .i64 0)),(.const (.int .i64 20))],
 pr_ 23 (fa_ 2 3),
 st_ (so_ 1 23 22)])
 (.seq (sq_ [pr_ 25 (bk_ .eql 13 .i64 3),
 mv_ 24 25]
 (.cond (.tmp 24)
 .skip
 (.ops [pr_ 26 (bk_ .eql 13 .i64 4),
 mv_ 24 26])))
 (.cond (.tmp 24)
 (.draw [⟨pr_ 27 (fa_ 2 1),[],false,0,0⟩,
 ⟨pr_ 28 (lf_ 1 27),[0],false,0,0⟩,
 ⟨cl_ 29 99 [(.tmp 28),(.const (.int .i64 0)),(.const (.int .i64 7))],[0,1],true,0,0⟩,
 ⟨pr_ 30 (fa_ 3 1),[],false,0,1⟩,
 ⟨pr_ 31 (lf_ 1 30),[3],false,0,1⟩,
 ⟨cl_ 32 100 [(.tmp 31),(.const (.int .i64 0)),(.const (.int .i64 6))],[0,1,2,3,4],true,0,0⟩,
 ⟨c1_ 33 98 32,(List.range 6),true,0,0⟩,
 ⟨pr_ 34 (fa_ 2 3),[0,1,2],false,1,3⟩,
 ⟨st_ (so_ 1 34 29),(List.range 8),true,0,0⟩,
 ⟨pr_ 35 (fa_ 3 3),(List.range 9),false,4,4⟩,
 ⟨st_ (so_ 1 35 33),(List.range 10),true,0,0⟩])
 (.seq (sq_ [pr_ 37 (bk_ .eql 13 .i64 5),
 mv_ 36 37]
 (.cond (.tmp 36)
 .skip
 (.ops [pr_ 38 (bk_ .eql 13 .i64 6),
 mv_ 36 38])))
 (.cond (.tmp 36)
 (.seq (sq_ [pr_ 39 (fa_ 1 3),
 pr_ 40 (lf_ 1 39),
 pr_ 41 (bk_ .eql 40 .i64 6)]
 (.cond (.tmp 41)
 (.ops [pr_ 42 (fa_ 2 1),
 pr_ 43 (lf_ 1 42),
 cl_ 44 99 [(.tmp 43),(.const (.int .i64 0)),(.const (.int .i64 13))],
 pr_ 45 (fa_ 2 3),
 st_ (so_ 1 45 44)])
 .skip))
 (.draw [⟨pr_ 46 (fa_ 4 1),[],false,0,2⟩,
 ⟨pr_ 47 (lf_ 1 46),[0],false,0,2⟩,
 ⟨pr_ 48 (bk_ .rem 47 .u64 60),[0,1],false,0,2⟩,
 ⟨pr_ 49 (fa_ 5 1),[],false,0,3⟩,
 ⟨pr_ 50 (lf_ 1 49),[3],false,0,3⟩,
 ⟨pr_ 51 (bk_ .rem 50 .u64 90),[3,4],false,0,3⟩,
 ⟨pr_ 52 (fa_ 6 1),[],false,0,0⟩,
 ⟨pr_ 53 (lf_ 1 52),[6],false,0,0⟩,
 ⟨cl_ 54 79 [(.tmp 53),(.const (.bool true))],[6,7],true,0,0⟩,
 ⟨pr_ 55 (fa_ 8 1),[],false,0,1⟩,
 ⟨pr_ 56 (lt_ 3 55),[9],false,0,1⟩,
 ⟨c1_ 57 80 56,[6,7,8,9,10],true,0,0⟩,
 ⟨pr_ 58 (fa_ 4 3),[0,1,2],false,0,2⟩,
 ⟨st_ (so_ 1 58 48),[0,1,2,6,7,8,9,10,11,12],true,0,0⟩,
 ⟨pr_ 59 (fa_ 5 3),(List.range 14),false,3,3⟩,
 ⟨st_ (so_ 1 59 51),(List.range 15),true,0,0⟩,
 ⟨pr_ 60 (fa_ 7 3),(List.range 16),false,4,4⟩,
 ⟨st_ (so_ 1 60 54),(List.range 17),true,0,0⟩,
 ⟨pr_ 61 (fa_ 8 3),(List.range 18),false,5,5⟩,
 ⟨st_ (so_ 3 61 57),(List.range 19),true,0,0⟩]))
 (sq_ [pr_ 63 (bk_ .eql 13 .i64 8),
 mv_ 62 63]
 (.cond (.tmp 62)
 (.ops [pr_ 64 (fa_ 3 1),
 pr_ 65 (lf_ 1 64),
 cl_ 66 99 [(.tmp 65),(.const (.int .i64 0)),(.const (.int .i64 3))],
 pr_ 67 (fa_ 6 3),
 st_ (so_ 1 67 66)])
 (sq_ [pr_ 69 (bk_ .eql 13 .i64 9),
 mv_ 68 69]
 (.cond (.tmp 68)
 (.ops [pr_ 70 (fa_ 11 1),
 pr_ 71 (lt_ 6 70),
 c1_ 72 22 71,
 pr_ 73 (fa_ 11 3),
 st_ (so_ 6 73 72)])
 (sq_ [pr_ 75 (bk_ .eql 13 .i64 11),
 mv_ 74 75]
 (.cond (.tmp 74)
 (.draw [⟨pr_ 76 (fa_ 7 1),[],false,0,0⟩,
 ⟨pr_ 77 (lf_ 1 76),[0],false,0,0⟩,
 ⟨c1_ 78 101 77,[0,1],true,0,0⟩,
 ⟨pr_ 79 (fa_ 17 1),[],false,0,2⟩,
 ⟨pr_ 80 (lf_ 1 79),[3],false,0,2⟩,
 ⟨pr_ 81 (fa_ 17 3),[0,1,2],false,1,1⟩,
 ⟨st_ (so_ 1 81 78),[0,1,2,5],true,0,0⟩,
 ⟨pr_ 82 (fa_ 18 3),(List.range 7),false,2,2⟩,
 ⟨st_ (so_ 1 82 80),(List.range 8),true,0,0⟩])
 (sq_ [pr_ 84 (bk_ .eql 13 .i64 13),
 mv_ 83 84]
 (.cond (.tmp 83)
 (.ops [pr_ 85 (fa_ 6 1),
 pr_ 86 (lf_ 1 85),
 cl_ 87 79 [(.tmp 86),(.const (.bool false))],
 pr_ 88 (fa_ 7 3),
 st_ (so_ 1 88 87)])
 .skip))))))))))))))))
 (sq_ [pr_ 89 (lt_ 19 3),
 st_ (so_ 19 2 89)]
 .ret))))
def o41:List Tmp:=[2,3]
def r41:List RV:=[.cell 2 19 true]
theorem t41:Text Tryz.prog 41 o41 c41 r41 90:=.mk_ Tryz.f41 rfl
def c98:ACode :=
 (sq_ [pr_ 2 (.mov (.const (.string (ByteArray.mk #[]))))]
 (sq_ [pr_ 3 (.build [.pl (.string .empty),.pl (.string .empty),.pl (.string .empty),.pl (.string .empty),.pl (.string .empty),.pl (.string .empty),.pl (.string .empty),.pl (.string .empty)] [(0,1,(.const (.string (ByteArray.mk #[114,111,111,116,48])))),(1,1,(.const (.string (ByteArray.mk #[116,111,107,49])))),(2,1,(.const (.string (ByteArray.mk #[116,111,107,50])))),(3,1,(.const (.string (ByteArray.mk #[116,111,107,51])))),(4,1,(.const (.string (ByteArray.mk #[0,1,2,3])))),(5,1,(.const (.string (ByteArray.mk #[48,49,50,51,52,53,54,55,56,57,97,98,99,100,101,102])))),(6,1,(.const (.string (ByteArray.mk #[116,111,107,54])))),(7,1,(.const (.string (ByteArray.mk #[116,111,107]))))]),
 mv_ 4 0,
 cl_ 5 99 [(.tmp 4),(.const (.int .i64 0)),(.const (.int .i64 7))],
 pr_ 6 (.idxa 1 8 false (.tmp 3) (.tmp 5)),
 mv_ 2 6]
 .ret))
def o98:List Tmp:=[]
def r98:List RV:=[.tmp 2]
theorem t98:Text Tryz.prog 98 o98 c98 r98 7:=.mk_ Tryz.f98 rfl
end Go.Proofs.YtmkmhhjkdaklbaaGreat
namespace Go.Proofs.YtmkmhhjkdaklbaaGreat
open Go Go.Ab Go.Cod
set_option maxRecDepth 100000
def toks:List ByteArray:=[⟨#[114,111,111,116,48]⟩,⟨#[116,111,107,49]⟩,⟨#[116,111,107,50]⟩,⟨#[116,111,107,51]⟩,⟨#[0,1,2,3]⟩,⟨#[48,49,50,51,52,53,54,55,56,57,97,98,99,100,101,102]⟩,⟨#[116,111,107,54]⟩,⟨#[116,111,107]⟩]
def tokOf (n:Int):ByteArray:=toks.getD (inD n 0 7).toNat ⟨#[]⟩
structure AcM where
 what:Int
 who:Int
 id:Int
 sta:Int
 st:Nat
 en:Nat
 ds:List (Int×Int×Int)
 ns:List Int
 sel:Int
 lo:Nat
 hi:Nat
 ru:RuD
 val:Nat
 raw:Byt
 hd:ds.length≤9223372036854775807
 hst:st<18446744073709551616
 hen:en<18446744073709551616
def acC (a:AcM):List AV:=[I a.what,I a.who,I a.id,I a.sta,UN a.st,UN a.en,.sl 3 (a.ds.map dv),.sl 1 (a.ns.map I),I a.sel,Fl a.lo,Fl a.hi,
 .sl 3 (a.ru.ds.map dv),.sl 3 (a.ru.es.map dv),I a.ru.sel,Fl a.ru.lo,Fl a.ru.hi,.sl 1 (a.ru.ns.map I),Fl a.val,.sl 1 (byv a.raw)]
def acV (a:AcM):AV:=.agg (acC a)
def opA (a:AcM):Int:=inD a.what 1 17
def baseR (a:AcM):ReM:={ x0 (opA a) with tok:=tokOf (inD a.who 0 6) }
def z4M (a:AcM):Bnd:=z1a a.sel a.lo a.hi
def silR (a:AcM) (r:ReM):ReM:={ r with st:=a.st%60,en:=a.en%90,mt:=mustL true (z0z a.ds []),any:=(z4M a).1,lo:=(z4M a).2.1,hi:=(z4M a).2.2 }
def z08 (a:AcM):ReM :=
 let op:=opA a
 if op=2∨op=7∨op=10∨op=12∨op=15 then { baseR a with id:=inD a.id 0 20 }
 else if op=3∨op=4 then { baseR a with id:=inD a.id 0 7,txt:=tokOf (emodW a.sta 0 6) }
 else if op=5 then silR a (baseR a)
 else if op=6 then silR a { baseR a with id:=inD a.id 0 13 }
 else if op=8 then { baseR a with sta:=inD a.sta 0 3 }
 else if op=9 then { baseR a with ru:=z44 a.ru }
 else if op=11 then { baseR a with ls:=z2l a.ns,val:=a.val }
 else if op=13 then { baseR a with mt:=mustL false (z0z a.ds []) }
 else baseR a
theorem z4w (n lo hi:Int) (h:lo≤hi):lo≤inD n lo hi∧inD n lo hi≤hi:=by
 unfold inD;split
 · assumption
 · unfold emodW;have h3:=Int.emod_nonneg n (show hi-lo+1≠0 by omega)
   have h4:=Int.emod_lt_of_pos n (show 0<hi-lo+1 by omega)
   omega
theorem z93 (a:AcM):1≤opA a∧opA a≤17:=z4w _ _ _ (by decide)
section
variable (σ:St)
theorem z0I (n:Int):Ans Tryz.prog 98 [I n] σ (Sx (tokOf n)) σ:=by
 have h:=z0g σ n 0 7 (by decide) (by decide) (by decide)
 have hr:=z4w n 0 7 (by decide)
 unfold tokOf;generalize inD n 0 7=m at h hr⊢;refine Ans.of_run t98 ?_;simp -implicitDefEqProofs only[c98,r98,go_sem];refine CO.intro h ?_;obtain⟨k,rfl⟩:=Int.eq_ofNat_of_zero_le hr.1;have:k<8:=by omega
 match k,this with
 |0,_|1,_|2,_|3,_|4,_|5,_|6,_|7,_ =>
  simp -implicitDefEqProofs only[go_sem];exact Fini.ret rfl
end
section
variable (σ:St)
set_option maxHeartbeats 4000000 in
theorem act_1 (a:AcM) (e:opA a=1):Ans Tryz.prog 41 [acV a] σ (reV (z08 a)) σ:=by
 have h1:=fun s=>z0g s a.who 0 6 (by decide) (by decide) (by decide)
 have h2:=fun s=>z0I s (inD a.who 0 6)
 have h3:∀s,Ans Tryz.prog 99 [I a.what,I 1,I 17] s (I 1) s:=fun s=>by
  have:=z0g s a.what 1 17 (by decide) (by decide) (by decide)
  have e:inD a.what 1 17=1:=e;rw[e]at this;exact this
 have hD:z08 a=baseR a:=by
  unfold z08;simp[e]
 rw[hD];unfold baseR;rw[e];generalize tokOf (inD a.who 0 6)=tk at h2⊢;generalize inD a.who 0 6=w at h1 h2;refine Ans.subR (r:=.agg [Sx tk,I 1,I 0,Sx ⟨#[]⟩,UN 0,UN 0,I 0,.nils,Bo false,Fl 0,Fl 0,.nils,.nils,Bo false,Fl 0,Fl 0,.nils,.nils,Fl 0]) ?_ (.agg (.cons (.refl _) <| .cons (.refl _) <| .cons (.refl _) <| .cons (.refl _) <| .cons (.refl _) <| .cons (.refl _) <| .cons (.refl _) <| .cons (.nils 3) <| .cons (.refl _) <| .cons (.refl _) <| .cons (.refl _) <| .cons (.nils 3) <| .cons (.nils 3) <| .cons (.refl _) <| .cons (.refl _) <| .cons (.refl _) <| .cons (.nils 1) <| .cons (.nils 2) <| .cons (.refl _) <| .nil))
 have hbl:Bel σ.length (.agg [Sx tk,I 1,I 0,Sx ⟨#[]⟩,UN 0,UN 0,I 0,.nils,Bo false,Fl 0,Fl 0,.nils,.nils,Bo false,Fl 0,Fl 0,.nils,.nils,Fl 0]):=.agg _ (fun i hi=>by
  have:∀y∈([Sx tk,I 1,I 0,Sx ⟨#[]⟩,UN 0,UN 0,I 0,.nils,Bo false,Fl 0,Fl 0,.nils,.nils,Bo false,Fl 0,Fl 0,.nils,.nils,Fl 0]:List AV),Bel σ.length y:=by
   intro y hy;simp only[List.mem_cons,List.not_mem_nil,or_false]at hy;rcases hy with rfl|rfl|rfl|rfl|rfl|rfl|rfl|rfl|rfl|rfl|rfl|rfl|rfl|rfl|rfl|rfl|rfl|rfl|rfl
   all_goals first|exact .pl _|exact .nils|exact z0a _ _|exact z0x _ _|exact z0d _ _
  exact this _ (List.getElem_mem hi))
 refine Ans.of_run' t41 (fun hbel _=>?_)
 unfold acV acC;simp -implicitDefEqProofs only[c41,r41,go_sem,z00];refine CS.intro h1 ?_;simp -implicitDefEqProofs only[go_sem,z00];refine CS.intro h2 ?_;simp -implicitDefEqProofs only[go_sem,z00];refine CS.intro h3 ?_;simp -implicitDefEqProofs only[go_sem,z00,List.append_assoc,List.length_append,g0,g1,s0,s1];exact tr_ (σ':=σ) (ex:=[_,_]) rfl hbl hbel
set_option maxHeartbeats 4000000 in
theorem act_2 (a:AcM) (e:opA a=2):Ans Tryz.prog 41 [acV a] σ (reV (z08 a)) σ:=by
 have h1:=fun s=>z0g s a.who 0 6 (by decide) (by decide) (by decide)
 have h2:=fun s=>z0I s (inD a.who 0 6)
 have h3:∀s,Ans Tryz.prog 99 [I a.what,I 1,I 17] s (I 2) s:=fun s=>by
  have:=z0g s a.what 1 17 (by decide) (by decide) (by decide)
  have e:inD a.what 1 17=2:=e;rw[e]at this;exact this
 have hD:z08 a={ baseR a with id:=inD a.id 0 20 }:=by
  unfold z08;simp[e]
 rw[hD];unfold baseR;rw[e];generalize tokOf (inD a.who 0 6)=tk at h2⊢;generalize inD a.who 0 6=w at h1 h2;have k1:=fun s=>z0g s a.id 0 20 (by decide) (by decide) (by decide)
 generalize inD a.id 0 20=v1 at k1⊢;refine Ans.subR (r:=.agg [Sx tk,I 2,I v1,Sx ⟨#[]⟩,UN 0,UN 0,I 0,.nils,Bo false,Fl 0,Fl 0,.nils,.nils,Bo false,Fl 0,Fl 0,.nils,.nils,Fl 0]) ?_ (.agg (.cons (.refl _) <| .cons (.refl _) <| .cons (.refl _) <| .cons (.refl _) <| .cons (.refl _) <| .cons (.refl _) <| .cons (.refl _) <| .cons (.nils 3) <| .cons (.refl _) <| .cons (.refl _) <| .cons (.refl _) <| .cons (.nils 3) <| .cons (.nils 3) <| .cons (.refl _) <| .cons (.refl _) <| .cons (.refl _) <| .cons (.nils 1) <| .cons (.nils 2) <| .cons (.refl _) <| .nil))
 have hbl:Bel σ.length (.agg [Sx tk,I 2,I v1,Sx ⟨#[]⟩,UN 0,UN 0,I 0,.nils,Bo false,Fl 0,Fl 0,.nils,.nils,Bo false,Fl 0,Fl 0,.nils,.nils,Fl 0]):=.agg _ (fun i hi=>by
  have:∀y∈([Sx tk,I 2,I v1,Sx ⟨#[]⟩,UN 0,UN 0,I 0,.nils,Bo false,Fl 0,Fl 0,.nils,.nils,Bo false,Fl 0,Fl 0,.nils,.nils,Fl 0]:List AV),Bel σ.length y:=by
   intro y hy;simp only[List.mem_cons,List.not_mem_nil,or_false]at hy;rcases hy with rfl|rfl|rfl|rfl|rfl|rfl|rfl|rfl|rfl|rfl|rfl|rfl|rfl|rfl|rfl|rfl|rfl|rfl|rfl
   all_goals first|exact .pl _|exact .nils|exact z0a _ _|exact z0x _ _|exact z0d _ _
  exact this _ (List.getElem_mem hi))
 refine Ans.of_run' t41 (fun hbel _=>?_)
 unfold acV acC;simp -implicitDefEqProofs only[c41,r41,go_sem,z00];refine CS.intro h1 ?_;simp -implicitDefEqProofs only[go_sem,z00];refine CS.intro h2 ?_;simp -implicitDefEqProofs only[go_sem,z00];refine CS.intro h3 ?_;simp -implicitDefEqProofs only[go_sem,z00,List.append_assoc,List.length_append,g0,g1,s0,s1];refine CO.intro (k1 _) ?_;simp -implicitDefEqProofs only[go_sem,g0,g1,s0,s1];exact tr_ (σ':=σ) (ex:=[_,_]) rfl hbl hbel
set_option maxHeartbeats 4000000 in
theorem act_3 (a:AcM) (e:opA a=3):Ans Tryz.prog 41 [acV a] σ (reV (z08 a)) σ:=by
 have h1:=fun s=>z0g s a.who 0 6 (by decide) (by decide) (by decide)
 have h2:=fun s=>z0I s (inD a.who 0 6)
 have h3:∀s,Ans Tryz.prog 99 [I a.what,I 1,I 17] s (I 3) s:=fun s=>by
  have:=z0g s a.what 1 17 (by decide) (by decide) (by decide)
  have e:inD a.what 1 17=3:=e;rw[e]at this;exact this
 have hD:z08 a={ baseR a with id:=inD a.id 0 7,txt:=tokOf (emodW a.sta 0 6) }:=by
  unfold z08;simp[e]
 rw[hD];unfold baseR;rw[e];generalize tokOf (inD a.who 0 6)=tk at h2⊢;generalize inD a.who 0 6=w at h1 h2;have k1:=fun s=>z0g s a.id 0 7 (by decide) (by decide) (by decide)
 have k2:=fun s=>z34 s a.sta 0 6 (by decide) (by decide) (by decide)
 have k3:=fun s=>z0I s (emodW a.sta 0 6)
 generalize inD a.id 0 7=v1 at k1⊢;generalize tokOf (emodW a.sta 0 6)=v2 at k3⊢;generalize emodW a.sta 0 6=v3 at k2 k3;refine Ans.subR (r:=.agg [Sx tk,I 3,I v1,Sx v2,UN 0,UN 0,I 0,.nils,Bo false,Fl 0,Fl 0,.nils,.nils,Bo false,Fl 0,Fl 0,.nils,.nils,Fl 0]) ?_ (.agg (.cons (.refl _) <| .cons (.refl _) <| .cons (.refl _) <| .cons (.refl _) <| .cons (.refl _) <| .cons (.refl _) <| .cons (.refl _) <| .cons (.nils 3) <| .cons (.refl _) <| .cons (.refl _) <| .cons (.refl _) <| .cons (.nils 3) <| .cons (.nils 3) <| .cons (.refl _) <| .cons (.refl _) <| .cons (.refl _) <| .cons (.nils 1) <| .cons (.nils 2) <| .cons (.refl _) <| .nil))
 have hbl:Bel σ.length (.agg [Sx tk,I 3,I v1,Sx v2,UN 0,UN 0,I 0,.nils,Bo false,Fl 0,Fl 0,.nils,.nils,Bo false,Fl 0,Fl 0,.nils,.nils,Fl 0]):=.agg _ (fun i hi=>by
  have:∀y∈([Sx tk,I 3,I v1,Sx v2,UN 0,UN 0,I 0,.nils,Bo false,Fl 0,Fl 0,.nils,.nils,Bo false,Fl 0,Fl 0,.nils,.nils,Fl 0]:List AV),Bel σ.length y:=by
   intro y hy;simp only[List.mem_cons,List.not_mem_nil,or_false]at hy;rcases hy with rfl|rfl|rfl|rfl|rfl|rfl|rfl|rfl|rfl|rfl|rfl|rfl|rfl|rfl|rfl|rfl|rfl|rfl|rfl
   all_goals first|exact .pl _|exact .nils|exact z0a _ _|exact z0x _ _|exact z0d _ _
  exact this _ (List.getElem_mem hi))
 refine Ans.of_run' t41 (fun hbel _=>?_)
 unfold acV acC;simp -implicitDefEqProofs only[c41,r41,go_sem,z00];refine CS.intro h1 ?_;simp -implicitDefEqProofs only[go_sem,z00];refine CS.intro h2 ?_;simp -implicitDefEqProofs only[go_sem,z00];refine CS.intro h3 ?_;simp -implicitDefEqProofs only[go_sem,z00,List.append_assoc,List.length_append,g0,g1,s0,s1];refine CD.intro (k1 _) ?_;simp -implicitDefEqProofs only[go_sem,g0,g1,s0,s1];refine CD.intro (k2 _) ?_;simp -implicitDefEqProofs only[go_sem,g0,g1,s0,s1];refine CD.intro (k3 _) ?_;simp -implicitDefEqProofs only[go_sem,g0,g1,s0,s1];exact tr_ (σ':=σ) (ex:=[_,_]) rfl hbl hbel
set_option maxHeartbeats 4000000 in
theorem act_4 (a:AcM) (e:opA a=4):Ans Tryz.prog 41 [acV a] σ (reV (z08 a)) σ:=by
 have h1:=fun s=>z0g s a.who 0 6 (by decide) (by decide) (by decide)
 have h2:=fun s=>z0I s (inD a.who 0 6)
 have h3:∀s,Ans Tryz.prog 99 [I a.what,I 1,I 17] s (I 4) s:=fun s=>by
  have:=z0g s a.what 1 17 (by decide) (by decide) (by decide)
  have e:inD a.what 1 17=4:=e;rw[e]at this;exact this
 have hD:z08 a={ baseR a with id:=inD a.id 0 7,txt:=tokOf (emodW a.sta 0 6) }:=by
  unfold z08;simp[e]
 rw[hD];unfold baseR;rw[e];generalize tokOf (inD a.who 0 6)=tk at h2⊢;generalize inD a.who 0 6=w at h1 h2;have k1:=fun s=>z0g s a.id 0 7 (by decide) (by decide) (by decide)
 have k2:=fun s=>z34 s a.sta 0 6 (by decide) (by decide) (by decide)
 have k3:=fun s=>z0I s (emodW a.sta 0 6)
 generalize inD a.id 0 7=v1 at k1⊢;generalize tokOf (emodW a.sta 0 6)=v2 at k3⊢;generalize emodW a.sta 0 6=v3 at k2 k3;refine Ans.subR (r:=.agg [Sx tk,I 4,I v1,Sx v2,UN 0,UN 0,I 0,.nils,Bo false,Fl 0,Fl 0,.nils,.nils,Bo false,Fl 0,Fl 0,.nils,.nils,Fl 0]) ?_ (.agg (.cons (.refl _) <| .cons (.refl _) <| .cons (.refl _) <| .cons (.refl _) <| .cons (.refl _) <| .cons (.refl _) <| .cons (.refl _) <| .cons (.nils 3) <| .cons (.refl _) <| .cons (.refl _) <| .cons (.refl _) <| .cons (.nils 3) <| .cons (.nils 3) <| .cons (.refl _) <| .cons (.refl _) <| .cons (.refl _) <| .cons (.nils 1) <| .cons (.nils 2) <| .cons (.refl _) <| .nil))
 have hbl:Bel σ.length (.agg [Sx tk,I 4,I v1,Sx v2,UN 0,UN 0,I 0,.nils,Bo false,Fl 0,Fl 0,.nils,.nils,Bo false,Fl 0,Fl 0,.nils,.nils,Fl 0]):=.agg _ (fun i hi=>by
  have:∀y∈([Sx tk,I 4,I v1,Sx v2,UN 0,UN 0,I 0,.nils,Bo false,Fl 0,Fl 0,.nils,.nils,Bo false,Fl 0,Fl 0,.nils,.nils,Fl 0]:List AV),Bel σ.length y:=by
   intro y hy;simp only[List.mem_cons,List.not_mem_nil,or_false]at hy;rcases hy with rfl|rfl|rfl|rfl|rfl|rfl|rfl|rfl|rfl|rfl|rfl|rfl|rfl|rfl|rfl|rfl|rfl|rfl|rfl
   all_goals first|exact .pl _|exact .nils|exact z0a _ _|exact z0x _ _|exact z0d _ _
  exact this _ (List.getElem_mem hi))
 refine Ans.of_run' t41 (fun hbel _=>?_)
 unfold acV acC;simp -implicitDefEqProofs only[c41,r41,go_sem,z00];refine CS.intro h1 ?_;simp -implicitDefEqProofs only[go_sem,z00];refine CS.intro h2 ?_;simp -implicitDefEqProofs only[go_sem,z00];refine CS.intro h3 ?_;simp -implicitDefEqProofs only[go_sem,z00,List.append_assoc,List.length_append,g0,g1,s0,s1];refine CD.intro (k1 _) ?_;simp -implicitDefEqProofs only[go_sem,g0,g1,s0,s1];refine CD.intro (k2 _) ?_;simp -implicitDefEqProofs only[go_sem,g0,g1,s0,s1];refine CD.intro (k3 _) ?_;simp -implicitDefEqProofs only[go_sem,g0,g1,s0,s1];exact tr_ (σ':=σ) (ex:=[_,_]) rfl hbl hbel
end
section
variable (σ:St)
set_option maxHeartbeats 4000000 in
theorem act_5 (a:AcM) (e:opA a=5):Ans Tryz.prog 41 [acV a] σ (reV (z08 a)) σ:=by
 have h1:=fun s=>z0g s a.who 0 6 (by decide) (by decide) (by decide)
 have h2:=fun s=>z0I s (inD a.who 0 6)
 have h3:∀s,Ans Tryz.prog 99 [I a.what,I 1,I 17] s (I 5) s:=fun s=>by
  have:=z0g s a.what 1 17 (by decide) (by decide) (by decide)
  have e:inD a.what 1 17=5:=e;rw[e]at this;exact this
 have hD:z08 a=silR a (baseR a):=by
  unfold z08;simp[e]
 rw[hD];unfold baseR silR;rw[e];generalize tokOf (inD a.who 0 6)=tk at h2⊢;generalize inD a.who 0 6=w at h1 h2;have k4:∀s,Ans Tryz.prog 79 [.sl 3 (a.ds.map dv),Bo true] s (.sl 3 (mvs3 (mustL true (z0z a.ds [])))) s:=fun s=>z3C s true a.ds a.hd
 have k5:=fun s=>z7x s a.sel a.lo a.hi
 unfold z4M;generalize mustL true (z0z a.ds [])=M at k4⊢;generalize z1a a.sel a.lo a.hi=bd at k5⊢;obtain⟨ba,bl,bh⟩:=bd;unfold bandV at k5;simp only at k5⊢;have hz1:((a.st:Int)).tmod 60=((a.st%60:Nat):Int):=rfl;have hz2:((a.en:Int)).tmod 90=((a.en%90:Nat):Int):=rfl;refine Ans.subR (r:=.agg [Sx tk,I 5,I 0,Sx ⟨#[]⟩,UN (a.st%60),UN (a.en%90),I 0,mlV M,Bo ba,Fl bl,Fl bh,.nils,.nils,Bo false,Fl 0,Fl 0,.nils,.nils,Fl 0]) ?_ (.agg (.cons (.refl _) <| .cons (.refl _) <| .cons (.refl _) <| .cons (.refl _) <| .cons (.refl _) <| .cons (.refl _) <| .cons (.refl _) <| .cons (.refl _) <| .cons (.refl _) <| .cons (.refl _) <| .cons (.refl _) <| .cons (.nils 3) <| .cons (.nils 3) <| .cons (.refl _) <| .cons (.refl _) <| .cons (.refl _) <| .cons (.nils 1) <| .cons (.nils 2) <| .cons (.refl _) <| .nil))
 have hbl:Bel σ.length (.agg [Sx tk,I 5,I 0,Sx ⟨#[]⟩,UN (a.st%60),UN (a.en%90),I 0,mlV M,Bo ba,Fl bl,Fl bh,.nils,.nils,Bo false,Fl 0,Fl 0,.nils,.nils,Fl 0]):=.agg _ (fun i hi=>by
  have:∀y∈([Sx tk,I 5,I 0,Sx ⟨#[]⟩,UN (a.st%60),UN (a.en%90),I 0,mlV M,Bo ba,Fl bl,Fl bh,.nils,.nils,Bo false,Fl 0,Fl 0,.nils,.nils,Fl 0]:List AV),Bel σ.length y:=by
   intro y hy;simp only[List.mem_cons,List.not_mem_nil,or_false]at hy;rcases hy with rfl|rfl|rfl|rfl|rfl|rfl|rfl|rfl|rfl|rfl|rfl|rfl|rfl|rfl|rfl|rfl|rfl|rfl|rfl
   all_goals first|exact .pl _|exact .nils|exact z0a _ _|exact z0x _ _|exact z0d _ _
  exact this _ (List.getElem_mem hi))
 refine Ans.of_run' t41 (fun hbel _=>?_)
 unfold acV acC;simp -implicitDefEqProofs only[c41,r41,go_sem,z00];refine CS.intro h1 ?_;simp -implicitDefEqProofs only[go_sem,z00];refine CS.intro h2 ?_;simp -implicitDefEqProofs only[go_sem,z00];refine CS.intro h3 ?_;simp -implicitDefEqProofs only[go_sem,z00,List.append_assoc,List.length_append,g0,g1,s0,s1,hz1,hz2];refine CD.intro (k4 _) ?_;simp -implicitDefEqProofs only[go_sem,g0,g1,s0,s1,hz1,hz2];refine CD.intro (k5 _) ?_;simp -implicitDefEqProofs only[go_sem,g0,g1,s0,s1,hz1,hz2];exact tr_ (σ':=σ) (ex:=[_,_]) rfl hbl hbel
set_option maxHeartbeats 4000000 in
theorem act_6 (a:AcM) (e:opA a=6):Ans Tryz.prog 41 [acV a] σ (reV (z08 a)) σ:=by
 have h1:=fun s=>z0g s a.who 0 6 (by decide) (by decide) (by decide)
 have h2:=fun s=>z0I s (inD a.who 0 6)
 have h3:∀s,Ans Tryz.prog 99 [I a.what,I 1,I 17] s (I 6) s:=fun s=>by
  have:=z0g s a.what 1 17 (by decide) (by decide) (by decide)
  have e:inD a.what 1 17=6:=e;rw[e]at this;exact this
 have hD:z08 a=silR a { baseR a with id:=inD a.id 0 13 }:=by
  unfold z08;simp[e]
 rw[hD];unfold baseR silR;rw[e];generalize tokOf (inD a.who 0 6)=tk at h2⊢;generalize inD a.who 0 6=w at h1 h2;have k1:=fun s=>z0g s a.id 0 13 (by decide) (by decide) (by decide)
 generalize inD a.id 0 13=v1 at k1⊢;have k4:∀s,Ans Tryz.prog 79 [.sl 3 (a.ds.map dv),Bo true] s (.sl 3 (mvs3 (mustL true (z0z a.ds [])))) s:=fun s=>z3C s true a.ds a.hd
 have k5:=fun s=>z7x s a.sel a.lo a.hi
 unfold z4M;generalize mustL true (z0z a.ds [])=M at k4⊢;generalize z1a a.sel a.lo a.hi=bd at k5⊢;obtain⟨ba,bl,bh⟩:=bd;unfold bandV at k5;simp only at k5⊢;have hz1:((a.st:Int)).tmod 60=((a.st%60:Nat):Int):=rfl;have hz2:((a.en:Int)).tmod 90=((a.en%90:Nat):Int):=rfl;refine Ans.subR (r:=.agg [Sx tk,I 6,I v1,Sx ⟨#[]⟩,UN (a.st%60),UN (a.en%90),I 0,mlV M,Bo ba,Fl bl,Fl bh,.nils,.nils,Bo false,Fl 0,Fl 0,.nils,.nils,Fl 0]) ?_ (.agg (.cons (.refl _) <| .cons (.refl _) <| .cons (.refl _) <| .cons (.refl _) <| .cons (.refl _) <| .cons (.refl _) <| .cons (.refl _) <| .cons (.refl _) <| .cons (.refl _) <| .cons (.refl _) <| .cons (.refl _) <| .cons (.nils 3) <| .cons (.nils 3) <| .cons (.refl _) <| .cons (.refl _) <| .cons (.refl _) <| .cons (.nils 1) <| .cons (.nils 2) <| .cons (.refl _) <| .nil))
 have hbl:Bel σ.length (.agg [Sx tk,I 6,I v1,Sx ⟨#[]⟩,UN (a.st%60),UN (a.en%90),I 0,mlV M,Bo ba,Fl bl,Fl bh,.nils,.nils,Bo false,Fl 0,Fl 0,.nils,.nils,Fl 0]):=.agg _ (fun i hi=>by
  have:∀y∈([Sx tk,I 6,I v1,Sx ⟨#[]⟩,UN (a.st%60),UN (a.en%90),I 0,mlV M,Bo ba,Fl bl,Fl bh,.nils,.nils,Bo false,Fl 0,Fl 0,.nils,.nils,Fl 0]:List AV),Bel σ.length y:=by
   intro y hy;simp only[List.mem_cons,List.not_mem_nil,or_false]at hy;rcases hy with rfl|rfl|rfl|rfl|rfl|rfl|rfl|rfl|rfl|rfl|rfl|rfl|rfl|rfl|rfl|rfl|rfl|rfl|rfl
   all_goals first|exact .pl _|exact .nils|exact z0a _ _|exact z0x _ _|exact z0d _ _
  exact this _ (List.getElem_mem hi))
 refine Ans.of_run' t41 (fun hbel _=>?_)
 unfold acV acC;simp -implicitDefEqProofs only[c41,r41,go_sem,z00];refine CS.intro h1 ?_;simp -implicitDefEqProofs only[go_sem,z00];refine CS.intro h2 ?_;simp -implicitDefEqProofs only[go_sem,z00];refine CS.intro h3 ?_;simp -implicitDefEqProofs only[go_sem,z00,List.append_assoc,List.length_append,g0,g1,s0,s1,hz1,hz2];refine CO.intro (k1 _) ?_;simp -implicitDefEqProofs only[go_sem,g0,g1,s0,s1,hz1,hz2];refine CD.intro (k4 _) ?_;simp -implicitDefEqProofs only[go_sem,g0,g1,s0,s1,hz1,hz2];refine CD.intro (k5 _) ?_;simp -implicitDefEqProofs only[go_sem,g0,g1,s0,s1,hz1,hz2];exact tr_ (σ':=σ) (ex:=[_,_]) rfl hbl hbel
set_option maxHeartbeats 4000000 in
theorem act_7 (a:AcM) (e:opA a=7):Ans Tryz.prog 41 [acV a] σ (reV (z08 a)) σ:=by
 have h1:=fun s=>z0g s a.who 0 6 (by decide) (by decide) (by decide)
 have h2:=fun s=>z0I s (inD a.who 0 6)
 have h3:∀s,Ans Tryz.prog 99 [I a.what,I 1,I 17] s (I 7) s:=fun s=>by
  have:=z0g s a.what 1 17 (by decide) (by decide) (by decide)
  have e:inD a.what 1 17=7:=e;rw[e]at this;exact this
 have hD:z08 a={ baseR a with id:=inD a.id 0 20 }:=by
  unfold z08;simp[e]
 rw[hD];unfold baseR;rw[e];generalize tokOf (inD a.who 0 6)=tk at h2⊢;generalize inD a.who 0 6=w at h1 h2;have k1:=fun s=>z0g s a.id 0 20 (by decide) (by decide) (by decide)
 generalize inD a.id 0 20=v1 at k1⊢;refine Ans.subR (r:=.agg [Sx tk,I 7,I v1,Sx ⟨#[]⟩,UN 0,UN 0,I 0,.nils,Bo false,Fl 0,Fl 0,.nils,.nils,Bo false,Fl 0,Fl 0,.nils,.nils,Fl 0]) ?_ (.agg (.cons (.refl _) <| .cons (.refl _) <| .cons (.refl _) <| .cons (.refl _) <| .cons (.refl _) <| .cons (.refl _) <| .cons (.refl _) <| .cons (.nils 3) <| .cons (.refl _) <| .cons (.refl _) <| .cons (.refl _) <| .cons (.nils 3) <| .cons (.nils 3) <| .cons (.refl _) <| .cons (.refl _) <| .cons (.refl _) <| .cons (.nils 1) <| .cons (.nils 2) <| .cons (.refl _) <| .nil))
 have hbl:Bel σ.length (.agg [Sx tk,I 7,I v1,Sx ⟨#[]⟩,UN 0,UN 0,I 0,.nils,Bo false,Fl 0,Fl 0,.nils,.nils,Bo false,Fl 0,Fl 0,.nils,.nils,Fl 0]):=.agg _ (fun i hi=>by
  have:∀y∈([Sx tk,I 7,I v1,Sx ⟨#[]⟩,UN 0,UN 0,I 0,.nils,Bo false,Fl 0,Fl 0,.nils,.nils,Bo false,Fl 0,Fl 0,.nils,.nils,Fl 0]:List AV),Bel σ.length y:=by
   intro y hy;simp only[List.mem_cons,List.not_mem_nil,or_false]at hy;rcases hy with rfl|rfl|rfl|rfl|rfl|rfl|rfl|rfl|rfl|rfl|rfl|rfl|rfl|rfl|rfl|rfl|rfl|rfl|rfl
   all_goals first|exact .pl _|exact .nils|exact z0a _ _|exact z0x _ _|exact z0d _ _
  exact this _ (List.getElem_mem hi))
 refine Ans.of_run' t41 (fun hbel _=>?_)
 unfold acV acC;simp -implicitDefEqProofs only[c41,r41,go_sem,z00];refine CS.intro h1 ?_;simp -implicitDefEqProofs only[go_sem,z00];refine CS.intro h2 ?_;simp -implicitDefEqProofs only[go_sem,z00];refine CS.intro h3 ?_;simp -implicitDefEqProofs only[go_sem,z00,List.append_assoc,List.length_append,g0,g1,s0,s1];refine CO.intro (k1 _) ?_;simp -implicitDefEqProofs only[go_sem,g0,g1,s0,s1];exact tr_ (σ':=σ) (ex:=[_,_]) rfl hbl hbel
set_option maxHeartbeats 4000000 in
theorem act_8 (a:AcM) (e:opA a=8):Ans Tryz.prog 41 [acV a] σ (reV (z08 a)) σ:=by
 have h1:=fun s=>z0g s a.who 0 6 (by decide) (by decide) (by decide)
 have h2:=fun s=>z0I s (inD a.who 0 6)
 have h3:∀s,Ans Tryz.prog 99 [I a.what,I 1,I 17] s (I 8) s:=fun s=>by
  have:=z0g s a.what 1 17 (by decide) (by decide) (by decide)
  have e:inD a.what 1 17=8:=e;rw[e]at this;exact this
 have hD:z08 a={ baseR a with sta:=inD a.sta 0 3 }:=by
  unfold z08;simp[e]
 rw[hD];unfold baseR;rw[e];generalize tokOf (inD a.who 0 6)=tk at h2⊢;generalize inD a.who 0 6=w at h1 h2;have k1:=fun s=>z0g s a.sta 0 3 (by decide) (by decide) (by decide)
 generalize inD a.sta 0 3=v1 at k1⊢;refine Ans.subR (r:=.agg [Sx tk,I 8,I 0,Sx ⟨#[]⟩,UN 0,UN 0,I v1,.nils,Bo false,Fl 0,Fl 0,.nils,.nils,Bo false,Fl 0,Fl 0,.nils,.nils,Fl 0]) ?_ (.agg (.cons (.refl _) <| .cons (.refl _) <| .cons (.refl _) <| .cons (.refl _) <| .cons (.refl _) <| .cons (.refl _) <| .cons (.refl _) <| .cons (.nils 3) <| .cons (.refl _) <| .cons (.refl _) <| .cons (.refl _) <| .cons (.nils 3) <| .cons (.nils 3) <| .cons (.refl _) <| .cons (.refl _) <| .cons (.refl _) <| .cons (.nils 1) <| .cons (.nils 2) <| .cons (.refl _) <| .nil))
 have hbl:Bel σ.length (.agg [Sx tk,I 8,I 0,Sx ⟨#[]⟩,UN 0,UN 0,I v1,.nils,Bo false,Fl 0,Fl 0,.nils,.nils,Bo false,Fl 0,Fl 0,.nils,.nils,Fl 0]):=.agg _ (fun i hi=>by
  have:∀y∈([Sx tk,I 8,I 0,Sx ⟨#[]⟩,UN 0,UN 0,I v1,.nils,Bo false,Fl 0,Fl 0,.nils,.nils,Bo false,Fl 0,Fl 0,.nils,.nils,Fl 0]:List AV),Bel σ.length y:=by
   intro y hy;simp only[List.mem_cons,List.not_mem_nil,or_false]at hy;rcases hy with rfl|rfl|rfl|rfl|rfl|rfl|rfl|rfl|rfl|rfl|rfl|rfl|rfl|rfl|rfl|rfl|rfl|rfl|rfl
   all_goals first|exact .pl _|exact .nils|exact z0a _ _|exact z0x _ _|exact z0d _ _
  exact this _ (List.getElem_mem hi))
 refine Ans.of_run' t41 (fun hbel _=>?_)
 unfold acV acC;simp -implicitDefEqProofs only[c41,r41,go_sem,z00];refine CS.intro h1 ?_;simp -implicitDefEqProofs only[go_sem,z00];refine CS.intro h2 ?_;simp -implicitDefEqProofs only[go_sem,z00];refine CS.intro h3 ?_;simp -implicitDefEqProofs only[go_sem,z00,List.append_assoc,List.length_append,g0,g1,s0,s1];refine CO.intro (k1 _) ?_;simp -implicitDefEqProofs only[go_sem,g0,g1,s0,s1];exact tr_ (σ':=σ) (ex:=[_,_]) rfl hbl hbel
end
section
variable (σ:St)
set_option maxHeartbeats 4000000 in
theorem act_9 (a:AcM) (e:opA a=9):Ans Tryz.prog 41 [acV a] σ (reV (z08 a)) σ:=by
 have h1:=fun s=>z0g s a.who 0 6 (by decide) (by decide) (by decide)
 have h2:=fun s=>z0I s (inD a.who 0 6)
 have h3:∀s,Ans Tryz.prog 99 [I a.what,I 1,I 17] s (I 9) s:=fun s=>by
  have:=z0g s a.what 1 17 (by decide) (by decide) (by decide)
  have e:inD a.what 1 17=9:=e;rw[e]at this;exact this
 have hD:z08 a={ baseR a with ru:=z44 a.ru }:=by
  unfold z08;simp[e]
 rw[hD];unfold baseR;rw[e];generalize tokOf (inD a.who 0 6)=tk at h2⊢;generalize inD a.who 0 6=w at h1 h2;have k1:=fun s=>zeO s a.ru
 unfold duV duC at k1;generalize z44 a.ru=ru at k1⊢;obtain⟨rs,rt,ra,rl,rh,re⟩:=ru;unfold ruV at k1;simp only at k1⊢;refine Ans.subR (r:=.agg [Sx tk,I 9,I 0,Sx ⟨#[]⟩,UN 0,UN 0,I 0,.nils,Bo false,Fl 0,Fl 0,mlV rs,mlV rt,Bo ra,Fl rl,Fl rh,.sl 1 (txs re),.nils,Fl 0]) ?_ (.agg (.cons (.refl _) <| .cons (.refl _) <| .cons (.refl _) <| .cons (.refl _) <| .cons (.refl _) <| .cons (.refl _) <| .cons (.refl _) <| .cons (.nils 3) <| .cons (.refl _) <| .cons (.refl _) <| .cons (.refl _) <| .cons (.refl _) <| .cons (.refl _) <| .cons (.refl _) <| .cons (.refl _) <| .cons (.refl _) <| .cons (.refl _) <| .cons (.nils 2) <| .cons (.refl _) <| .nil))
 have hbl:Bel σ.length (.agg [Sx tk,I 9,I 0,Sx ⟨#[]⟩,UN 0,UN 0,I 0,.nils,Bo false,Fl 0,Fl 0,mlV rs,mlV rt,Bo ra,Fl rl,Fl rh,.sl 1 (txs re),.nils,Fl 0]):=.agg _ (fun i hi=>by
  have:∀y∈([Sx tk,I 9,I 0,Sx ⟨#[]⟩,UN 0,UN 0,I 0,.nils,Bo false,Fl 0,Fl 0,mlV rs,mlV rt,Bo ra,Fl rl,Fl rh,.sl 1 (txs re),.nils,Fl 0]:List AV),Bel σ.length y:=by
   intro y hy;simp only[List.mem_cons,List.not_mem_nil,or_false]at hy;rcases hy with rfl|rfl|rfl|rfl|rfl|rfl|rfl|rfl|rfl|rfl|rfl|rfl|rfl|rfl|rfl|rfl|rfl|rfl|rfl
   all_goals first|exact .pl _|exact .nils|exact z0a _ _|exact z0x _ _|exact z0d _ _
  exact this _ (List.getElem_mem hi))
 refine Ans.of_run' t41 (fun hbel _=>?_)
 unfold acV acC;simp -implicitDefEqProofs only[c41,r41,go_sem,z00];refine CS.intro h1 ?_;simp -implicitDefEqProofs only[go_sem,z00];refine CS.intro h2 ?_;simp -implicitDefEqProofs only[go_sem,z00];refine CS.intro h3 ?_;simp -implicitDefEqProofs only[go_sem,z00,List.append_assoc,List.length_append,g0,g1,s0,s1];refine CO.intro (k1 _) ?_;simp -implicitDefEqProofs only[go_sem,g0,g1,s0,s1];exact tr_ (σ':=σ) (ex:=[_,_]) rfl hbl hbel
set_option maxHeartbeats 4000000 in
theorem zio (a:AcM) (e:opA a=10):Ans Tryz.prog 41 [acV a] σ (reV (z08 a)) σ:=by
 have h1:=fun s=>z0g s a.who 0 6 (by decide) (by decide) (by decide)
 have h2:=fun s=>z0I s (inD a.who 0 6)
 have h3:∀s,Ans Tryz.prog 99 [I a.what,I 1,I 17] s (I 10) s:=fun s=>by
  have:=z0g s a.what 1 17 (by decide) (by decide) (by decide)
  have e:inD a.what 1 17=10:=e;rw[e]at this;exact this
 have hD:z08 a={ baseR a with id:=inD a.id 0 20 }:=by
  unfold z08;simp[e]
 rw[hD];unfold baseR;rw[e];generalize tokOf (inD a.who 0 6)=tk at h2⊢;generalize inD a.who 0 6=w at h1 h2;have k1:=fun s=>z0g s a.id 0 20 (by decide) (by decide) (by decide)
 generalize inD a.id 0 20=v1 at k1⊢;refine Ans.subR (r:=.agg [Sx tk,I 10,I v1,Sx ⟨#[]⟩,UN 0,UN 0,I 0,.nils,Bo false,Fl 0,Fl 0,.nils,.nils,Bo false,Fl 0,Fl 0,.nils,.nils,Fl 0]) ?_ (.agg (.cons (.refl _) <| .cons (.refl _) <| .cons (.refl _) <| .cons (.refl _) <| .cons (.refl _) <| .cons (.refl _) <| .cons (.refl _) <| .cons (.nils 3) <| .cons (.refl _) <| .cons (.refl _) <| .cons (.refl _) <| .cons (.nils 3) <| .cons (.nils 3) <| .cons (.refl _) <| .cons (.refl _) <| .cons (.refl _) <| .cons (.nils 1) <| .cons (.nils 2) <| .cons (.refl _) <| .nil))
 have hbl:Bel σ.length (.agg [Sx tk,I 10,I v1,Sx ⟨#[]⟩,UN 0,UN 0,I 0,.nils,Bo false,Fl 0,Fl 0,.nils,.nils,Bo false,Fl 0,Fl 0,.nils,.nils,Fl 0]):=.agg _ (fun i hi=>by
  have:∀y∈([Sx tk,I 10,I v1,Sx ⟨#[]⟩,UN 0,UN 0,I 0,.nils,Bo false,Fl 0,Fl 0,.nils,.nils,Bo false,Fl 0,Fl 0,.nils,.nils,Fl 0]:List AV),Bel σ.length y:=by
   intro y hy;simp only[List.mem_cons,List.not_mem_nil,or_false]at hy;rcases hy with rfl|rfl|rfl|rfl|rfl|rfl|rfl|rfl|rfl|rfl|rfl|rfl|rfl|rfl|rfl|rfl|rfl|rfl|rfl
   all_goals first|exact .pl _|exact .nils|exact z0a _ _|exact z0x _ _|exact z0d _ _
  exact this _ (List.getElem_mem hi))
 refine Ans.of_run' t41 (fun hbel _=>?_)
 unfold acV acC;simp -implicitDefEqProofs only[c41,r41,go_sem,z00];refine CS.intro h1 ?_;simp -implicitDefEqProofs only[go_sem,z00];refine CS.intro h2 ?_;simp -implicitDefEqProofs only[go_sem,z00];refine CS.intro h3 ?_;simp -implicitDefEqProofs only[go_sem,z00,List.append_assoc,List.length_append,g0,g1,s0,s1];refine CO.intro (k1 _) ?_;simp -implicitDefEqProofs only[go_sem,g0,g1,s0,s1];exact tr_ (σ':=σ) (ex:=[_,_]) rfl hbl hbel
set_option maxHeartbeats 4000000 in
theorem ziq (a:AcM) (e:opA a=11):Ans Tryz.prog 41 [acV a] σ (reV (z08 a)) σ:=by
 have h1:=fun s=>z0g s a.who 0 6 (by decide) (by decide) (by decide)
 have h2:=fun s=>z0I s (inD a.who 0 6)
 have h3:∀s,Ans Tryz.prog 99 [I a.what,I 1,I 17] s (I 11) s:=fun s=>by
  have:=z0g s a.what 1 17 (by decide) (by decide) (by decide)
  have e:inD a.what 1 17=11:=e;rw[e]at this;exact this
 have hD:z08 a={ baseR a with ls:=z2l a.ns,val:=a.val }:=by
  unfold z08;simp[e]
 rw[hD];unfold baseR;rw[e];generalize tokOf (inD a.who 0 6)=tk at h2⊢;generalize inD a.who 0 6=w at h1 h2;have k1:=fun s=>zd5 s a.ns
 generalize z2l a.ns=ls at k1⊢;refine Ans.subR (r:=.agg [Sx tk,I 11,I 0,Sx ⟨#[]⟩,UN 0,UN 0,I 0,.nils,Bo false,Fl 0,Fl 0,.nils,.nils,Bo false,Fl 0,Fl 0,.nils,lsV ls,Fl a.val]) ?_ (.agg (.cons (.refl _) <| .cons (.refl _) <| .cons (.refl _) <| .cons (.refl _) <| .cons (.refl _) <| .cons (.refl _) <| .cons (.refl _) <| .cons (.nils 3) <| .cons (.refl _) <| .cons (.refl _) <| .cons (.refl _) <| .cons (.nils 3) <| .cons (.nils 3) <| .cons (.refl _) <| .cons (.refl _) <| .cons (.refl _) <| .cons (.nils 1) <| .cons (.refl _) <| .cons (.refl _) <| .nil))
 have hbl:Bel σ.length (.agg [Sx tk,I 11,I 0,Sx ⟨#[]⟩,UN 0,UN 0,I 0,.nils,Bo false,Fl 0,Fl 0,.nils,.nils,Bo false,Fl 0,Fl 0,.nils,lsV ls,Fl a.val]):=.agg _ (fun i hi=>by
  have:∀y∈([Sx tk,I 11,I 0,Sx ⟨#[]⟩,UN 0,UN 0,I 0,.nils,Bo false,Fl 0,Fl 0,.nils,.nils,Bo false,Fl 0,Fl 0,.nils,lsV ls,Fl a.val]:List AV),Bel σ.length y:=by
   intro y hy;simp only[List.mem_cons,List.not_mem_nil,or_false]at hy;rcases hy with rfl|rfl|rfl|rfl|rfl|rfl|rfl|rfl|rfl|rfl|rfl|rfl|rfl|rfl|rfl|rfl|rfl|rfl|rfl
   all_goals first|exact .pl _|exact .nils|exact z0a _ _|exact z0x _ _|exact z0d _ _
  exact this _ (List.getElem_mem hi))
 refine Ans.of_run' t41 (fun hbel _=>?_)
 unfold acV acC;simp -implicitDefEqProofs only[c41,r41,go_sem,z00];refine CS.intro h1 ?_;simp -implicitDefEqProofs only[go_sem,z00];refine CS.intro h2 ?_;simp -implicitDefEqProofs only[go_sem,z00];refine CS.intro h3 ?_;simp -implicitDefEqProofs only[go_sem,z00,List.append_assoc,List.length_append,g0,g1,s0,s1];refine CD.intro (k1 _) ?_;simp -implicitDefEqProofs only[go_sem,g0,g1,s0,s1];exact tr_ (σ':=σ) (ex:=[_,_]) rfl hbl hbel
set_option maxHeartbeats 4000000 in
theorem zir (a:AcM) (e:opA a=12):Ans Tryz.prog 41 [acV a] σ (reV (z08 a)) σ:=by
 have h1:=fun s=>z0g s a.who 0 6 (by decide) (by decide) (by decide)
 have h2:=fun s=>z0I s (inD a.who 0 6)
 have h3:∀s,Ans Tryz.prog 99 [I a.what,I 1,I 17] s (I 12) s:=fun s=>by
  have:=z0g s a.what 1 17 (by decide) (by decide) (by decide)
  have e:inD a.what 1 17=12:=e;rw[e]at this;exact this
 have hD:z08 a={ baseR a with id:=inD a.id 0 20 }:=by
  unfold z08;simp[e]
 rw[hD];unfold baseR;rw[e];generalize tokOf (inD a.who 0 6)=tk at h2⊢;generalize inD a.who 0 6=w at h1 h2;have k1:=fun s=>z0g s a.id 0 20 (by decide) (by decide) (by decide)
 generalize inD a.id 0 20=v1 at k1⊢;refine Ans.subR (r:=.agg [Sx tk,I 12,I v1,Sx ⟨#[]⟩,UN 0,UN 0,I 0,.nils,Bo false,Fl 0,Fl 0,.nils,.nils,Bo false,Fl 0,Fl 0,.nils,.nils,Fl 0]) ?_ (.agg (.cons (.refl _) <| .cons (.refl _) <| .cons (.refl _) <| .cons (.refl _) <| .cons (.refl _) <| .cons (.refl _) <| .cons (.refl _) <| .cons (.nils 3) <| .cons (.refl _) <| .cons (.refl _) <| .cons (.refl _) <| .cons (.nils 3) <| .cons (.nils 3) <| .cons (.refl _) <| .cons (.refl _) <| .cons (.refl _) <| .cons (.nils 1) <| .cons (.nils 2) <| .cons (.refl _) <| .nil))
 have hbl:Bel σ.length (.agg [Sx tk,I 12,I v1,Sx ⟨#[]⟩,UN 0,UN 0,I 0,.nils,Bo false,Fl 0,Fl 0,.nils,.nils,Bo false,Fl 0,Fl 0,.nils,.nils,Fl 0]):=.agg _ (fun i hi=>by
  have:∀y∈([Sx tk,I 12,I v1,Sx ⟨#[]⟩,UN 0,UN 0,I 0,.nils,Bo false,Fl 0,Fl 0,.nils,.nils,Bo false,Fl 0,Fl 0,.nils,.nils,Fl 0]:List AV),Bel σ.length y:=by
   intro y hy;simp only[List.mem_cons,List.not_mem_nil,or_false]at hy;rcases hy with rfl|rfl|rfl|rfl|rfl|rfl|rfl|rfl|rfl|rfl|rfl|rfl|rfl|rfl|rfl|rfl|rfl|rfl|rfl
   all_goals first|exact .pl _|exact .nils|exact z0a _ _|exact z0x _ _|exact z0d _ _
  exact this _ (List.getElem_mem hi))
 refine Ans.of_run' t41 (fun hbel _=>?_)
 unfold acV acC;simp -implicitDefEqProofs only[c41,r41,go_sem,z00];refine CS.intro h1 ?_;simp -implicitDefEqProofs only[go_sem,z00];refine CS.intro h2 ?_;simp -implicitDefEqProofs only[go_sem,z00];refine CS.intro h3 ?_;simp -implicitDefEqProofs only[go_sem,z00,List.append_assoc,List.length_append,g0,g1,s0,s1];refine CO.intro (k1 _) ?_;simp -implicitDefEqProofs only[go_sem,g0,g1,s0,s1];exact tr_ (σ':=σ) (ex:=[_,_]) rfl hbl hbel
set_option maxHeartbeats 4000000 in
theorem zis (a:AcM) (e:opA a=13):Ans Tryz.prog 41 [acV a] σ (reV (z08 a)) σ:=by
 have h1:=fun s=>z0g s a.who 0 6 (by decide) (by decide) (by decide)
 have h2:=fun s=>z0I s (inD a.who 0 6)
 have h3:∀s,Ans Tryz.prog 99 [I a.what,I 1,I 17] s (I 13) s:=fun s=>by
  have:=z0g s a.what 1 17 (by decide) (by decide) (by decide)
  have e:inD a.what 1 17=13:=e;rw[e]at this;exact this
 have hD:z08 a={ baseR a with mt:=mustL false (z0z a.ds []) }:=by
  unfold z08;simp[e]
 rw[hD];unfold baseR;rw[e];generalize tokOf (inD a.who 0 6)=tk at h2⊢;generalize inD a.who 0 6=w at h1 h2;have k4:∀s,Ans Tryz.prog 79 [.sl 3 (a.ds.map dv),Bo false] s (.sl 3 (mvs3 (mustL false (z0z a.ds [])))) s:=fun s=>z3C s false a.ds a.hd
 generalize mustL false (z0z a.ds [])=M at k4⊢;refine Ans.subR (r:=.agg [Sx tk,I 13,I 0,Sx ⟨#[]⟩,UN 0,UN 0,I 0,mlV M,Bo false,Fl 0,Fl 0,.nils,.nils,Bo false,Fl 0,Fl 0,.nils,.nils,Fl 0]) ?_ (.agg (.cons (.refl _) <| .cons (.refl _) <| .cons (.refl _) <| .cons (.refl _) <| .cons (.refl _) <| .cons (.refl _) <| .cons (.refl _) <| .cons (.refl _) <| .cons (.refl _) <| .cons (.refl _) <| .cons (.refl _) <| .cons (.nils 3) <| .cons (.nils 3) <| .cons (.refl _) <| .cons (.refl _) <| .cons (.refl _) <| .cons (.nils 1) <| .cons (.nils 2) <| .cons (.refl _) <| .nil))
 have hbl:Bel σ.length (.agg [Sx tk,I 13,I 0,Sx ⟨#[]⟩,UN 0,UN 0,I 0,mlV M,Bo false,Fl 0,Fl 0,.nils,.nils,Bo false,Fl 0,Fl 0,.nils,.nils,Fl 0]):=.agg _ (fun i hi=>by
  have:∀y∈([Sx tk,I 13,I 0,Sx ⟨#[]⟩,UN 0,UN 0,I 0,mlV M,Bo false,Fl 0,Fl 0,.nils,.nils,Bo false,Fl 0,Fl 0,.nils,.nils,Fl 0]:List AV),Bel σ.length y:=by
   intro y hy;simp only[List.mem_cons,List.not_mem_nil,or_false]at hy;rcases hy with rfl|rfl|rfl|rfl|rfl|rfl|rfl|rfl|rfl|rfl|rfl|rfl|rfl|rfl|rfl|rfl|rfl|rfl|rfl
   all_goals first|exact .pl _|exact .nils|exact z0a _ _|exact z0x _ _|exact z0d _ _
  exact this _ (List.getElem_mem hi))
 refine Ans.of_run' t41 (fun hbel _=>?_)
 unfold acV acC;simp -implicitDefEqProofs only[c41,r41,go_sem,z00];refine CS.intro h1 ?_;simp -implicitDefEqProofs only[go_sem,z00];refine CS.intro h2 ?_;simp -implicitDefEqProofs only[go_sem,z00];refine CS.intro h3 ?_;simp -implicitDefEqProofs only[go_sem,z00,List.append_assoc,List.length_append,g0,g1,s0,s1];refine CO.intro (k4 _) ?_;simp -implicitDefEqProofs only[go_sem,g0,g1,s0,s1];exact tr_ (σ':=σ) (ex:=[_,_]) rfl hbl hbel
end
section
variable (σ:St)
set_option maxHeartbeats 4000000 in
theorem zit (a:AcM) (e:opA a=14):Ans Tryz.prog 41 [acV a] σ (reV (z08 a)) σ:=by
 have h1:=fun s=>z0g s a.who 0 6 (by decide) (by decide) (by decide)
 have h2:=fun s=>z0I s (inD a.who 0 6)
 have h3:∀s,Ans Tryz.prog 99 [I a.what,I 1,I 17] s (I 14) s:=fun s=>by
  have:=z0g s a.what 1 17 (by decide) (by decide) (by decide)
  have e:inD a.what 1 17=14:=e;rw[e]at this;exact this
 have hD:z08 a=baseR a:=by
  unfold z08;simp[e]
 rw[hD];unfold baseR;rw[e];generalize tokOf (inD a.who 0 6)=tk at h2⊢;generalize inD a.who 0 6=w at h1 h2;refine Ans.subR (r:=.agg [Sx tk,I 14,I 0,Sx ⟨#[]⟩,UN 0,UN 0,I 0,.nils,Bo false,Fl 0,Fl 0,.nils,.nils,Bo false,Fl 0,Fl 0,.nils,.nils,Fl 0]) ?_ (.agg (.cons (.refl _) <| .cons (.refl _) <| .cons (.refl _) <| .cons (.refl _) <| .cons (.refl _) <| .cons (.refl _) <| .cons (.refl _) <| .cons (.nils 3) <| .cons (.refl _) <| .cons (.refl _) <| .cons (.refl _) <| .cons (.nils 3) <| .cons (.nils 3) <| .cons (.refl _) <| .cons (.refl _) <| .cons (.refl _) <| .cons (.nils 1) <| .cons (.nils 2) <| .cons (.refl _) <| .nil))
 have hbl:Bel σ.length (.agg [Sx tk,I 14,I 0,Sx ⟨#[]⟩,UN 0,UN 0,I 0,.nils,Bo false,Fl 0,Fl 0,.nils,.nils,Bo false,Fl 0,Fl 0,.nils,.nils,Fl 0]):=.agg _ (fun i hi=>by
  have:∀y∈([Sx tk,I 14,I 0,Sx ⟨#[]⟩,UN 0,UN 0,I 0,.nils,Bo false,Fl 0,Fl 0,.nils,.nils,Bo false,Fl 0,Fl 0,.nils,.nils,Fl 0]:List AV),Bel σ.length y:=by
   intro y hy;simp only[List.mem_cons,List.not_mem_nil,or_false]at hy;rcases hy with rfl|rfl|rfl|rfl|rfl|rfl|rfl|rfl|rfl|rfl|rfl|rfl|rfl|rfl|rfl|rfl|rfl|rfl|rfl
   all_goals first|exact .pl _|exact .nils|exact z0a _ _|exact z0x _ _|exact z0d _ _
  exact this _ (List.getElem_mem hi))
 refine Ans.of_run' t41 (fun hbel _=>?_)
 unfold acV acC;simp -implicitDefEqProofs only[c41,r41,go_sem,z00];refine CS.intro h1 ?_;simp -implicitDefEqProofs only[go_sem,z00];refine CS.intro h2 ?_;simp -implicitDefEqProofs only[go_sem,z00];refine CS.intro h3 ?_;simp -implicitDefEqProofs only[go_sem,z00,List.append_assoc,List.length_append,g0,g1,s0,s1];exact tr_ (σ':=σ) (ex:=[_,_]) rfl hbl hbel
set_option maxHeartbeats 4000000 in
theorem ziu (a:AcM) (e:opA a=15):Ans Tryz.prog 41 [acV a] σ (reV (z08 a)) σ:=by
 have h1:=fun s=>z0g s a.who 0 6 (by decide) (by decide) (by decide)
 have h2:=fun s=>z0I s (inD a.who 0 6)
 have h3:∀s,Ans Tryz.prog 99 [I a.what,I 1,I 17] s (I 15) s:=fun s=>by
  have:=z0g s a.what 1 17 (by decide) (by decide) (by decide)
  have e:inD a.what 1 17=15:=e;rw[e]at this;exact this
 have hD:z08 a={ baseR a with id:=inD a.id 0 20 }:=by
  unfold z08;simp[e]
 rw[hD];unfold baseR;rw[e];generalize tokOf (inD a.who 0 6)=tk at h2⊢;generalize inD a.who 0 6=w at h1 h2;have k1:=fun s=>z0g s a.id 0 20 (by decide) (by decide) (by decide)
 generalize inD a.id 0 20=v1 at k1⊢;refine Ans.subR (r:=.agg [Sx tk,I 15,I v1,Sx ⟨#[]⟩,UN 0,UN 0,I 0,.nils,Bo false,Fl 0,Fl 0,.nils,.nils,Bo false,Fl 0,Fl 0,.nils,.nils,Fl 0]) ?_ (.agg (.cons (.refl _) <| .cons (.refl _) <| .cons (.refl _) <| .cons (.refl _) <| .cons (.refl _) <| .cons (.refl _) <| .cons (.refl _) <| .cons (.nils 3) <| .cons (.refl _) <| .cons (.refl _) <| .cons (.refl _) <| .cons (.nils 3) <| .cons (.nils 3) <| .cons (.refl _) <| .cons (.refl _) <| .cons (.refl _) <| .cons (.nils 1) <| .cons (.nils 2) <| .cons (.refl _) <| .nil))
 have hbl:Bel σ.length (.agg [Sx tk,I 15,I v1,Sx ⟨#[]⟩,UN 0,UN 0,I 0,.nils,Bo false,Fl 0,Fl 0,.nils,.nils,Bo false,Fl 0,Fl 0,.nils,.nils,Fl 0]):=.agg _ (fun i hi=>by
  have:∀y∈([Sx tk,I 15,I v1,Sx ⟨#[]⟩,UN 0,UN 0,I 0,.nils,Bo false,Fl 0,Fl 0,.nils,.nils,Bo false,Fl 0,Fl 0,.nils,.nils,Fl 0]:List AV),Bel σ.length y:=by
   intro y hy;simp only[List.mem_cons,List.not_mem_nil,or_false]at hy;rcases hy with rfl|rfl|rfl|rfl|rfl|rfl|rfl|rfl|rfl|rfl|rfl|rfl|rfl|rfl|rfl|rfl|rfl|rfl|rfl
   all_goals first|exact .pl _|exact .nils|exact z0a _ _|exact z0x _ _|exact z0d _ _
  exact this _ (List.getElem_mem hi))
 refine Ans.of_run' t41 (fun hbel _=>?_)
 unfold acV acC;simp -implicitDefEqProofs only[c41,r41,go_sem,z00];refine CS.intro h1 ?_;simp -implicitDefEqProofs only[go_sem,z00];refine CS.intro h2 ?_;simp -implicitDefEqProofs only[go_sem,z00];refine CS.intro h3 ?_;simp -implicitDefEqProofs only[go_sem,z00,List.append_assoc,List.length_append,g0,g1,s0,s1];refine CO.intro (k1 _) ?_;simp -implicitDefEqProofs only[go_sem,g0,g1,s0,s1];exact tr_ (σ':=σ) (ex:=[_,_]) rfl hbl hbel
set_option maxHeartbeats 4000000 in
theorem ziv (a:AcM) (e:opA a=16):Ans Tryz.prog 41 [acV a] σ (reV (z08 a)) σ:=by
 have h1:=fun s=>z0g s a.who 0 6 (by decide) (by decide) (by decide)
 have h2:=fun s=>z0I s (inD a.who 0 6)
 have h3:∀s,Ans Tryz.prog 99 [I a.what,I 1,I 17] s (I 16) s:=fun s=>by
  have:=z0g s a.what 1 17 (by decide) (by decide) (by decide)
  have e:inD a.what 1 17=16:=e;rw[e]at this;exact this
 have hD:z08 a=baseR a:=by
  unfold z08;simp[e]
 rw[hD];unfold baseR;rw[e];generalize tokOf (inD a.who 0 6)=tk at h2⊢;generalize inD a.who 0 6=w at h1 h2;refine Ans.subR (r:=.agg [Sx tk,I 16,I 0,Sx ⟨#[]⟩,UN 0,UN 0,I 0,.nils,Bo false,Fl 0,Fl 0,.nils,.nils,Bo false,Fl 0,Fl 0,.nils,.nils,Fl 0]) ?_ (.agg (.cons (.refl _) <| .cons (.refl _) <| .cons (.refl _) <| .cons (.refl _) <| .cons (.refl _) <| .cons (.refl _) <| .cons (.refl _) <| .cons (.nils 3) <| .cons (.refl _) <| .cons (.refl _) <| .cons (.refl _) <| .cons (.nils 3) <| .cons (.nils 3) <| .cons (.refl _) <| .cons (.refl _) <| .cons (.refl _) <| .cons (.nils 1) <| .cons (.nils 2) <| .cons (.refl _) <| .nil))
 have hbl:Bel σ.length (.agg [Sx tk,I 16,I 0,Sx ⟨#[]⟩,UN 0,UN 0,I 0,.nils,Bo false,Fl 0,Fl 0,.nils,.nils,Bo false,Fl 0,Fl 0,.nils,.nils,Fl 0]):=.agg _ (fun i hi=>by
  have:∀y∈([Sx tk,I 16,I 0,Sx ⟨#[]⟩,UN 0,UN 0,I 0,.nils,Bo false,Fl 0,Fl 0,.nils,.nils,Bo false,Fl 0,Fl 0,.nils,.nils,Fl 0]:List AV),Bel σ.length y:=by
   intro y hy;simp only[List.mem_cons,List.not_mem_nil,or_false]at hy;rcases hy with rfl|rfl|rfl|rfl|rfl|rfl|rfl|rfl|rfl|rfl|rfl|rfl|rfl|rfl|rfl|rfl|rfl|rfl|rfl
   all_goals first|exact .pl _|exact .nils|exact z0a _ _|exact z0x _ _|exact z0d _ _
  exact this _ (List.getElem_mem hi))
 refine Ans.of_run' t41 (fun hbel _=>?_)
 unfold acV acC;simp -implicitDefEqProofs only[c41,r41,go_sem,z00];refine CS.intro h1 ?_;simp -implicitDefEqProofs only[go_sem,z00];refine CS.intro h2 ?_;simp -implicitDefEqProofs only[go_sem,z00];refine CS.intro h3 ?_;simp -implicitDefEqProofs only[go_sem,z00,List.append_assoc,List.length_append,g0,g1,s0,s1];exact tr_ (σ':=σ) (ex:=[_,_]) rfl hbl hbel
set_option maxHeartbeats 4000000 in
theorem ziw (a:AcM) (e:opA a=17):Ans Tryz.prog 41 [acV a] σ (reV (z08 a)) σ:=by
 have h1:=fun s=>z0g s a.who 0 6 (by decide) (by decide) (by decide)
 have h2:=fun s=>z0I s (inD a.who 0 6)
 have h3:∀s,Ans Tryz.prog 99 [I a.what,I 1,I 17] s (I 17) s:=fun s=>by
  have:=z0g s a.what 1 17 (by decide) (by decide) (by decide)
  have e:inD a.what 1 17=17:=e;rw[e]at this;exact this
 have hD:z08 a=baseR a:=by
  unfold z08;simp[e]
 rw[hD];unfold baseR;rw[e];generalize tokOf (inD a.who 0 6)=tk at h2⊢;generalize inD a.who 0 6=w at h1 h2;refine Ans.subR (r:=.agg [Sx tk,I 17,I 0,Sx ⟨#[]⟩,UN 0,UN 0,I 0,.nils,Bo false,Fl 0,Fl 0,.nils,.nils,Bo false,Fl 0,Fl 0,.nils,.nils,Fl 0]) ?_ (.agg (.cons (.refl _) <| .cons (.refl _) <| .cons (.refl _) <| .cons (.refl _) <| .cons (.refl _) <| .cons (.refl _) <| .cons (.refl _) <| .cons (.nils 3) <| .cons (.refl _) <| .cons (.refl _) <| .cons (.refl _) <| .cons (.nils 3) <| .cons (.nils 3) <| .cons (.refl _) <| .cons (.refl _) <| .cons (.refl _) <| .cons (.nils 1) <| .cons (.nils 2) <| .cons (.refl _) <| .nil))
 have hbl:Bel σ.length (.agg [Sx tk,I 17,I 0,Sx ⟨#[]⟩,UN 0,UN 0,I 0,.nils,Bo false,Fl 0,Fl 0,.nils,.nils,Bo false,Fl 0,Fl 0,.nils,.nils,Fl 0]):=.agg _ (fun i hi=>by
  have:∀y∈([Sx tk,I 17,I 0,Sx ⟨#[]⟩,UN 0,UN 0,I 0,.nils,Bo false,Fl 0,Fl 0,.nils,.nils,Bo false,Fl 0,Fl 0,.nils,.nils,Fl 0]:List AV),Bel σ.length y:=by
   intro y hy;simp only[List.mem_cons,List.not_mem_nil,or_false]at hy;rcases hy with rfl|rfl|rfl|rfl|rfl|rfl|rfl|rfl|rfl|rfl|rfl|rfl|rfl|rfl|rfl|rfl|rfl|rfl|rfl
   all_goals first|exact .pl _|exact .nils|exact z0a _ _|exact z0x _ _|exact z0d _ _
  exact this _ (List.getElem_mem hi))
 refine Ans.of_run' t41 (fun hbel _=>?_)
 unfold acV acC;simp -implicitDefEqProofs only[c41,r41,go_sem,z00];refine CS.intro h1 ?_;simp -implicitDefEqProofs only[go_sem,z00];refine CS.intro h2 ?_;simp -implicitDefEqProofs only[go_sem,z00];refine CS.intro h3 ?_;simp -implicitDefEqProofs only[go_sem,z00,List.append_assoc,List.length_append,g0,g1,s0,s1];exact tr_ (σ':=σ) (ex:=[_,_]) rfl hbl hbel
end
theorem z9W (σ:St) (a:AcM):Ans Tryz.prog 41 [acV a] σ (reV (z08 a)) σ:=by
 have hr:=z93 a;rcases ops17 (opA a) with e|e|e|e|e|e|e|e|e|e|e|e|e|e|e|e|e|e
 · exact act_1 σ a e
 · exact act_2 σ a e
 · exact act_3 σ a e
 · exact act_4 σ a e
 · exact act_5 σ a e
 · exact act_6 σ a e
 · exact act_7 σ a e
 · exact act_8 σ a e
 · exact act_9 σ a e
 · exact zio σ a e
 · exact ziq σ a e
 · exact zir σ a e
 · exact zis σ a e
 · exact zit σ a e
 · exact ziu σ a e
 · exact ziv σ a e
 · exact ziw σ a e
 · omega
theorem z_all:emS ⟨#[]⟩=true∧emU 0=true∧emI 0=true∧noBd (false,0,0)=true∧noRl noRu=true∧zF 0=true∧idR 0=true∧clkB 0=true∧staR 0=true∧listB []=true:=by decide +kernel
theorem zix {n:Int} (h0:0≤n) (h1:n≤6):tokB (tokOf n)=true:=by
 have e:inD n 0 7=n:=by unfold inD;rw[if_pos (by omega)]
 unfold tokOf;rw[e];obtain⟨k,rfl⟩:=Int.eq_ofNat_of_zero_le h0;have:k<7:=by omega
 match k,this with
 |0,_|1,_|2,_|3,_|4,_|5,_|6,_=>decide +kernel
theorem id_ok (n lo hi:Int) (h0:0≤lo) (h:lo≤hi) (h1:hi≤2147483647):idR (inD n lo hi)=true:=by
 have:=z4w n lo hi h;unfold idR;simp only[Bool.and_eq_true,decide_eq_true_eq];omega
theorem z77 (n lo hi:Int) (h:lo≤hi):lo≤emodW n lo hi∧emodW n lo hi≤hi:=by
 unfold emodW;have h3:=Int.emod_nonneg n (show hi-lo+1≠0 by omega)
 have h4:=Int.emod_lt_of_pos n (show 0<hi-lo+1 by omega)
 omega
theorem zfV (n k:Nat) (h:0<k) (h1:k≤1099511627776):clkB (n%k)=true:=by
 have:=Nat.mod_lt n h;unfold clkB;exact decide_eq_true (by omega)
theorem ziy (n:Int):staR (inD n 0 3)=true:=by
 have:=z4w n 0 3 (by decide)
 unfold staR;simp only[Bool.and_eq_true,decide_eq_true_eq];omega
theorem zfy (a:AcM):(z08 a).op=opA a:=by
 unfold z08;simp only
 repeat' split
 all_goals rfl
set_option maxHeartbeats 4000000 in
theorem zdN (a:AcM):mayR (z08 a)=true:=by
 have hr:=z93 a;obtain⟨z1,z2,z3,z4,z5,z6,z7,z8,z9,z10⟩:=z_all;have i20:=id_ok a.id 0 20 (by decide) (by decide) (by decide)
 have i7:=id_ok a.id 0 7 (by decide) (by decide) (by decide)
 have i13:=id_ok a.id 0 13 (by decide) (by decide) (by decide)
 have tk:=zix (z77 a.sta 0 6 (by decide)).1 (z77 a.sta 0 6 (by decide)).2
 have c1:=zfV a.st 60 (by decide) (by decide)
 have c2:=zfV a.en 90 (by decide) (by decide)
 have s3:=ziy a.sta;obtain⟨m1,m2,_⟩:=z6c a.ds;have m3:emI (mustL true (z0z a.ds [])).length=false:=m2;have m4:listB (mustL false (z0z a.ds []))=true:=z72 a.ds;have bm:=zaL a.sel a.lo a.hi;have ri:=zeV a.ru;have ls:=z7W a.ns;unfold mayR;rw[zfy];unfold z08 baseR silR z4M;generalize emodW a.sta 0 6=q1 at tk⊢;generalize inD a.id 0 20=v20 at i20⊢;generalize inD a.id 0 7=v7 at i7⊢;generalize inD a.id 0 13=v13 at i13⊢;generalize inD a.sta 0 3=v3 at s3⊢;generalize mustL true (z0z a.ds [])=M at m1 m3⊢;generalize mustL false (z0z a.ds [])=M' at m4⊢;generalize z1a a.sel a.lo a.hi=bd at bm⊢;generalize z44 a.ru=ru at ri⊢;generalize z2l a.ns=L at ls⊢;generalize opA a=op at hr⊢;generalize tokOf (inD a.who 0 6)=tok0;rcases ops17 op with e|e|e|e|e|e|e|e|e|e|e|e|e|e|e|e|e|e
 · have hf:fOf op=(0,true):=by rw[e];rfl
   rw[hf];simp[e,zeroB,z0n,hs_0,x0,z1,z2,z3,z4,z5,z6,z7,z8,z9,z10,i20,i7,i13,tk,c1,c2,s3,m1,m3,m4,bm,ri,ls]
 · have hf:fOf op=(1,true):=by rw[e];rfl
   rw[hf];simp[e,zeroB,z0n,hs_1,x0,z1,z2,z3,z4,z5,z6,z7,z8,z9,z10,i20,i7,i13,tk,c1,c2,s3,m1,m3,m4,bm,ri,ls]
 · have hf:fOf op=(3,true):=by rw[e];rfl
   rw[hf];simp[e,zeroB,z0n,hs_3,x0,z1,z2,z3,z4,z5,z6,z7,z8,z9,z10,i20,i7,i13,tk,c1,c2,s3,m1,m3,m4,bm,ri,ls]
 · have hf:fOf op=(3,true):=by rw[e];rfl
   rw[hf];simp[e,zeroB,z0n,hs_3,x0,z1,z2,z3,z4,z5,z6,z7,z8,z9,z10,i20,i7,i13,tk,c1,c2,s3,m1,m3,m4,bm,ri,ls]
 · have hf:fOf op=(116,true):=by rw[e];rfl
   rw[hf];simp[e,zeroB,z0n,z8L,x0,z1,z2,z3,z4,z5,z6,z7,z8,z9,z10,i20,i7,i13,tk,c1,c2,s3,m1,m3,m4,bm,ri,ls]
 · have hf:fOf op=(117,true):=by rw[e];rfl
   rw[hf];simp[e,zeroB,z0n,z8M,x0,z1,z2,z3,z4,z5,z6,z7,z8,z9,z10,i20,i7,i13,tk,c1,c2,s3,m1,m3,m4,bm,ri,ls]
 · have hf:fOf op=(1,true):=by rw[e];rfl
   rw[hf];simp[e,zeroB,z0n,hs_1,x0,z1,z2,z3,z4,z5,z6,z7,z8,z9,z10,i20,i7,i13,tk,c1,c2,s3,m1,m3,m4,bm,ri,ls]
 · have hf:fOf op=(8,true):=by rw[e];rfl
   rw[hf];simp[e,zeroB,z0n,hs_8,x0,z1,z2,z3,z4,z5,z6,z7,z8,z9,z10,i20,i7,i13,tk,c1,c2,s3,m1,m3,m4,bm,ri,ls]
 · have hf:fOf op=(128,true):=by rw[e];rfl
   rw[hf];simp[e,zeroB,z0n,z8N,x0,z1,z2,z3,z4,z5,z6,z7,z8,z9,z10,i20,i7,i13,tk,c1,c2,s3,m1,m3,m4,bm,ri,ls]
 · have hf:fOf op=(1,true):=by rw[e];rfl
   rw[hf];simp[e,zeroB,z0n,hs_1,x0,z1,z2,z3,z4,z5,z6,z7,z8,z9,z10,i20,i7,i13,tk,c1,c2,s3,m1,m3,m4,bm,ri,ls]
 · have hf:fOf op=(768,true):=by rw[e];rfl
   rw[hf];simp[e,zeroB,z0n,z8O,x0,z1,z2,z3,z4,z5,z6,z7,z8,z9,z10,i20,i7,i13,tk,c1,c2,s3,m1,m3,m4,bm,ri,ls]
 · have hf:fOf op=(1,true):=by rw[e];rfl
   rw[hf];simp[e,zeroB,z0n,hs_1,x0,z1,z2,z3,z4,z5,z6,z7,z8,z9,z10,i20,i7,i13,tk,c1,c2,s3,m1,m3,m4,bm,ri,ls]
 · have hf:fOf op=(16,true):=by rw[e];rfl
   rw[hf];simp[e,zeroB,z0n,hs_16,x0,z1,z2,z3,z4,z5,z6,z7,z8,z9,z10,i20,i7,i13,tk,c1,c2,s3,m1,m3,m4,bm,ri,ls]
 · have hf:fOf op=(0,true):=by rw[e];rfl
   rw[hf];simp[e,zeroB,z0n,hs_0,x0,z1,z2,z3,z4,z5,z6,z7,z8,z9,z10,i20,i7,i13,tk,c1,c2,s3,m1,m3,m4,bm,ri,ls]
 · have hf:fOf op=(1,true):=by rw[e];rfl
   rw[hf];simp[e,zeroB,z0n,hs_1,x0,z1,z2,z3,z4,z5,z6,z7,z8,z9,z10,i20,i7,i13,tk,c1,c2,s3,m1,m3,m4,bm,ri,ls]
 · have hf:fOf op=(0,true):=by rw[e];rfl
   rw[hf];simp[e,zeroB,z0n,hs_0,x0,z1,z2,z3,z4,z5,z6,z7,z8,z9,z10,i20,i7,i13,tk,c1,c2,s3,m1,m3,m4,bm,ri,ls]
 · have hf:fOf op=(0,true):=by rw[e];rfl
   rw[hf];simp[e,zeroB,z0n,hs_0,x0,z1,z2,z3,z4,z5,z6,z7,z8,z9,z10,i20,i7,i13,tk,c1,c2,s3,m1,m3,m4,bm,ri,ls]
 · omega
end Go.Proofs.YtmkmhhjkdaklbaaGreat
namespace Go.Proofs.YtmkmhhjkdaklbaaGreat
open Go Go.Ab Go.Cod Go.ChangeShapes Go.WideShapes Go.ChangeAt Go.RowKit
set_option maxRecDepth 100000
structure ActSz (a:AcM):Prop where
 val:a.val<2^64
 bd:a.lo<2^64∧a.hi<2^64
 ru:a.ru.lo<2^64∧a.ru.hi<2^64
theorem wf64i {n:Int} (h:(Lit.int .u64 n).wf=true):0≤n∧n<18446744073709551616:=by
 simp[Lit.wf,IntKind.min,IntKind.max,IntKind.bits,IntKind.signed]at h;omega
def QBytA:List AV→Prop:=fun xs=>∃b:Byt,xs=[.sl 1 (byv b)]
theorem zbR (f:Nat):Reads Tryz.prog 29 f QBytA:=by
 cases f with
 |zero=>exact Reads.zero
 |succ f =>
  refine((Reads.slice (sz:=1) false Tryz.underlying29 (by kernel_rfl) (by decide) (Reads.int Tryz.underlying5 f) (fun y hy _=>by obtain⟨n,_,rfl⟩:=hy;rfl)).weak QSlice.weak).mono fun xs hq=>?_
  obtain⟨ys,h1,h2,rfl⟩:=hq;obtain⟨b,e⟩:=z7D h1;exact⟨b,by rw[e]⟩
def QAct:List AV→Prop:=fun xs=>∃a:AcM,ActSz a∧xs=acC a
theorem zdO (f:Nat):Reads Tryz.prog 56 f QAct:=by
 cases f with
 |zero=>exact Reads.zero
 |succ f =>
  have h:=Reads.struct (P:=Tryz.prog) (t:=56) (f:=f) (Qs:=[QInt .i64,QInt .i64,QInt .i64,QInt .i64,QInt .u64,QInt .u64,QMats,QInts,z9V,QDRuW,z7V,QBytA]) Tryz.underlying56 (by kernel_rfl) rfl (by
   intro p hp;simp only[List.zip_cons_cons,List.zip_nil_right,List.mem_cons,List.not_mem_nil,or_false]at hp;rcases hp with rfl|rfl|rfl|rfl|rfl|rfl|rfl|rfl|rfl|rfl|rfl|rfl
   · exact Reads.int Tryz.underlying3 f
   · exact Reads.int Tryz.underlying3 f
   · exact Reads.int Tryz.underlying3 f
   · exact Reads.int Tryz.underlying3 f
   · exact Reads.int Tryz.underlying45 f
   · exact Reads.int Tryz.underlying45 f
   · exact z4K f
   · exact z71 f
   · exact z51 f
   · exact z92 f
   · exact Reads.floatW Tryz.underlying23 f
   · exact zbR f)
  refine h.mono fun xs hq=>?_
  obtain⟨_,_,rfl,⟨what,_,rfl⟩,_,_,rfl,⟨who,_,rfl⟩,_,_,rfl,⟨id,_,rfl⟩,_,_,rfl,⟨sta,_,rfl⟩,_,_,rfl,⟨st,hst,rfl⟩,_,_,rfl,⟨en,hen,rfl⟩,
   _,_,rfl,⟨ds,hd,rfl⟩,_,_,rfl,⟨ns,rfl⟩,_,_,rfl,⟨sel,lo,hi,h1,h2,rfl⟩,_,_,rfl,⟨ru,h3,h4,rfl⟩,_,_,rfl,⟨val,hv,rfl⟩,_,_,rfl,⟨raw,rfl⟩,rfl⟩:=hq
  obtain⟨a1,a2⟩:=wf64i hst;obtain⟨b1,b2⟩:=wf64i hen;obtain⟨n,rfl⟩:=Int.eq_ofNat_of_zero_le a1;obtain⟨m,rfl⟩:=Int.eq_ofNat_of_zero_le b1;exact⟨⟨what,who,id,sta,n,m,ds,ns,sel,lo,hi,ru,val,raw,hd,by omega,by omega⟩,⟨hv,⟨h1,h2⟩,⟨h3,h4⟩⟩,rfl⟩
theorem zha {H:Type} {enc:TypeId×Value→H} {W:World} {base:Nat} {v:Value} {d:DataW H} {ps:List MemPlace} (hv:Value.okWide Tryz.prog W .any base 56 v)
  (h:DataW.Trod enc Tryz.prog W 0 (fun _=>true) true 56 v d ps):∃a:AcM,ActSz a∧Rep noM noR W (acV a) v:=by
 obtain⟨cs,rfl,_⟩:=okWide_struct Tryz.underlying56 hv;obtain⟨xs,h1,r,h2,rfl⟩:=Reads.argS zdO h;exact⟨r,h2,h1⟩
end Go.Proofs.YtmkmhhjkdaklbaaGreat
