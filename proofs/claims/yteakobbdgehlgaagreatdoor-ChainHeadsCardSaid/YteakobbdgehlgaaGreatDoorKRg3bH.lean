/- A request laid as bytes, by the program. No condition. -/
import Derived.Test.YteakobbdgehlgaaGreatDoorKRb1H
import Derived.Test.YteakobbdgehlgaaGreatDoorKRq5dH
import Derived.Test.YteakobbdgehlgaaGreatDoorKRc6H
import Derived.Test.YteakobbdgehlgaaGreatDoorKRq1H
import Derived.Test.YteakobbdgehlgaaGreatDoorKShA1H
import Derived.Test.YteakobbdgehlgaaGreatDoorKXPPar6H
import Derived.Test.YteakobbdgehlgaaGreatDoorAbGloH
import Derived.Test.YteakobbdgehlgaaGreatDoorKXVi3H
set_option linter.unusedSimpArgs false
set_option linter.unusedVariables false
set_option linter.unusedSectionVars false
namespace Go.Proofs.YteakobbdgehlgaaGreatDoor
open Go Go.Ab Go.Cod
set_option maxRecDepth 100000
def opC (op:Int):UInt8:=op.toNat.toUInt8
def layF (f k:Int) (ps:List Byt) (B:Byt):Byt:=if hasF f k then B++ps.flatten else B
def putB1 (f:Int) (r:ReM):Byt:=layF f 4 [putN r.st,putN r.en] (layF f 2 [txtB r.txt] (layF f 1 [putN r.id.toNat] [opC r.op]))
def putB2 (f:Int) (r:ReM):Byt:=layF f 64 [putBd (r.any,r.lo,r.hi)] (layF f 16 [z3k r.mt] (layF f 8 [[opC r.sta]] (putB1 f r)))
def z0E (f:Int) (r:ReM):Byt:=layF f 512 [putV r.val] (layF f 256 [z3l r.ls] (layF f 128 [z1O r.ru] (putB2 f r)))
def z65 (r:ReM):Byt:=if mayR r then z0E (fOf r.op).1 r else[]
theorem zaG {c:Int} (h:0≤c) (h1:c≤17):IntKind.u8.wrap c=(((opC c).toNat:Nat):Int):=by
 obtain⟨n,rfl⟩:=Int.eq_ofNat_of_zero_le h;have:n<18:=by omega
 match n,this with
 |0,_|1,_|2,_|3,_|4,_|5,_|6,_|7,_|8,_|9,_|10,_|11,_|12,_|13,_|14,_|15,_|16,_|17,_=>rfl
section
variable (σ:St)
theorem z2h {f k:Int} {ps:List Byt} {B:Byt} {n m:Nat} (hB:B.length≤n) (hp:hasF f k=true→ps.flatten.length≤m):(layF f k ps B).length≤n+m:=by
 unfold layF;split
 · rename_i h;have:=hp h;rw[List.length_append];omega
 · omega
structure BdOk (r:ReM):Prop where
 op0:0≤r.op
 op1:r.op≤17
 id0:0≤r.id
 id1:r.id≤2147483647
 txt:r.txt.size≤16
 st:r.st≤1099511627776
 en:r.en≤1099511627776
 sta0:0≤r.sta
 sta1:r.sta≤3
 mt:listB r.mt=true
 ru:hasF (fOf r.op).1 128=true→ruIs r.ru=true
 ls:hasF (fOf r.op).1 256=true→setB r.ls=true
theorem bd_ok {r:ReM} (h:mayR r=true):BdOk r:=by
 have hop:1≤r.op∧r.op≤17:=by
  have:(fOf r.op).2=true:=by unfold mayR at h;simp only[Bool.and_eq_true]at h;exact h.1
  unfold fOf at this;split at this
  · assumption
  · cases this
 unfold mayR at h;simp only[Bool.and_eq_true]at h;obtain⟨_,hz,hr⟩:=h;unfold zeroB at hz;unfold z0i idR clkB staR at hr;simp only[Bool.and_eq_true,Bool.or_eq_true,decide_eq_true_eq,Bool.not_eq_true']at hz hr;obtain⟨hid,htx,hst,hen,hsta,hmt,_,_,hru,hls⟩:=hr;refine⟨by omega,hop.2,hid.1,hid.2,?_,by omega,by omega,hsta.1,hsta.2,hmt,fun h=>?_,fun h=>?_⟩
 · rcases htx with h|h
   · rcases hz.2.1 with h'|h'
     · rw[h]at h';cases h'
     · unfold emS at h';have:=eq_of_beq h';rw[ByteArray.toList_eq,ByteArray.toList_eq]at this;have h0:r.txt.size=0:=by rw[←z23,this];rfl
       omega
   · unfold tokB at h;simp only[Bool.and_eq_true,decide_eq_true_eq]at h;omega
 · rcases hru with h'|h'
   · rw[h]at h';cases h'
   · exact h'
 · rcases hls with h'|h'
   · rw[h]at h';cases h'
   · exact h'
theorem z8B {M:List Mtr} (h:listB M=true):0<([z3k M]:List Byt).flatten.length∧([z3k M]:List Byt).flatten.length≤510:=by
 have e:z3k M=putL M:=by unfold z3k;rw[h];rfl
 have:=zau M;have:=z7m h;simp only[List.flatten_cons,List.flatten_nil,List.append_nil,e];omega
theorem zdu {r:RuM} (h:ruIs r=true):0<([z1O r]:List Byt).flatten.length∧([z1O r]:List Byt).flatten.length≤100000:=by
 have e:z1O r=putR r:=by unfold z1O;rw[h];rfl
 have h0:=z7l r;have h1:=z56 h r.eq.length (Nat.le_refl _);have h5:=(z1Y h).2.2.2.1;rw[h0]at h1
 have hp:0<(putR r).length:=by
  have:=zau r.src;unfold putR;simp only[List.length_append];omega
 simp only[List.flatten_cons,List.flatten_nil,List.append_nil,e];omega
theorem zdv {L:List Lab} (h:setB L=true):0<([z3l L]:List Byt).flatten.length∧([z3l L]:List Byt).flatten.length≤1000:=by
 have e:z3l L=z62 L:=by unfold z3l;rw[h];rfl
 have h0:=zaF L;have h1:=z7r h L.length (Nat.le_refl _);have h2:=(z4D h).1;rw[h0]at h1
 have hp:0<(z62 L).length:=by
  have:=zc8 L.length;unfold z62 z2k
  cases h:putN L.length with
  |nil=>exact absurd h this
  |cons a b=>simp
 simp only[List.flatten_cons,List.flatten_nil,List.append_nil,e];omega
end
theorem zgE (r:RuM):([z1O r]:List Byt).flatten.length≤100000:=by
 cases h:ruIs r with
 |true=>exact(zdu h).2
 |false=>unfold z1O;rw[h];exact Nat.zero_le _
theorem zdw (L:List Lab):([z3l L]:List Byt).flatten.length≤1000:=by
 cases h:setB L with
 |true=>exact(zdv h).2
 |false=>unfold z3l;rw[h];exact Nat.zero_le _
section
variable (σ:St)
end
end Go.Proofs.YteakobbdgehlgaaGreatDoor
namespace Go.Ab
open Go Go.ChangeShapes Go.WideShapes
def z7s:List AV→Prop:=fun xs=>∃n:Nat,n<2^64∧xs=[.pl (.float .f64 n)]
theorem Reads.floatW {P:Program} {t:TypeId} (ht:P.underlying t=some (.float .f64)) (f:Nat):Reads P t f z7s:=by
 intro H enc W cs x h
 have:∃n,n<2^64∧cs=[.float .f64 n]:=by
  cases f with
  |zero=>simp[DataW.trod]at h
  |succ n =>
   unfold DataW.trod at h;rw[ht]at h;split at h<;>simp_all [Lit.wf]
   rename_i heq;subst heq;simp only at h;have h:=(Option.ite_none_right_eq_some.1 h).1;exact⟨of_decide_eq_true h.2,h.1⟩
 obtain⟨n,hn,rfl⟩:=this;exact⟨_,z3b (.pl _),n,hn,rfl⟩
end Go.Ab
namespace Go.Proofs.YteakobbdgehlgaaGreatDoor
open Go Go.Ab Go.Cod Go.ChangeShapes Go.WideShapes Go.ChangeAt Go.RowKit
set_option maxRecDepth 100000
theorem toList_inj {a b:ByteArray} (h:a.toList=b.toList):a=b:=by
 rw[ByteArray.toList_eq,ByteArray.toList_eq]at h;cases a;cases b;simpa using h
section
variable (σ:St)
end
def z9B:List AV→Prop:=fun xs=>∃(b:Int) (lo hi:Nat),lo<2^64∧hi<2^64∧xs=[I b,Fl lo,Fl hi]
def QDRuW:List AV→Prop:=fun xs=>∃d:RuD,d.lo<2^64∧d.hi<2^64∧xs=duC d
theorem z4Q (f:Nat):Reads Tryz.prog 39 f z9B:=by
 cases f with
 |zero=>exact Reads.zero
 |succ f =>
  have h:=Reads.struct (P:=Tryz.prog) (t:=39) (f:=f) (Qs:=[QInt .i64,z7s,z7s]) Tryz.underlying39 (by kernel_rfl) rfl (by
   intro p hp;simp only[List.zip_cons_cons,List.zip_nil_right,List.mem_cons,List.not_mem_nil,or_false]at hp;rcases hp with rfl|rfl|rfl
   · exact Reads.int Tryz.underlying3 f
   · exact Reads.floatW Tryz.underlying37 f
   · exact Reads.floatW Tryz.underlying37 f)
  refine h.mono fun xs hq=>?_
  obtain⟨_,_,rfl,⟨k,_,rfl⟩,_,_,rfl,⟨n,hn,rfl⟩,_,_,rfl,⟨v,hv,rfl⟩,rfl⟩:=hq;exact⟨k,n,v,hn,hv,rfl⟩
theorem z8C (f:Nat):Reads Tryz.prog 41 f QDRuW:=by
 cases f with
 |zero=>exact Reads.zero
 |succ f =>
  have h:=Reads.struct (P:=Tryz.prog) (t:=41) (f:=f) (Qs:=[QMats,QMats,z9B,QInts]) Tryz.underlying41 (by kernel_rfl) rfl (by
   intro p hp;simp only[List.zip_cons_cons,List.zip_nil_right,List.mem_cons,List.not_mem_nil,or_false]at hp;rcases hp with rfl|rfl|rfl|rfl
   · exact z4C f
   · exact z4C f
   · exact z4Q f
   · exact z6K f)
  refine h.mono fun xs hq=>?_
  obtain⟨_,_,rfl,⟨M,hM,rfl⟩,_,_,rfl,⟨N,hN,rfl⟩,_,_,rfl,⟨b,lo,hi,h1,h2,rfl⟩,_,_,rfl,⟨e,rfl⟩,rfl⟩:=hq;exact⟨⟨M,N,b,lo,hi,e,hM,hN⟩,h1,h2,rfl⟩
end Go.Proofs.YteakobbdgehlgaaGreatDoor
namespace Go.Proofs.YteakobbdgehlgaaGreatDoor
open Go Go.Ab Go.Cod
set_option maxRecDepth 100000
theorem zgF {α:Type} (l:List α):emI l.length=true↔l=[]:=by
 unfold emI;rw[beq_iff_eq,←List.length_eq_zero_iff];omega
theorem zhW (v:Nat):zF v=true↔v=0:=by
 unfold zF;rw[beq_iff_eq];exact⟨fun h=>z2V (Int.ofNat.inj h),fun h=>by rw[h,z8m];rfl⟩
theorem zeZ (x:Bnd):noBd x=true↔x=(false,0,0):=by
 obtain⟨a,lo,hi⟩:=x;unfold noBd;simp only[Bool.and_eq_true,zhW,Bool.not_eq_true',Prod.mk.injEq]
theorem zf0 (r:RuM):noRl r=true↔r=noRu:=by
 obtain⟨a,b,c,lo,hi,e⟩:=r;unfold noRl noRu;simp only[Bool.and_eq_true,zgF,zeZ,RuM.mk.injEq,Prod.mk.injEq];constructor
 · rintro⟨rfl,rfl,rfl,rfl,rfl,rfl⟩;simp
 · rintro⟨rfl,rfl,rfl,rfl,rfl,rfl⟩;simp
structure RqSz (r:ReM):Prop where
 val:r.val<2^64∧bitsF r.val=r.val
 bd:r.lo<2^64∧r.hi<2^64
 ru:r.ru.lo<2^64∧r.ru.hi<2^64
def eqLb (x y:Lab):Bool:=x.1.toList==y.1.toList&&(x.2.toList==y.2.toList&&true)
def sameL (A B:List Lab):Bool:=decide (A.length=B.length)&&(List.range A.length).all fun i=>eqLb (A.getD i noLb) (B.getD i noLb)
structure SzA (r:ReM):Prop where
 val:r.val<2^64
 bd:r.lo<2^64∧r.hi<2^64
 ru:r.ru.lo<2^64∧r.ru.hi<2^64
theorem RqSz.a {x:ReM} (h:RqSz x):SzA x:=⟨h.val.1,h.bd,h.ru⟩
theorem zf1 {n:Nat} (h:emI n=true):n=0:=by unfold emI at h;simp only[beq_iff_eq]at h;omega
end Go.Proofs.YteakobbdgehlgaaGreatDoor
namespace Go.Proofs.YteakobbdgehlgaaGreatDoor.Sha
open Go Go.Ab Go.Cod
set_option maxRecDepth 100000
theorem bytesRc_le (r:RcM) (hb:r.bd.length≤40000):(z0B r).length≤50000:=by
 unfold z0B;split
 · rename_i h;have h1:=zaE h;have h2:(putN r.ix.toNat).length≤10:=z0v (by omega)
   have h3:(putN r.ck).length≤10:=z0v (by omega)
   have h4:=z1N ⟨r.bd.toArray⟩ (by rw[z3g];omega)
   rw[z3g]at h4;unfold putRc;simp only[List.length_append,List.length_cons,List.length_nil];omega
 · exact Nat.zero_le _
section
variable (σ:St)
theorem z9C (h r:List UInt8) (hh:h.length≤50000) (hr:r.length≤50000):Ans Tryz.prog 58 [.sl 1 [.sl 1 (bv [1]),.sl 1 (bv h),.sl 1 (bv r)]] σ (.sl 1 (bv (([[1],h,r]:List (List UInt8)).flatten))) σ :=
 z6I σ [[1],h,r] (by simp) (by simp) (by simp;omega)
end
def ownU (o:Int):Nat:=(IntKind.u64.wrap o).toNat
theorem zdx (o:Int):IntKind.u64.wrap o=((ownU o:Nat):Int):=by
 unfold ownU;have:0≤IntKind.u64.wrap o:=by simp only[IntKind.wrap,IntKind.bits,IntKind.signed];simp;omega
 omega
def genB (o:Int):List UInt8:=0::wrdB (ownU o)
def linkB (h r:List UInt8):List UInt8:=([[1],h,r]:List (List UInt8)).flatten
theorem z0x (h r:List UInt8):(linkB h r).length=1+h.length+r.length:=by unfold linkB;simp;omega
structure ChM where
 most:Int
 L:List RcM
 head:List UInt8
def heldM (m:Int):Int:=if 200<(if 0>m then 0 else m) then 200 else(if 0>m then 0 else m)
def newCh (o m:Int):ChM:=⟨heldM m,[],shaB (genB o)⟩
def rowC (q:Nat) (L:List RcM):AV:=if L.isEmpty then .nils else .osl q L.length
def boxC (q:Nat) (c:ChM):Ob:=.box (I c.most::rowC q c.L::bv c.head)
section
variable (σ:St)
theorem genesis_ans (o:Int):Ans Tryz.prog 28 [I o] σ (.sl 1 (bv (genB o))) σ:=by
 have hu:=zdx o;have hp:∀s,Ans Tryz.prog 57 [UN (ownU o)] s (.sl 1 (bv (wrdB (ownU o)))) s:=fun s=>z9n s (ownU o)
 have hl:=z0C (wrdB (ownU o));have hw:=wrdB_len (ownU o);have e:AV.pl (.int .u8 0)::bv (wrdB (ownU o))=bv (genB o):=rfl;have k1:((1:Nat)+8≤2^32)=True:=eq_true (by decide)
 refine Ans.of_run' t28 (fun hbel _=>?_)
 simp -implicitDefEqProofs only[c28,r28,go_sem,hu];refine CO.intro (hp _) ?_;have hgl:(bv (genB o)).length=9:=rfl;simp -implicitDefEqProofs only[go_sem,z1Q,hl,hw,k1,G0,S0,List.cons_append,List.nil_append,e,hgl];exact Fini.trim2 (σ':=σ) (ex:=[_]) rfl rfl (Nat.le_refl _) (z2Z _ _) hbel
theorem link_ans (h r:List UInt8) (hh:h.length=32) (hr:r.length≤50000):Ans Tryz.prog 29 [.agg (bv h),.sl 1 (bv r)] σ (.sl 1 (bv (linkB h r))) σ:=by
 have hl:=z0C h;have ha:=bv_all h;have htk:List.take 32 (bv h)=bv h:=List.take_of_length_le (by rw[hl,hh];exact Nat.le_refl _)
 have hc:∀s,Ans Tryz.prog 58 [.sl 1 [.sl 1 (bv [1]),.sl 1 (bv h),.sl 1 (bv r)]] s (.sl 1 (bv (linkB h r))) s:=fun s=>z9C s h r (by omega) (by omega)
 have h1:bv [1]=[.pl (.int .u8 1)]:=rfl;rw[h1]at hc;have hll:=z0C (linkB h r);generalize linkB h r=X at hc hll⊢;refine Ans.of_run' t29 (fun hbel _=>?_)
 simp -implicitDefEqProofs only[c29,r29,go_sem,hl,hh,ha,htk];refine CO.intro (hc _) ?_;simp -implicitDefEqProofs only[go_sem,hll];exact Fini.ret rfl
theorem clone_ans (b:List UInt8) (hb:b.length≤100000) (hne:b≠[]):Ans Tryz.prog 44 [.sl 1 (bv b)] σ (.sl 1 (bv b)) σ:=by
 have hl:=z0C b
 have hn:nilA2 σ false (.sl 1 (bv b))=some false:=by
  cases b with
  |nil=>exact absurd rfl hne
  |cons _ _=>rfl
 have e0:(bv b).isEmpty=false:=by
  cases b with
  |nil=>exact absurd rfl hne
  |cons _ _=>rfl
 have k1:(b.length≤2^32)=True:=eq_true (by omega)
 refine Ans.of_run' t44 (fun hbel _=>?_)
 simp -implicitDefEqProofs only[c44,r44,go_sem,hl,e0,hn,z1Q,k1,G0,S0];exact Fini.trim2 (σ':=σ) (ex:=[_]) rfl rfl (Nat.le_refl _) (z2Z _ _) hbel
theorem full_ans (p q:Nat) (c:ChM) (hp:σ[p]?=some (boxC q c)) (hq:c.L≠[]→σ[q]?=some (.row 4 (c.L.map rcV))):Ans Tryz.prog 13 [.ptr p 0] σ (Bo (decide (c.most≤(c.L.length:Int)))) σ:=by
 unfold boxC rowC at hp;refine Ans.of_run t13 ?_
 cases hL:c.L.isEmpty with
 |true =>
  have h0:c.L=[]:=by simpa using hL
  rw[hL]at hp;simp only[if_true]at hp;simp -implicitDefEqProofs only[c13,r13,go_sem,hp,List.drop_succ_cons,List.drop_zero,List.head?_cons];rw[h0];exact Fini.ret rfl
 |false =>
  have hq:=hq (by intro h;rw[h]at hL;cases hL)
  have hml:(c.L.map rcV).length=c.L.length:=List.length_map ..;rw[hL]at hp;simp only[Bool.false_eq_true,if_false]at hp;simp -implicitDefEqProofs only[c13,r13,go_sem,hp,hq,hml,List.drop_succ_cons,List.drop_zero,List.head?_cons];exact Fini.ret rfl
theorem len_ans (p q:Nat) (c:ChM) (hp:σ[p]?=some (boxC q c)) (hq:c.L≠[]→σ[q]?=some (.row 4 (c.L.map rcV))):Ans Tryz.prog 14 [.ptr p 0] σ (I c.L.length) σ:=by
 unfold boxC rowC at hp;refine Ans.of_run t14 ?_
 cases hL:c.L.isEmpty with
 |true =>
  have h0:c.L=[]:=by simpa using hL
  rw[hL]at hp;simp only[if_true]at hp;simp -implicitDefEqProofs only[c14,r14,go_sem,hp,List.drop_succ_cons,List.drop_zero,List.head?_cons];rw[h0];exact Fini.ret rfl
 |false =>
  have hq:=hq (by intro h;rw[h]at hL;cases hL)
  have hml:(c.L.map rcV).length=c.L.length:=List.length_map ..;rw[hL]at hp;simp only[Bool.false_eq_true,if_false]at hp;simp -implicitDefEqProofs only[c14,r14,go_sem,hp,hq,hml,List.drop_succ_cons,List.drop_zero,List.head?_cons];exact Fini.ret rfl
theorem head_ans (p q:Nat) (c:ChM) (hh:c.head.length=32) (hp:σ[p]?=some (boxC q c)) (hpl:p<σ.length):Ans Tryz.prog 21 [.ptr p 0] σ (.agg (bv c.head)) σ:=by
 unfold boxC at hp;have hl:=z0C c.head;have ha:=bv_all c.head;have htk:List.take 32 (bv c.head)=bv c.head:=List.take_of_length_le (by rw[hl,hh];exact Nat.le_refl _)
 have hp':∀ex,(σ++ex)[p]?=some (.box (I c.most::rowC q c.L::bv c.head)):=fun ex=>by rw[List.getElem?_append_left hpl];exact hp
 refine Ans.of_run' t21 (fun hbel _=>?_)
 simp -implicitDefEqProofs only[c21,r21,go_sem,hp',hl,hh,ha,htk,List.drop_succ_cons,List.drop_zero,G0,S0,List.append_nil];exact Fini.trim2 (σ':=σ) (ex:=[_]) (by simp -implicitDefEqProofs only[go_sem,resA,z01,rvA,oneOf,G0,hl,hh,htk]<;>rfl) rfl (Nat.le_refl _) (z97 _ _) hbel
theorem new_ans (o m:Int) (hG:∀ex,gloA (σ++ex) 0=some kV):Ans Tryz.prog 11 [I o,I m] σ (.ptr σ.length 0) (σ++[boxC 0 (newCh o m)]):=by
 have hg:=fun s=>genesis_ans s o
 have hs:=fun ex=>sha_ans (σ++ex) (genB o) (show(9:Nat)≤100000 by decide) (fun ex2=>by rw[List.append_assoc];exact hG _)
 have hs0:=hs [];rw[List.append_nil]at hs0;have hsl:=z0s (genB o);have hl:=z0C (shaB (genB o));unfold newCh boxC rowC;simp only[List.isEmpty_nil,if_true];generalize shaB (genB o)=hd at hs0 hsl hl⊢;clear hs;have ha:=bv_all hd;have htk:List.take 32 (bv hd)=bv hd:=List.take_of_length_le (by rw[hl,hsl];exact Nat.le_refl _)
 unfold heldM;refine Ans.of_run' t11 (fun hbel _=>?_)
 simp -implicitDefEqProofs only[c11,r11,go_sem];refine CO.intro (hg _) ?_;simp -implicitDefEqProofs only[go_sem];refine CO.intro hs0 ?_;simp -implicitDefEqProofs only[go_sem,hl,hsl,ha,htk];exact Fini.ret rfl
end
def z0f (c:ChM) (ck:Nat) (bd:List UInt8) (cd:Int):RcM:=⟨c.L.length,ck,bd,cd⟩
def addCh (c:ChM) (r:RcM):ChM:=⟨c.most,c.L++[r],shaB (linkB c.head (z0B r))⟩
theorem z0u {σ:St} {k:Nat} {v:List Value}:gloA σ k=some v→∀ex,gloA (σ++ex) k=some v:=by
 induction σ with
 |nil=>intro h;cases h
 |cons o s ih =>
  intro h ex
  cases o with
  |glo g vs =>
   simp only[List.cons_append,gloA]at h⊢;by_cases hg:g=k
   · rw[if_pos hg]at h⊢;exact h
   · rw[if_neg hg]at h⊢;exact ih h ex
  |_=>simp only[List.cons_append,gloA]at h⊢;exact ih h ex
theorem z7t {k:Nat} {cs ds:List AV}:∀{σ:St} {p:Nat},σ[p]?=some (.box cs)→gloA (σ.set p (.box ds)) k=gloA σ k
 |[],p,h=>by simp at h
 |o::s,0,h=>by
  simp only[List.getElem?_cons_zero,Option.some.injEq]at h;subst h;rfl
 |o::s,p+1,h=>by
  have h:s[p]?=some (.box cs):=h;have ih:=z7t (k:=k) (ds:=ds) h;rw[List.set_cons_succ]
  cases o with
  |glo g vs =>
   simp only[gloA];by_cases hg:g=k
   · rw[if_pos hg,if_pos hg]
   · rw[if_neg hg,if_neg hg];exact ih
  |_=>simp only[gloA];exact ih
section
variable (σ:St)
theorem z3u (p:Nat) (most:Int) (hd:List UInt8) (hhd:hd.length=32) (ck:Nat) (bd:List UInt8) (cd:Int) (hp:σ[p]?=some (boxC 0 ⟨most,[],hd⟩)) (hpl:p<σ.length)
  (hne:bd≠[]) (hbl:bd.length≤40000) (hg:gloA σ 0=some kV) :
  Ans Tryz.prog 16 [.ptr p 0,UN ck,.sl 1 (bv bd),I cd] σ (Bo (!decide (most≤0)&&rcIs (z0f ⟨most,[],hd⟩ ck bd cd)))
   (if(!decide (most≤0)&&rcIs (z0f ⟨most,[],hd⟩ ck bd cd)) then σ.set p (boxC (σ.length+1) (addCh ⟨most,[],hd⟩ (z0f ⟨most,[],hd⟩ ck bd cd)))++[.box (rcC (z0f ⟨most,[],hd⟩ ck bd cd)),.row 4 [rcV (z0f ⟨most,[],hd⟩ ck bd cd)]] else σ):=by
 have hcl:=fun s=>clone_ans s bd (by omega) hne
 have hp':∀ex,(σ++ex)[p]?=some (boxC 0 ⟨most,[],hd⟩):=fun ex=>by rw[List.getElem?_append_left hpl];exact hp
 have hfu:=fun ex=>full_ans (σ++ex) p 0 ⟨most,[],hd⟩ (hp' ex) (fun h=>absurd rfl h)
 have hri:=fun s=>z5a s (z0f ⟨most,[],hd⟩ ck bd cd) (by show bd.length≤50000;omega)
 have hrb:=fun s=>z3h s (z0f ⟨most,[],hd⟩ ck bd cd) (by show bd.length≤50000;omega)
 have hb0:boxC 0 ⟨most,[],hd⟩=.box (I most::.nils::bv hd):=rfl;rw[hb0]at hp;simp only[hb0]at hp';have hl:=z0C hd;have ha:=bv_all hd;have htk:List.take 32 (bv hd)=bv hd:=List.take_of_length_le (by rw[hl,hhd];exact Nat.le_refl _)
 have hrr:rcV (z0f ⟨most,[],hd⟩ ck bd cd)=.agg [I (0:Nat),UN ck,.sl 1 (bv bd),I cd]:=rfl;simp only[hrr]at hri hrb;have hfu':∀ex,Ans Tryz.prog 13 [.ptr p 0] (σ++ex) (Bo (decide (most≤0))) (σ++ex):=hfu;clear hfu;generalize decide (most≤0)=F at hfu'⊢;generalize rcIs (z0f ⟨most,[],hd⟩ ck bd cd)=ri at hri⊢;refine Ans.of_run' t16 (fun hbel _=>?_)
 simp -implicitDefEqProofs only[c16,r16,go_sem,hp',hp,List.drop_succ_cons,List.drop_zero,List.head?_cons,z00]
 first|refine CD.intro (hcl _) ?_|refine CS.intro hcl ?_
 simp -implicitDefEqProofs only[go_sem,hp',hp,List.drop_succ_cons,List.drop_zero,List.head?_cons,G0,S0,z00];refine CD.intro (hfu' _) ?_
 cases F with
 |true =>
  simp only[Bool.not_true,Bool.false_and,Bool.false_eq_true,if_false];simp -implicitDefEqProofs only[go_sem,z00];exact Fini.trim2 (σ':=σ) (ex:=[_]) rfl rfl (Nat.le_refl _) (.pl _) hbel
 |false =>
  simp -implicitDefEqProofs only[go_sem,G0,z00];refine CD.intro (hri _) ?_
  cases ri with
  |false =>
   simp only[Bool.not_false,Bool.and_false,Bool.false_eq_true,if_false];simp -implicitDefEqProofs only[go_sem,z00,G0];exact Fini.trim2 (σ':=σ) (ex:=[_]) rfl rfl (Nat.le_refl _) (.pl _) hbel
  |true =>
   simp only[Bool.not_false,Bool.and_self,Bool.true_and,if_true];have k1:((1:Nat)≤2^32)=True:=eq_true (by decide)
   have hset:∀(x:Ob) (ex:St),(σ++ex).set p x=σ.set p x++ex:=fun x ex=>List.set_append_left _ _ hpl
   have hX:∀(x:Ob) (ex:St),(σ.set p x++ex)[p]?=some x:=fun x ex=>by rw[List.getElem?_append_left (by rw[List.length_set];exact hpl),List.getElem?_set_self hpl]
   have hY:∀(x y:Ob) (ex:St),(σ.set p x++y::ex)[σ.length]?=some y:=fun x y ex=>by rw[List.getElem?_append_right (by rw[List.length_set];exact Nat.le_refl _),List.length_set,Nat.sub_self];rfl
   have hset2:∀(x y:Ob) (ex:St),(σ.set p x++ex).set p y=σ.set p y++ex:=fun x y ex=>by rw[List.set_append_left _ _ (by rw[List.length_set];exact hpl),List.set_set]
   have hsha:=fun ds ex=>sha_ans (σ.set p (.box ds)++ex) (linkB hd (z0B (z0f ⟨most,[],hd⟩ ck bd cd))) (by have:=bytesRc_le (z0f ⟨most,[],hd⟩ ck bd cd) (show bd.length≤40000 from hbl);rw[z0x];omega) (z0u (z0u (by rw[z7t hp];exact hg) ex))
   have hlk:=fun s=>link_ans s hd (z0B (z0f ⟨most,[],hd⟩ ck bd cd)) hhd (bytesRc_le _ (show bd.length≤40000 from hbl))
   have hac:addCh ⟨most,[],hd⟩ (z0f ⟨most,[],hd⟩ ck bd cd)=⟨most,[z0f ⟨most,[],hd⟩ ck bd cd],shaB (linkB hd (z0B (z0f ⟨most,[],hd⟩ ck bd cd)))⟩:=rfl;rw[hac];have hsl:=z0s (linkB hd (z0B (z0f ⟨most,[],hd⟩ ck bd cd)));generalize shaB (linkB hd (z0B (z0f ⟨most,[],hd⟩ ck bd cd)))=nh at hsha hsl⊢;have nl:=z0C nh;have na:=bv_all nh;have hdr:List.drop 32 (bv hd)=[]:=List.drop_of_length_le (by rw[hl,hhd];exact Nat.le_refl _)
   simp -implicitDefEqProofs only[go_sem,k1,hset,hX,hY,hset2,List.append_assoc,List.cons_append,List.nil_append,List.length_append,List.length_cons,List.length_nil,z00,hp',List.drop_succ_cons,List.drop_zero,List.head?_cons,G0,hl,hhd,htk];refine CD.intro (hrb _) ?_;simp -implicitDefEqProofs only[go_sem,z00,hX,hY,hset2,List.drop_succ_cons,List.drop_zero,hl,hhd,htk];refine CD.intro (hlk _) ?_;simp -implicitDefEqProofs only[go_sem,z00,hX,hY,hset2,List.drop_succ_cons,List.drop_zero,hl,hhd,htk];refine CD.intro (hsha _ _) ?_;simp -implicitDefEqProofs only[go_sem,z00,hX,hY,hset2,List.drop_succ_cons,List.drop_zero,hl,hhd,htk,nl,na,hsl,hdr];exact Fini.ret rfl
end
theorem bel_rcV (n:Nat) (r:RcM):Bel n (rcV r):=.agg _ fun i hi=>by
 have hm:(rcC r)[i]'hi∈rcC r:=List.getElem_mem hi;generalize (rcC r)[i]'hi=x at hm;unfold rcC at hm;simp only[List.mem_cons,List.not_mem_nil,or_false]at hm;rcases hm with rfl|rfl|rfl|rfl
 · exact .pl _
 · exact .pl _
 · exact z2Z _ _
 · exact .pl _
theorem zdy (n:Nat) (L:List RcM):BelO n (.row 4 (L.map rcV)):=fun x hx=>by
 obtain⟨r,_,rfl⟩:=List.mem_map.1 hx;exact bel_rcV n r
theorem zbG (n q:Nat) (c:ChM) (h:q<n):BelO n (boxC q c):=fun x hx=>by
 rcases List.mem_cons.1 hx with rfl|hx
 · exact .pl _
 · rcases List.mem_cons.1 hx with rfl|hx
   · unfold rowC;split
     · exact .nils
     · exact .osl _ _ h
   · obtain⟨u,_,rfl⟩:=List.mem_map.1 hx;exact .pl _
theorem zaH {n:Nat} {σ:St} {i:Nat} {o:Ob} (h:∀x∈σ,BelO n x) (ho:BelO n o):∀x∈σ.set i o,BelO n x:=fun x hx=>by
 rcases List.mem_or_eq_of_mem_set hx with hx|rfl
 · exact h x hx
 · exact ho
def z2X (c:ChM):Nat:=(c.L.getD (c.L.length-1) ⟨0,0,[],0⟩).ck
def takes (c:ChM) (ck:Nat) (bd:List UInt8) (cd:Int):Bool:=!decide (c.most≤(c.L.length:Int))&&(rcIs (z0f c ck bd cd)&& !decide ((ck:Int)<(z2X c:Int)))
def chSt (σ:St) (p q:Nat) (c:ChM):St:=(σ.set q (.row 4 (c.L.map rcV))).set p (boxC q c)
theorem z8D {k n m:Nat} {xs ys:List AV}:∀{σ:St} {p:Nat},σ[p]?=some (.row n xs)→gloA (σ.set p (.row m ys)) k=gloA σ k
 |[],p,h=>by simp at h
 |o::s,0,h=>by
  simp only[List.getElem?_cons_zero,Option.some.injEq]at h;subst h;rfl
 |o::s,p+1,h=>by
  have h:s[p]?=some (.row n xs):=h;have ih:=z8D (k:=k) (m:=m) (ys:=ys) h;rw[List.set_cons_succ]
  cases o with
  |glo g vs =>
   simp only[gloA];by_cases hg:g=k
   · rw[if_pos hg,if_pos hg]
   · rw[if_neg hg,if_neg hg];exact ih
  |_=>simp only[gloA];exact ih
section
variable (σ:St)
set_option maxHeartbeats 4000000 in
theorem z3V (p q:Nat) (c:ChM) (hhd:c.head.length=32) (hL:c.L≠[]) (hLn:c.L.length≤100000) (ck:Nat) (bd:List UInt8) (cd:Int) (hp:σ[p]?=some (boxC q c)) (hq:σ[q]?=some (.row 4 (c.L.map rcV))) (hpl:p<σ.length) (hql:q<σ.length) (hpq:p≠q)
  (hne:bd≠[]) (hbl:bd.length≤40000) (hg:gloA σ 0=some kV) :
  Ans Tryz.prog 16 [.ptr p 0,UN ck,.sl 1 (bv bd),I cd] σ (Bo (takes c ck bd cd)) (if takes c ck bd cd then chSt σ p q (addCh c (z0f c ck bd cd)) else σ):=by
 have hcl:=fun s=>clone_ans s bd (by omega) hne
 have hp':∀ex,(σ++ex)[p]?=some (boxC q c):=fun ex=>by rw[List.getElem?_append_left hpl];exact hp
 have hq':∀ex,(σ++ex)[q]?=some (.row 4 (c.L.map rcV)):=fun ex=>by rw[List.getElem?_append_left hql];exact hq
 have hfu:=fun ex=>full_ans (σ++ex) p q c (hp' ex) (fun _=>hq' ex)
 have hri:=fun s=>z5a s (z0f c ck bd cd) (by show bd.length≤50000;omega)
 have hrb:=fun s=>z3h s (z0f c ck bd cd) (by show bd.length≤50000;omega)
 have hie:c.L.isEmpty=false:=by
  cases h:c.L with
  |nil=>exact absurd h hL
  |cons _ _=>rfl
 have hb0:boxC q c=.box (I c.most::.osl q c.L.length::bv c.head):=by unfold boxC rowC;rw[hie];rfl
 rw[hb0]at hp;simp only[hb0]at hp';have hl:=z0C c.head;have ha:=bv_all c.head;have htk:List.take 32 (bv c.head)=bv c.head:=List.take_of_length_le (by rw[hl,hhd];exact Nat.le_refl _)
 have hrr:rcV (z0f c ck bd cd)=.agg [I (c.L.length:Nat),UN ck,.sl 1 (bv bd),I cd]:=rfl;simp only[hrr]at hri hrb;have hml:(c.L.map rcV).length=c.L.length:=List.length_map ..;unfold takes z2X;obtain⟨lr,hlr⟩:∃lr,lr=c.L.getD (c.L.length-1) ⟨0,0,[],0⟩:=⟨_,rfl⟩;rw[←hlr];generalize hRI:rcIs (z0f c ck bd cd)=ri at hri⊢;generalize decide (c.most≤(c.L.length:Int))=F at hfu⊢;refine Ans.of_run' t16 (fun hbel _=>?_)
 simp -implicitDefEqProofs only[c16,r16,go_sem,hp',hp,hq',hq,hml,List.drop_succ_cons,List.drop_zero,List.head?_cons,z00]
 first|refine CD.intro (hcl _) ?_|refine CS.intro hcl ?_
 simp -implicitDefEqProofs only[go_sem,hp',hp,hq',hq,hml,List.drop_succ_cons,List.drop_zero,List.head?_cons,G0,S0,z00];refine CD.intro (hfu _) ?_
 cases F with
 |true =>
  simp only[Bool.not_true,Bool.false_and,Bool.false_eq_true,if_false];simp -implicitDefEqProofs only[go_sem,z00];exact Fini.trim2 (σ':=σ) (ex:=[_]) rfl rfl (Nat.le_refl _) (.pl _) hbel
 |false =>
  simp -implicitDefEqProofs only[go_sem,G0,z00];refine CD.intro (hri _) ?_
  cases ri with
  |false =>
   simp only[Bool.not_false,Bool.false_and,Bool.and_false,Bool.false_eq_true,if_false];simp -implicitDefEqProofs only[go_sem,z00,G0];exact Fini.trim2 (σ':=σ) (ex:=[_]) rfl rfl (Nat.le_refl _) (.pl _) hbel
  |true =>
   have hd1:decide ((0:Int)<(c.L.length:Nat))=true:=decide_eq_true (by have:c.L.length≠0:=fun h=>hL (List.length_eq_zero_iff.1 h);omega)
   have hw1:IntKind.i64.wrap (((c.L.length:Nat):Int)-1)=((c.L.length-1:Nat):Int):=by
    have:c.L.length≠0:=fun h=>hL (List.length_eq_zero_iff.1 h)
    simp only[IntKind.wrap,IntKind.bits,IntKind.signed];simp;omega
   have hp0:∀n:Nat,((0:Int)≤(n:Int))=True:=fun n=>eq_true (Int.natCast_nonneg _)
   have hlt:(((c.L.length-1:Nat):Int)<((c.L.length:Nat):Int))=True:=eq_true (by have:c.L.length≠0:=fun h=>hL (List.length_eq_zero_iff.1 h);omega)
   have hget:(c.L.map rcV)[c.L.length-1]?=some (.agg [I lr.ix,UN lr.ck,.sl 1 (bv lr.bd),I lr.cd]):=by
    rw[hlr];have h:c.L.length-1<c.L.length:=by have:c.L.length≠0:=fun h=>hL (List.length_eq_zero_iff.1 h);omega
    rw[List.getElem?_map,List.getElem?_eq_getElem h,List.getD_eq_getElem?_getD,List.getElem?_eq_getElem h];rfl
   simp -implicitDefEqProofs only[go_sem,hp',hp,hq',hq,hml,hd1,hw1,hp0,hlt,hget,Int.toNat_natCast,List.drop_succ_cons,List.drop_zero,List.head?_cons,G0,z00]
   cases hG:decide ((ck:Int)<(lr.ck:Int)) with
   |true =>
    simp only[Bool.not_true,Bool.and_false,Bool.false_eq_true,if_false];simp -implicitDefEqProofs only[go_sem,z00,hG];exact Fini.trim2 (σ':=σ) (ex:=[_]) rfl rfl (Nat.le_refl _) (.pl _) hbel
   |false =>
    simp only[Bool.not_false,Bool.and_self,if_true];have k1:(c.L.length+1≤2^32)=True:=eq_true (by omega)
    have hset:∀(x:Ob) (ex:St),(σ++ex).set q x=σ.set q x++ex:=fun x ex=>List.set_append_left _ _ hql
    have hsp:∀(x:Ob) (ex:St),(σ.set q x++ex)[p]?=some (.box (I c.most::.osl q c.L.length::bv c.head)):=fun x ex=>by
     rw[List.getElem?_append_left (by rw[List.length_set];exact hpl),List.getElem?_set_ne (fun h=>hpq h.symm)];exact hp
    have hsp0:∀z,(σ.set q (.row 4 z))[p]?=some (.box (I c.most::.osl q c.L.length::bv c.head)):=fun z=>by rw[List.getElem?_set_ne (fun h=>hpq h.symm)];exact hp
    have hset1:∀(x y:Ob) (ex:St),(σ.set q x++ex).set p y=(σ.set q x).set p y++ex:=fun x y ex=>List.set_append_left _ _ (by rw[List.length_set];exact hpl)
    have hX:∀(z x:Ob) (ex:St),((σ.set q z).set p x++ex)[p]?=some x:=fun z x ex=>by rw[List.getElem?_append_left (by rw[List.length_set,List.length_set];exact hpl),List.getElem?_set_self (by rw[List.length_set];exact hpl)]
    have hY:∀(z x y:Ob) (ex:St),((σ.set q z).set p x++y::ex)[σ.length]?=some y:=fun z x y ex=>by rw[List.getElem?_append_right (by rw[List.length_set,List.length_set];exact Nat.le_refl _),List.length_set,List.length_set,Nat.sub_self];rfl
    have hset2:∀(z x y:Ob) (ex:St),((σ.set q z).set p x++ex).set p y=(σ.set q z).set p y++ex:=fun z x y ex=>by rw[List.set_append_left _ _ (by rw[List.length_set,List.length_set];exact hpl),List.set_set]
    have hmm:c.L.map rcV++[.agg [I (c.L.length:Nat),UN ck,.sl 1 (bv bd),I cd]]=(addCh c (z0f c ck bd cd)).L.map rcV:=by
     show _=(c.L++[z0f c ck bd cd]).map rcV;rw[List.map_append];rfl
    simp -implicitDefEqProofs only[go_sem,z00,hG,k1,hset,hsp,hset1,hX,hY,hset2,hq',hp',hml,hmm,G0,List.drop_succ_cons,List.drop_zero,List.head?_cons,hl,hhd,htk];refine CD.intro (hrb _) ?_;have hlk:=fun s=>link_ans s c.head (z0B (z0f c ck bd cd)) hhd (bytesRc_le _ (show bd.length≤40000 from hbl))
    have hsha:=fun z ds ex=>sha_ans ((σ.set q (.row 4 z)).set p (.box ds)++ex) (linkB c.head (z0B (z0f c ck bd cd))) (by have:=bytesRc_le (z0f c ck bd cd) (show bd.length≤40000 from hbl);rw[z0x];omega) (z0u (z0u (by rw[z7t (hsp0 z),z8D hq];exact hg) ex))
    have hac:addCh c (z0f c ck bd cd)=⟨c.most,c.L++[z0f c ck bd cd],shaB (linkB c.head (z0B (z0f c ck bd cd)))⟩:=rfl;have hsl:=z0s (linkB c.head (z0B (z0f c ck bd cd)))
    have hbx:boxC q (addCh c (z0f c ck bd cd))=.box (I c.most::.osl q (c.L.length+1)::bv (shaB (linkB c.head (z0B (z0f c ck bd cd))))):=by
     rw[hac];unfold boxC rowC;have:(c.L++[z0f c ck bd cd]).isEmpty=false:=by simp
     simp only[this,Bool.false_eq_true,if_false,List.length_append,List.length_cons,List.length_nil,Nat.zero_add]
    unfold chSt;rw[hbx];generalize shaB (linkB c.head (z0B (z0f c ck bd cd)))=nh at hsha hsl⊢;have nl:=z0C nh;have na:=bv_all nh;have hdr:List.drop 32 (bv c.head)=[]:=List.drop_of_length_le (by rw[hl,hhd];exact Nat.le_refl _)
    simp -implicitDefEqProofs only[go_sem,z00,hX,hY,hset2,List.drop_succ_cons,List.drop_zero,hl,hhd,htk];refine CD.intro (hlk _) ?_;simp -implicitDefEqProofs only[go_sem,z00,hX,hY,hset2,List.drop_succ_cons,List.drop_zero,hl,hhd,htk];refine CD.intro (hsha _ _ _) ?_;simp -implicitDefEqProofs only[go_sem,z00,hX,hY,hset2,List.drop_succ_cons,List.drop_zero,hl,hhd,htk,nl,na,hsl,hdr,List.append_nil];refine Fini.trim2 (ex:=[_]) rfl rfl (by rw[List.length_set,List.length_set];exact Nat.le_refl _) (.pl _) ?_
    rw[List.length_set,List.length_set];refine zaH (zaH hbel (zdy _ _)) ?_;have:=zbG σ.length q ⟨c.most,c.L++[z0f c ck bd cd],nh⟩ hql;unfold boxC rowC at this;have he:(c.L++[z0f c ck bd cd]).isEmpty=false:=by simp
    simp only[he,Bool.false_eq_true,if_false,List.length_append,List.length_cons,List.length_nil,Nat.zero_add]at this;exact this
end
def oneR (i:Nat):RcM:=⟨i,i,[1],0⟩
def oneL (i:Nat):List RcM:=(List.range i).map oneR
def headF (o:Int):Nat→List UInt8
 |0=>shaB (genB o)
 |i+1=>shaB (linkB (headF o i) (z0B (oneR i)))
def chF (o m:Int) (i:Nat):ChM:=⟨heldM m,oneL i,headF o i⟩
def txtR (r:RcM):List UInt8:=txtB ⟨(z0B r).toArray⟩
def expB (L:List RcM):List UInt8:=putN L.length++(L.map txtR).flatten
theorem zaI (r:RcM) (h:r.bd.length≤40000):(txtR r).length≤50010:=by
 have h1:=bytesRc_le r h;have h2:=z1N ⟨(z0B r).toArray⟩ (by rw[z3g];omega)
 rw[z3g]at h2;unfold txtR;omega
theorem zf2 (L:List RcM) (h:∀r∈L,r.bd.length≤40000):((L.map txtR).flatten).length≤L.length*50010:=by
 induction L with
 |nil=>simp
 |cons x L ih =>
  have h1:=zaI x (h x (by simp))
  have h2:=ih fun r hr=>h r (by simp[hr])
  simp only[List.map_cons,List.flatten_cons,List.length_append,List.length_cons];omega
theorem zdz (L:List RcM) (i:Nat) (hi:i<L.length):((L.take (i+1)).map txtR).flatten=((L.take i).map txtR).flatten++txtR L[i]:=by
 rw[List.take_succ_eq_append_getElem hi,List.map_append,List.flatten_append,List.map_singleton,List.flatten_singleton]
section
variable (σ:St)
theorem export_ans (p q:Nat) (c:ChM) (hp:σ[p]?=some (boxC q c)) (hq:c.L≠[]→σ[q]?=some (.row 4 (c.L.map rcV))) (hL:c.L.length≤1000)
  (hb:∀r∈c.L,r.bd.length≤40000):Ans Tryz.prog 25 [.ptr p 0] σ (.sl 1 (bv (expB c.L))) σ:=by
 have hpl:p<σ.length:=by
  rcases Nat.lt_or_ge p σ.length with h|h
  · exact h
  · rw[List.getElem?_eq_none h]at hp;cases hp
 have wu:IntKind.u64.wrap ((c.L.length:Nat):Int)=((c.L.length:Nat):Int):=z1v (by omega)
 have hput:=z9c σ c.L.length (by omega)
 have hpn:=z0v (n:=c.L.length) (by omega)
 unfold boxC rowC at hp
 cases hE:c.L.isEmpty with
 |true =>
  have h0:c.L=[]:=by simpa using hE
  rw[hE]at hp;simp only[if_true]at hp;have hp':∀ex,(σ++ex)[p]?=some (.box (I c.most::.nils::bv c.head)):=fun ex=>by rw[List.getElem?_append_left hpl];exact hp
  have e0:expB c.L=[0]:=by rw[h0];unfold expB;rw[List.length_nil,z1p (by decide)];rfl
  rw[e0];rw[h0,List.length_nil,z1p (by decide)]at hput
  have w0:IntKind.u64.wrap 0=0:=rfl;have hput:Ans Tryz.prog 50 [.pl (.int .u64 0)] σ (.osl σ.length 1) (σ++[.row 1 (bv [0])]):=hput;have z1:(bv [0]).length=1:=rfl;refine Ans.of_run' t25 (fun hbel _=>?_)
  simp -implicitDefEqProofs only[c25,r25,go_sem,hp,List.drop_succ_cons,List.drop_zero,List.head?_cons,w0];refine CO.intro hput ?_;simp -implicitDefEqProofs only[go_sem,hp',List.drop_succ_cons,List.drop_zero,List.head?_cons];refine Go.Ab.L.count 0 (fun i=>mkE 30 [(3,.osl σ.length 1),(16,.nils),(17,I 0),(18,I 0)]) (fun i=>σ++[.row 1 (bv [0])]) ?_ ?_ rfl rfl
  · intro i hi;omega
  · intro J;simp -implicitDefEqProofs only[mkE,go_sem,G0,S0,z1];exact Fini.trim2 (σ':=σ) (ex:=[_]) rfl rfl (Nat.le_refl _) (z2Z _ _) hbel
 |false =>
  have hq:=hq (by intro h;rw[h]at hE;cases hE)
  have hml:(c.L.map rcV).length=c.L.length:=List.length_map ..;rw[hE]at hp;simp only[Bool.false_eq_true,if_false]at hp
  have hql:q<σ.length:=by
   rcases Nat.lt_or_ge q σ.length with h|h
   · exact h
   · rw[List.getElem?_eq_none h]at hq;cases hq
  have hp':∀ex,(σ++ex)[p]?=some (.box (I c.most::.osl q c.L.length::bv c.head)):=fun ex=>by rw[List.getElem?_append_left hpl];exact hp
  have hq':∀ex,(σ++ex)[q]?=some (.row 4 (c.L.map rcV)):=fun ex=>by rw[List.getElem?_append_left hql];exact hq
  refine Ans.of_run' t25 (fun hbel _=>?_)
  simp -implicitDefEqProofs only[c25,r25,go_sem,hp,hq,hml,wu,List.drop_succ_cons,List.drop_zero,List.head?_cons];refine CO.intro hput ?_;simp -implicitDefEqProofs only[go_sem,hp',hq',hml,List.drop_succ_cons,List.drop_zero,List.head?_cons];refine Go.Ab.L.count c.L.length (fun i=>mkE 30 [(3,.osl σ.length (putN c.L.length++((c.L.take i).map txtR).flatten).length),(16,.osl q c.L.length),(17,I c.L.length),(18,I i)]) (fun i=>σ++[.row 1 (bv (putN c.L.length++((c.L.take i).map txtR).flatten))]) ?_ ?_ ?_ ?_
  · intro i hi J hJ;have hd:decide ((i:Int)<((c.L.length:Nat):Int))=true:=decide_eq_true (by omega)
    have hii:((i:Int)<((c.L.length:Nat):Int))=True:=eq_true (by omega)
    have hx:(c.L.map rcV)[i]?=some (.agg [I c.L[i].ix,UN c.L[i].ck,.sl 1 (byv c.L[i].bd),I c.L[i].cd]):=by rw[List.getElem?_map,List.getElem?_eq_getElem hi];rfl
    have hbi:=hb _ (List.getElem_mem hi);have hrb:=fun s=>z3h s c.L[i] (by omega)
    have hbl:=bytesRc_le c.L[i] hbi;have hpt:∀s,Ans Tryz.prog 51 [Sx ⟨(z0B c.L[i]).toArray⟩] s (.sl 1 (bv (txtR c.L[i]))) s:=fun s=>z5t s ⟨(z0B c.L[i]).toArray⟩ (by rw[z3g];omega)
    have wi:IntKind.i64.wrap ((i:Int)+1)=((i+1:Nat):Int):=wrap_succ (i:=i) (by omega)
    rw[zdz _ _ hi,←List.append_assoc]at hJ;have hfl:=zf2 (c.L.take i) fun r hr=>hb r (List.mem_of_mem_take hr)
    have hfl2:(c.L.take i).length≤1000:=by rw[List.length_take];omega
    have htl:=zaI c.L[i] hbi;have hX:(putN c.L.length++((c.L.take i).map txtR).flatten).length≤60000000:=by rw[List.length_append];omega
    generalize putN c.L.length++((c.L.take i).map txtR).flatten=X at hJ hX⊢;have hXl:=z0C X;have hTl:=z0C (txtR c.L[i]);have k1:((X++txtR c.L[i]).length≤2^32)=True:=eq_true (by rw[List.length_append];omega)
    have hall:=z1Q (txtR c.L[i]);generalize txtR c.L[i]=Y at *;simp -implicitDefEqProofs only[mkE,go_sem,hd,hq',hml,hii,hx];refine CO.intro (hrb _) ?_;simp -implicitDefEqProofs only[go_sem,z0A,bc,z24,z1R,AV.isStr];refine CO.intro (hpt _) ?_;simp -implicitDefEqProofs only[go_sem,G0,S0,hXl,k1,z1Q,hTl,wi,←z5p,←List.length_append];exact hJ
  · intro J;have hd:decide ((c.L.length:Int)<((c.L.length:Nat):Int))=false:=decide_eq_false (by omega)
    rw[List.take_length];have hel:=z0C (putN c.L.length++(c.L.map txtR).flatten);simp -implicitDefEqProofs only[mkE,go_sem,hd,G0,S0,hel];exact Fini.trim2 (σ':=σ) (ex:=[_]) rfl rfl (Nat.le_refl _) (z2Z _ _) hbel
  · rw[List.take_zero,List.map_nil,List.flatten_nil,List.append_nil];rfl
  · rw[List.take_zero,List.map_nil,List.flatten_nil,List.append_nil];rfl
end
def glo0:Ob:=.glo 0 kV
def glo1:Ob:=.glo 1 kV
abbrev GG:St:=[glo0,glo1]
def lay (m:Int):Nat→St
 |0=>[glo0,glo1,boxC 0 (chF 1 m 0)]
 |j+1=>[glo0,glo1,boxC 4 (chF 1 m (j+1)),.box (rcC (oneR 0)),.row 4 ((oneL (j+1)).map rcV)]
theorem gg0:gloA GG 0=some kV:=rfl
section
variable (σ:St)
end
theorem eqCells_bv:∀(n:Nat) (a b:List UInt8),a.length=n→b.length=n→eqCells (List.replicate n .int) (bv a) (bv b)=some (a==b)
 |0,[],[],_,_=>rfl
 |n+1,p::ps,q::qs,h,h'=>by
  have e:(((p.toNat:Nat):Int)==((q.toNat:Nat):Int))=(p==q):=by
   rw[Bool.eq_iff_iff];simp only[beq_iff_eq];constructor
   · intro h;exact UInt8.toNat_inj.mp (by omega)
   · intro h;rw[h]
  have ih:=eqCells_bv n ps qs (by simpa using h) (by simpa using h')
  unfold bv at ih⊢;rw[List.replicate_succ,List.map_cons,List.map_cons,eqCells,ih];simp only[z2r,if_true,e];rfl
def ran:RcM:=⟨0,3,[1],0⟩
theorem zfB:rcIs ran=true:=by kernel_rfl
theorem z8E:z0B ran=[0,3,1,1,0]:=by
 unfold z0B putRc txtB;rw[if_pos zfB,z1p (n:=ran.ix.toNat) (by decide),z1p (n:=ran.ck) (by decide),z1p (n:=(⟨ran.bd.toArray⟩:ByteArray).size) (by decide)]
 rfl
theorem zgG:expB []=[0]:=by unfold expB;rw[List.length_nil,z1p (by decide)];rfl
theorem zgH:expB [ran]=[1,5,0,3,1,1,0]:=by
 unfold expB txtR txtB;simp only[List.map_cons,List.map_nil,List.length_cons,List.length_nil,z8E];rw[z1p (n:=0+1) (by decide),z1p (by decide)]
 rfl
section
variable (σ:St)
theorem z8F (o:Int):Ans Tryz.prog 67 [I o] σ (.sl 1 (bv (genB o))) σ:=by
 have hu:=zdx o;have hp:∀s,Ans Tryz.prog 82 [UN (ownU o)] s (.sl 1 (bv (wrdB (ownU o)))) s:=fun s=>z2a s (ownU o)
 have hl:=z0C (wrdB (ownU o));have hw:=wrdB_len (ownU o);have e:AV.pl (.int .u8 0)::bv (wrdB (ownU o))=bv (genB o):=rfl;have k1:((1:Nat)+8≤2^32)=True:=eq_true (by decide)
 refine Ans.of_run' t67 (fun hbel _=>?_)
 simp -implicitDefEqProofs only[c67,r67,go_sem,hu];refine CO.intro (hp _) ?_;have hgl:(bv (genB o)).length=9:=rfl;simp -implicitDefEqProofs only[go_sem,z1Q,hl,hw,k1,G0,S0,List.cons_append,List.nil_append,e,hgl];exact Fini.trim2 (σ':=σ) (ex:=[_]) rfl rfl (Nat.le_refl _) (z2Z _ _) hbel
theorem zbH (o:Int) (hG:∀ex,gloA (σ++ex) 1=some kV):Ans Tryz.prog 43 [I o] σ (.sl 1 (bv (shaB (genB o)))) σ:=by
 have hg:=fun s=>z8F s o
 have hs:=zaA σ (genB o) (show(9:Nat)≤100000 by decide) hG
 have hsl:=z0s (genB o);have hl:=z0C (shaB (genB o));generalize shaB (genB o)=hd at hs hsl hl⊢;have ha:=bv_all hd;have htk:List.take 32 (bv hd)=bv hd:=List.take_of_length_le (by rw[hl,hsl];exact Nat.le_refl _)
 refine Ans.of_run t43 ?_;simp -implicitDefEqProofs only[c43,r43,go_sem];refine CO.intro (hg _) ?_;simp -implicitDefEqProofs only[go_sem];refine CO.intro hs ?_;simp -implicitDefEqProofs only[go_sem,hl,hsl,ha,htk];exact Fini.ret rfl
theorem runs_ans (g0:gloA σ 0=some kV) (g1:gloA σ 1=some kV):Ans Tryz.prog 15 [] σ (Bo true) σ:=by
 have hnew:=new_ans σ 7 2 (fun ex=>z0u g0 ex)
 obtain⟨h0,e0⟩:∃h0,h0=shaB (genB 7):=⟨_,rfl⟩;have l0:h0.length=32:=by rw[e0];exact z0s _
 have eN:newCh 7 2=⟨2,[],h0⟩:=by rw[e0];rfl
 rw[eN]at hnew;have hx1:=export_ans (σ++[boxC 0 ⟨2,[],h0⟩]) σ.length 0 ⟨2,[],h0⟩ (by rw[List.getElem?_append_right (Nat.le_refl _)];simp) (fun h=>absurd rfl h) (Nat.zero_le _) (fun r h=>nomatch h)
 have ha1:=z3u (σ++[boxC 0 ⟨2,[],h0⟩]) σ.length 2 h0 l0 3 [1] 0 (by rw[List.getElem?_append_right (Nat.le_refl _)];simp) (by simp) (by decide) (by decide) (z0u g0 _)
 have er:z0f ⟨2,[],h0⟩ 3 [1] 0=ran:=rfl;rw[er,zfB]at ha1;have et:(!decide ((2:Int)≤0)&&true)=true:=rfl;rw[et,if_pos rfl]at ha1;have eA:addCh ⟨2,[],h0⟩ ran=⟨2,[ran],shaB (linkB h0 [0,3,1,1,0])⟩:=by rw[←z8E];rfl
 rw[eA]at ha1;obtain⟨h1,e1⟩:∃h1,h1=shaB (linkB h0 [0,3,1,1,0]):=⟨_,rfl⟩;have l1:h1.length=32:=by rw[e1];exact z0s _
 rw[←e1]at ha1
 have hst:(σ++[boxC 0 ⟨2,[],h0⟩]).set σ.length (boxC ((σ++[boxC 0 ⟨2,[],h0⟩]).length+1) ⟨2,[ran],h1⟩)++[.box (rcC ran),.row 4 [rcV ran]]=σ++[boxC (σ.length+2) ⟨2,[ran],h1⟩,.box (rcC ran),.row 4 [rcV ran]]:=by
  rw[S0,List.length_append,List.append_assoc];rfl
 rw[hst]at ha1;obtain⟨τ,eτ⟩:∃τ,τ=σ++[boxC (σ.length+2) ⟨2,[ran],h1⟩,.box (rcC ran),.row 4 [rcV ran]]:=⟨_,rfl⟩;have tp:τ[σ.length]?=some (boxC (σ.length+2) ⟨2,[ran],h1⟩):=by rw[eτ,G0]
 have tq:τ[σ.length+2]?=some (.row 4 ([ran].map rcV)):=by rw[eτ,List.getElem?_append_right (by omega)];simp
 have tl:τ.length=σ.length+3:=by rw[eτ];simp
 have t0:∀ex,gloA (τ++ex) 0=some kV:=fun ex=>by rw[eτ,List.append_assoc];exact z0u g0 _
 have t00:gloA τ 0=some kV:=by rw[eτ];exact z0u g0 _
 have t1:∀ex,gloA (τ++ex) 1=some kV:=fun ex=>by rw[eτ,List.append_assoc];exact z0u g1 _
 rw[←eτ]at ha1;have ha2:=z3V τ σ.length (σ.length+2) ⟨2,[ran],h1⟩ l1 (fun h=>nomatch h) (by show 1≤100000;decide) 2 [1] 0 tp tq (by omega) (by omega) (by omega) (by decide) (by decide) t00
 have ef:takes ⟨2,[ran],h1⟩ 2 [1] 0=false:=by unfold takes;rw[show(!decide (((2:Nat):Int)<((z2X ⟨2,[ran],h1⟩:Nat):Int)))=false from rfl,Bool.and_false,Bool.and_false]
 rw[ef,if_neg (by decide)]at ha2
 have hlen:=len_ans τ σ.length (σ.length+2) ⟨2,[ran],h1⟩ tp (fun _=>tq)
 have hlen:Ans Tryz.prog 14 [.ptr σ.length 0] τ (I 1) τ:=hlen;have hful:Ans Tryz.prog 13 [.ptr σ.length 0] τ (Bo false) τ:=full_ans τ σ.length (σ.length+2) ⟨2,[ran],h1⟩ tp (fun _=>tq)
 have hx2:=export_ans τ σ.length (σ.length+2) ⟨2,[ran],h1⟩ tp (fun _=>tq) (by show 1≤1000;decide) (fun r h=>by rw[List.mem_singleton.mp h];decide)
 have hhd:=head_ans τ σ.length (σ.length+2) ⟨2,[ran],h1⟩ l1 tp (by omega)
 have hdg:=zbH (τ++[.row 1 [.pl (.int .u8 1)]]) 7 (fun ex=>by rw[List.append_assoc];exact t1 _)
 have hof:=zaA (τ++[.dead]) (linkB h0 [0,3,1,1,0]) (by rw[z0x,l0];decide) (fun ex=>by rw[List.append_assoc];exact t1 _)
 rw[←e0]at hdg;rw[←e1]at hof;rw[show expB ([]:List RcM)=[0] from zgG]at hx1
 rw[show expB [ran]=[1,5,0,3,1,1,0] from zgH]at hx2
 have hnp:∀s:St,nilA2 s true (.ptr σ.length 0)=some false:=fun _=>rfl
 have lh0:=z0C h0;have lL:(linkB h0 [0,3,1,1,0]).length=38:=by rw[z0x,l0];rfl
 have eL:([.pl (.int .u8 1)]++bv h0)++[.pl (.int .u8 0),.pl (.int .u8 3),.pl (.int .u8 1),.pl (.int .u8 1),.pl (.int .u8 0)]=bv (linkB h0 [0,3,1,1,0]):=by
  unfold linkB;rw[List.flatten_cons,List.flatten_cons,List.flatten_cons,List.flatten_nil,List.append_nil,z5p,z5p,List.append_assoc];rfl
 have eq1:=eqCells_bv 32 h1 h1 l1 l1;simp only[List.reduceReplicate]at eq1;have hb1:bv [1]=[.pl (.int .u8 1)]:=rfl;rw[hb1]at ha1 ha2;have hc0:bv [0]=[.pl (.int .u8 0)]:=rfl;rw[hc0]at hx1;refine Ans.of_run' t15 (fun hbel _=>?_)
 simp -implicitDefEqProofs only[c15,r15,go_sem];refine CO.intro hnew ?_;simp -implicitDefEqProofs only[go_sem,hnp];refine CO.intro hx1 ?_;simp -implicitDefEqProofs only[go_sem];refine CO.intro ha1 ?_;simp -implicitDefEqProofs only[go_sem];refine CO.intro ha2 ?_;have z11:((((1:Nat):Int))==1)=true:=rfl;have zu0:((0:Int)==0)=true:=rfl;simp -implicitDefEqProofs only[go_sem,z11,zu0];refine CO.intro hlen ?_;have zu1:((1:Int)==1)=true:=rfl;simp -implicitDefEqProofs only[go_sem,zu1];refine CO.intro hful ?_;simp -implicitDefEqProofs only[go_sem];obtain⟨E,eE⟩:∃E:List UInt8,E=[1,5,0,3,1,1,0]:=⟨_,rfl⟩;rw[←eE]at hx2;have tt:(⟨E.toArray⟩:ByteArray).toList=(ByteArray.mk #[1,5,0,3,1,1,0]).toList:=by rw[eE]
 have bt:byteL (bv E)=some (E.map fun c=>((c.toNat:Nat):Int)):=z24 E
 have tt':((⟨E.toArray⟩:ByteArray).toList==(ByteArray.mk #[1,5,0,3,1,1,0]).toList)=true:=by rw[tt];exact beq_self_eq_true _
 refine CO.intro hx2 ?_;simp -implicitDefEqProofs only[go_sem,z1Q,bt,z1R,AV.isStr,tt'];refine CO.intro hhd ?_;simp -implicitDefEqProofs only[go_sem];refine CO.intro hdg ?_;have k1:((1:Nat)+32≤2^32)=True:=eq_true (by decide)
 have k2:((38:Nat)≤2^32)=True:=eq_true (by decide)
 have eL':AV.pl (Value.int IntKind.u8 1)::(bv h0++[AV.pl (Value.int IntKind.u8 0),AV.pl (Value.int IntKind.u8 3),AV.pl (Value.int IntKind.u8 1),AV.pl (Value.int IntKind.u8 1),AV.pl (Value.int IntKind.u8 0)])=bv (linkB h0 [0,3,1,1,0]):=eL;simp -implicitDefEqProofs only[go_sem,z1Q,lh0,l0,k1,k2,G0,S0,eL'];have hls:=z0C (linkB h0 [0,3,1,1,0]);have hset:(τ++[Ob.row 1 (bv (linkB h0 [0,3,1,1,0]))]).set τ.length .dead=τ++[.dead]:=by rw[S0]
 refine CO.intro (Ans.shutArg (pre:=[]) (post:=[]) (xs:=bv (linkB h0 [0,3,1,1,0])) (by rw[G0]) (by rw[hls,lL]) (by rw[hset];exact hof)) ?_
 have e11:(h1==h1)=true:=beq_self_eq_true _;simp -implicitDefEqProofs only[go_sem,eq1,e11];exact Fini.trim2 (σ':=σ) (ex:=[_,_,_,_]) rfl (by rw[eτ,List.append_assoc];rfl) (Nat.le_refl _) (.pl _) hbel
end
end Go.Proofs.YteakobbdgehlgaaGreatDoor.Sha
namespace Go.Proofs.YteakobbdgehlgaaGreatDoor
open Go Go.Ab Go.Cod
open Sha (txtR expB shaB z0s genB linkB z0x)
set_option maxRecDepth 100000
attribute [local irreducible] Sha.shaB
def hdL (o:Int) (L:List RcM):List UInt8:=L.foldl (fun h r=>shaB (linkB h (z0B r))) (shaB (genB o))
theorem z7u (o:Int) (L:List RcM) (x:RcM):hdL o (L++[x])=shaB (linkB (hdL o L) (z0B x)):=by unfold hdL;rw[List.foldl_append];rfl
theorem z7v (o:Int) (L:List RcM):(hdL o L).length=32:=by
 rcases List.eq_nil_or_concat L with rfl|⟨M,x,rfl⟩
 · exact z0s _
 · rw[List.concat_eq_append,z7u];exact z0s _
end Go.Proofs.YteakobbdgehlgaaGreatDoor
namespace Go.Proofs.YteakobbdgehlgaaGreatDoor
open Go Go.Ab Go.Cod
set_option maxRecDepth 100000
abbrev ltS (a b:ByteArray):Bool:=Op.bytesLess a.toList b.toList
theorem zgI:∀a∈names,∀b∈names,((a.toList==b.toList)||(ltS a b||ltS b a))=true:=by decide +kernel
theorem zhX:∀a∈names,∀b∈names,a=b∨ltS a b=true∨ltS b a=true:=fun a ha b hb=>by
 have:=zgI a ha b hb;simp only[Bool.or_eq_true]at this;rcases this with h|h|h
 · exact .inl (toList_inj (eq_of_beq h))
 · exact .inr (.inl h)
 · exact .inr (.inr h)
theorem zfC:∀a∈names,ltS a a=false:=by decide +kernel
theorem nm_tr:∀a∈names,∀b∈names,∀c∈names,ltS a b=true→ltS b c=true→ltS a c=true:=by decide +kernel
theorem nm_ok:∀a∈names,nameB a=true:=by decide +kernel
theorem zgJ:∀a∈values,valB a=true:=by decide +kernel
def rise (L:List Lab):Prop:=L.Pairwise fun x y=>ltS x.1 y.1=true
theorem zaJ (out:List Lab) (x:Lab):∀m,(∀k,pos out x m≤k→k<m→ltS x.1 (out.getD k noL).1=true)∧(0<pos out x m→ltS x.1 (out.getD (pos out x m-1) noL).1=false)
 |0=>⟨fun k h1 h2=>absurd h2 (Nat.not_lt_zero _),fun h=>absurd h (Nat.lt_irrefl _)⟩
 |m+1=>by
  obtain⟨h1,h2⟩:=zaJ out x m;rw[pos];split
  · rename_i h;refine⟨fun k hk hk2=>?_,h2⟩
    by_cases hkm:k=m
    · subst hkm;exact h
    · exact h1 k hk (by omega)
  · rename_i h;refine⟨fun k hk hk2=>by omega,fun _=>?_⟩
    simpa using h
theorem zdA {out:List Lab} {x:Lab} (ho:rise out) (hd:z2b out) (hx:x.1∈names) (hn:∀y∈out,y.1≠x.1):rise (insL out x):=by
 obtain⟨h1,h2⟩:=zaJ out x out.length;have hp:=zcf out x out.length;unfold insL;generalize pos out x out.length=n at h1 h2 hp⊢
 have ht:∀y∈out.take n,ltS y.1 x.1=true:=by
  intro y hy;obtain⟨i,hi,rfl⟩:=List.getElem_of_mem hy;rw[List.length_take]at hi;have hl:(out.getD (n-1) noL)=out[n-1]:=by rw[List.getD_eq_getElem?_getD,List.getElem?_eq_getElem (by omega),Option.getD_some]
  have h3:=h2 (by omega)
  rw[hl]at h3
  have hlast:ltS (out[n-1]'(by omega)).1 x.1=true:=by
   rcases zhX _ (hd _ (List.getElem_mem (show n-1<out.length by omega))).1 _ hx with h|h|h
   · exact absurd h (hn _ (List.getElem_mem _))
   · exact h
   · rw[h]at h3;cases h3
  rw[List.getElem_take];by_cases hin:i=n-1
  · subst hin;exact hlast
  · have hi2:i<n-1:=by omega
    have:=(List.pairwise_iff_getElem.1 ho) i (n-1) (by omega) (by omega) hi2
    exact nm_tr _ (hd _ (List.getElem_mem (show i<out.length by omega))).1 _ (hd _ (List.getElem_mem (show n-1<out.length by omega))).1 _ hx this hlast
 have hdr:∀y∈out.drop n,ltS x.1 y.1=true:=by
  intro y hy;obtain⟨i,hi,rfl⟩:=List.getElem_of_mem hy;rw[List.length_drop]at hi;have:=h1 (n+i) (by omega) (by omega)
  rw[List.getD_eq_getElem?_getD,List.getElem?_eq_getElem (by omega),Option.getD_some]at this
  rw[List.getElem_drop];exact this
 unfold rise at ho⊢;rw[List.append_assoc,List.pairwise_append];refine⟨ho.sublist (List.take_sublist _ _),?_,fun a ha b hb=>?_⟩
 · rw[List.singleton_append,List.pairwise_cons];exact⟨hdr,ho.sublist (List.drop_sublist _ _)⟩
 · rcases List.mem_append.1 hb with hb|hb
   · rw[List.mem_singleton.1 hb];exact ht a ha
   · exact nm_tr _ (hd _ (List.mem_of_mem_take ha)).1 _ hx _ (hd _ (List.mem_of_mem_drop hb)).1 (ht a ha) (hdr b hb)
def distinct (L:List Lab):Prop:=L.Pairwise fun x y=>x.1≠y.1
theorem z6M:∀(L acc:List Lab),rise acc→z2b acc→z2b L→distinct L→(∀x∈acc,∀y∈L,x.1≠y.1)→rise (L.foldl insL acc)
 |[],acc,h,_,_,_,_=>h
 |x::L,acc,h,hd,hL,hdis,hac=>by
  rw[List.foldl_cons];have hdis:=List.pairwise_cons.1 hdis;refine z6M L _ (zdA h hd (hL x List.mem_cons_self).1 fun y hy=>hac y hy x List.mem_cons_self) (fun y hy=>?_) (fun y hy=>hL y (List.mem_cons_of_mem _ hy)) hdis.2 (fun y hy z hz=>?_)
  · rcases z72 hy with rfl|hy
    · exact hL y List.mem_cons_self
    · exact hd y hy
  · rcases z72 hy with rfl|hy
    · exact hdis.1 z hz
    · exact hac y hy z (List.mem_cons_of_mem _ hz)
theorem zgK {L:List Lab} {nm:ByteArray} (hd:z2b L) (h:((getL L nm).toList==(⟨#[]⟩:ByteArray).toList)=true):∀y∈L,y.1≠nm:=by
 induction L with
 |nil=>intro y hy;cases hy
 |cons x xs ih =>
  rw[getL]at h;split at h
  · exfalso
    have hv:=(hd x List.mem_cons_self).2;have:=toList_inj (eq_of_beq h);rw[this]at hv;have:=(z5q _ hv).1;exact absurd this (by decide)
  · rename_i hne;intro y hy;rcases List.mem_cons.1 hy with rfl|hy
    · intro he;rw[he]at hne;simp at hne
    · exact ih (fun z hz=>hd z (List.mem_cons_of_mem _ hz)) h y hy
theorem zbI (l:List Int):∀acc:List Lab,z2b acc→distinct acc→distinct (l.foldl z1w acc):=by
 induction l with
 |nil=>intro acc _ h;exact h
 |cons n l ih =>
  intro acc hd h;rw[List.foldl_cons];have hd2:z2b (z1w acc n):=z3N [n] acc hd;refine ih _ hd2 ?_;unfold z1w;split
  · rename_i hg;have:=zgK hd hg;unfold distinct;rw[List.pairwise_append];exact⟨h,by simp,fun a ha b hb=>by rw[List.mem_singleton.1 hb];exact this a ha⟩
  · exact h
theorem z7w (ns:List Int):setB (z29 ns)=true:=by
 have hd0:z2b ([]:List Lab):=fun x hx=>by cases hx
 have h1:z2b (labs0 ns):=z3N _ _ hd0;have h2:distinct (labs0 ns):=zbI _ _ hd0 List.Pairwise.nil
 have h3:(labs0 ns).length≤5:=by
  have:=z5r (ns.take 5) [];have h5:(ns.take 5).length≤5:=by rw[List.length_take];omega
  simp only[List.length_nil]at this;exact Nat.le_trans this (by omega)
 have hl:z2b (labs ns)∧distinct (labs ns)∧1≤(labs ns).length∧(labs ns).length≤5:=by
  unfold labs;split
  · refine⟨fun x hx=>?_,by unfold distinct;simp,by simp,by simp⟩
    rw[List.mem_singleton.1 hx];exact⟨by simp[names],by simp[values]⟩
  · exact⟨h1,h2,by omega,h3⟩
 obtain⟨hd,hdis,l1,l5⟩:=hl;have hr:rise (setL (labs ns)):=z6M _ _ List.Pairwise.nil hd0 hd hdis (fun x hx=>by cases hx)
 have hsd:z2b (setL (labs ns)):=fun x hx=>hd x (z9Z _ x hx)
 have hsl:=z71 (labs ns);unfold z29;generalize setL (labs ns)=S at hr hsd hsl⊢
 have key:∀i,0<i→i<S.length→leS (S.getD i noLb).1 (S.getD (i-1) noLb).1=false:=by
  intro i h0 hi;have e1:S.getD i noLb=S[i]:=by rw[List.getD_eq_getElem?_getD,List.getElem?_eq_getElem hi,Option.getD_some]
  have e2:S.getD (i-1) noLb=S[i-1]:=by rw[List.getD_eq_getElem?_getD,List.getElem?_eq_getElem (by omega),Option.getD_some]
  rw[e1,e2];have hlt:=(List.pairwise_iff_getElem.1 hr) (i-1) i (by omega) hi (by omega)
  have n1:=(hsd _ (List.getElem_mem hi)).1;have n2:=(hsd _ (List.getElem_mem (show i-1<S.length by omega))).1
  unfold leS;rw[Bool.or_eq_false_iff];constructor
  · cases h:Op.bytesLess (S[i]).1.toList (S[i-1]).1.toList with
    |false=>rfl
    |true =>
     have:=nm_tr _ n2 _ n1 _ n2 hlt h;rw[zfC _ n2]at this;cases this
  · cases h:((S[i]).1.toList==(S[i-1]).1.toList) with
    |false=>rfl
    |true =>
     have:=toList_inj (eq_of_beq h);rw[this,zfC _ n2]at hlt;cases hlt
 have hset:setB S=true:=by
  unfold setB;simp only[Bool.and_eq_true,decide_eq_true_eq,List.all_eq_true,List.mem_range];refine⟨by omega,by omega,fun i hi=>?_⟩
  have e1:S.getD i noLb=S[i]:=by rw[List.getD_eq_getElem?_getD,List.getElem?_eq_getElem hi,Option.getD_some]
  have hm:=hsd _ (List.getElem_mem hi);unfold labOk;rw[e1,nm_ok _ hm.1,zgJ _ hm.2];by_cases h0:0<i
  · have:=key i h0 hi;rw[e1]at this;rw[this];simp
  · simp[h0]
 have hgo:z3i S=true:=by
  have gen:∀k i,i+k≤S.length→isGo S k i=true:=by
   intro k
   induction k with
   |zero=>intro i _;rfl
   |succ k ih =>
    intro i hi;rw[isGo]
    have hb:badAt S i=false:=by
     unfold badAt;by_cases h0:0<i
     · rw[decide_eq_true h0];exact key i h0 (by omega)
     · rw[decide_eq_false h0];rfl
    rw[hb];exact ih (i+1) (by omega)
  unfold z3i;have d1:decide (S.length<1)=false:=decide_eq_false (by omega)
  have d2:decide (6<S.length)=false:=decide_eq_false (by omega)
  rw[d1,d2];exact gen _ 0 (by omega)
 rw[if_pos hgo];exact hset
def toks:List ByteArray:=[⟨#[114,111,111,116,48]⟩,⟨#[116,111,107,49]⟩,⟨#[116,111,107,50]⟩,⟨#[116,111,107,51]⟩,⟨#[0,1,2,3]⟩,⟨#[48,49,50,51,52,53,54,55,56,57,97,98,99,100,101,102]⟩,⟨#[116,111,107,54]⟩,⟨#[116,111,107]⟩]
def tokOf (n:Int):ByteArray:=toks.getD (inD n 0 7).toNat ⟨#[]⟩
structure AcM where
 what:Int
 who:Int
 id:Int
 sta:Int
 st:Nat
 en:Nat
 ds:List (Int×Int×Int)
 ns:List Int
 sel:Int
 lo:Nat
 hi:Nat
 ru:RuD
 val:Nat
 raw:Byt
 hd:ds.length≤9223372036854775807
 hst:st<18446744073709551616
 hen:en<18446744073709551616
def acC (a:AcM):List AV:=[I a.what,I a.who,I a.id,I a.sta,UN a.st,UN a.en,.sl 3 (a.ds.map dv),.sl 1 (a.ns.map I),I a.sel,Fl a.lo,Fl a.hi,
 .sl 3 (a.ru.ds.map dv),.sl 3 (a.ru.es.map dv),I a.ru.sel,Fl a.ru.lo,Fl a.ru.hi,.sl 1 (a.ru.ns.map I),Fl a.val,.sl 1 (byv a.raw)]
def acV (a:AcM):AV:=.agg (acC a)
def opA (a:AcM):Int:=inD a.what 1 17
def baseR (a:AcM):ReM:={ x0 (opA a) with tok:=tokOf (inD a.who 0 6) }
def z4E (a:AcM):Bnd:=z0Z a.sel a.lo a.hi
def silR (a:AcM) (r:ReM):ReM:={ r with st:=a.st%60,en:=a.en%90,mt:=mustL true (z0y a.ds []),any:=(z4E a).1,lo:=(z4E a).2.1,hi:=(z4E a).2.2 }
def z08 (a:AcM):ReM :=
 let op:=opA a
 if op=2∨op=7∨op=10∨op=12∨op=15 then { baseR a with id:=inD a.id 0 20 }
 else if op=3∨op=4 then { baseR a with id:=inD a.id 0 7,txt:=tokOf (emodW a.sta 0 6) }
 else if op=5 then silR a (baseR a)
 else if op=6 then silR a { baseR a with id:=inD a.id 0 13 }
 else if op=8 then { baseR a with sta:=inD a.sta 0 3 }
 else if op=9 then { baseR a with ru:=z3U a.ru }
 else if op=11 then { baseR a with ls:=z29 a.ns,val:=a.val }
 else if op=13 then { baseR a with mt:=mustL false (z0y a.ds []) }
 else baseR a
theorem z4n (n lo hi:Int) (h:lo≤hi):lo≤inD n lo hi∧inD n lo hi≤hi:=by
 unfold inD;split
 · assumption
 · unfold emodW;have h3:=Int.emod_nonneg n (show hi-lo+1≠0 by omega)
   have h4:=Int.emod_lt_of_pos n (show 0<hi-lo+1 by omega)
   omega
theorem z8G (a:AcM):1≤opA a∧opA a≤17:=z4n _ _ _ (by decide)
section
variable (σ:St)
theorem z0H (n:Int):Ans Tryz.prog 84 [I n] σ (Sx (tokOf n)) σ:=by
 have h:=z0d σ n 0 7 (by decide) (by decide) (by decide)
 have hr:=z4n n 0 7 (by decide)
 unfold tokOf;generalize inD n 0 7=m at h hr⊢;refine Ans.of_run t84 ?_;simp -implicitDefEqProofs only[c84,r84,go_sem];refine CO.intro h ?_;obtain⟨k,rfl⟩:=Int.eq_ofNat_of_zero_le hr.1;have:k<8:=by omega
 match k,this with
 |0,_|1,_|2,_|3,_|4,_|5,_|6,_|7,_ =>
  simp -implicitDefEqProofs only[go_sem];exact Fini.ret rfl
end
section
variable (σ:St)
set_option maxHeartbeats 4000000 in
theorem act_1 (a:AcM) (e:opA a=1):Ans Tryz.prog 47 [acV a] σ (reV (z08 a)) σ:=by
 have h1:=fun s=>z0d s a.who 0 6 (by decide) (by decide) (by decide)
 have h2:=fun s=>z0H s (inD a.who 0 6)
 have h3:∀s,Ans Tryz.prog 85 [I a.what,I 1,I 17] s (I 1) s:=fun s=>by
  have:=z0d s a.what 1 17 (by decide) (by decide) (by decide)
  have e:inD a.what 1 17=1:=e;rw[e]at this;exact this
 have hD:z08 a=baseR a:=by
  unfold z08;simp[e]
 rw[hD];unfold baseR;rw[e];generalize tokOf (inD a.who 0 6)=tk at h2⊢;generalize inD a.who 0 6=w at h1 h2;refine Ans.subR (r:=.agg [Sx tk,I 1,I 0,Sx ⟨#[]⟩,UN 0,UN 0,I 0,.nils,Bo false,Fl 0,Fl 0,.nils,.nils,Bo false,Fl 0,Fl 0,.nils,.nils,Fl 0]) ?_ (.agg (.cons (.refl _) <| .cons (.refl _) <| .cons (.refl _) <| .cons (.refl _) <| .cons (.refl _) <| .cons (.refl _) <| .cons (.refl _) <| .cons (.nils 3) <| .cons (.refl _) <| .cons (.refl _) <| .cons (.refl _) <| .cons (.nils 3) <| .cons (.nils 3) <| .cons (.refl _) <| .cons (.refl _) <| .cons (.refl _) <| .cons (.nils 1) <| .cons (.nils 2) <| .cons (.refl _) <| .nil))
 have hbl:Bel σ.length (.agg [Sx tk,I 1,I 0,Sx ⟨#[]⟩,UN 0,UN 0,I 0,.nils,Bo false,Fl 0,Fl 0,.nils,.nils,Bo false,Fl 0,Fl 0,.nils,.nils,Fl 0]):=.agg _ (fun i hi=>by
  have:∀y∈([Sx tk,I 1,I 0,Sx ⟨#[]⟩,UN 0,UN 0,I 0,.nils,Bo false,Fl 0,Fl 0,.nils,.nils,Bo false,Fl 0,Fl 0,.nils,.nils,Fl 0]:List AV),Bel σ.length y:=by
   intro y hy;simp only[List.mem_cons,List.not_mem_nil,or_false]at hy;rcases hy with rfl|rfl|rfl|rfl|rfl|rfl|rfl|rfl|rfl|rfl|rfl|rfl|rfl|rfl|rfl|rfl|rfl|rfl|rfl
   all_goals first|exact .pl _|exact .nils|exact z0q _ _|exact z0G _ _|exact z0t _ _
  exact this _ (List.getElem_mem hi))
 refine Ans.of_run' t47 (fun hbel _=>?_)
 unfold acV acC;simp -implicitDefEqProofs only[c47,r47,go_sem,z00];refine CS.intro h1 ?_;simp -implicitDefEqProofs only[go_sem,z00];refine CS.intro h2 ?_;simp -implicitDefEqProofs only[go_sem,z00];refine CS.intro h3 ?_;simp -implicitDefEqProofs only[go_sem,z00,List.append_assoc,List.length_append,g0,g1,s0,s1];exact Fini.trim2 (σ':=σ) (ex:=[_,_]) (by simp -implicitDefEqProofs only[go_sem,resA,z01,rvA,oneOf,g0]<;>rfl) rfl (Nat.le_refl _) hbl hbel
set_option maxHeartbeats 4000000 in
theorem act_2 (a:AcM) (e:opA a=2):Ans Tryz.prog 47 [acV a] σ (reV (z08 a)) σ:=by
 have h1:=fun s=>z0d s a.who 0 6 (by decide) (by decide) (by decide)
 have h2:=fun s=>z0H s (inD a.who 0 6)
 have h3:∀s,Ans Tryz.prog 85 [I a.what,I 1,I 17] s (I 2) s:=fun s=>by
  have:=z0d s a.what 1 17 (by decide) (by decide) (by decide)
  have e:inD a.what 1 17=2:=e;rw[e]at this;exact this
 have hD:z08 a={ baseR a with id:=inD a.id 0 20 }:=by
  unfold z08;simp[e]
 rw[hD];unfold baseR;rw[e];generalize tokOf (inD a.who 0 6)=tk at h2⊢;generalize inD a.who 0 6=w at h1 h2;have k1:=fun s=>z0d s a.id 0 20 (by decide) (by decide) (by decide)
 generalize inD a.id 0 20=v1 at k1⊢;refine Ans.subR (r:=.agg [Sx tk,I 2,I v1,Sx ⟨#[]⟩,UN 0,UN 0,I 0,.nils,Bo false,Fl 0,Fl 0,.nils,.nils,Bo false,Fl 0,Fl 0,.nils,.nils,Fl 0]) ?_ (.agg (.cons (.refl _) <| .cons (.refl _) <| .cons (.refl _) <| .cons (.refl _) <| .cons (.refl _) <| .cons (.refl _) <| .cons (.refl _) <| .cons (.nils 3) <| .cons (.refl _) <| .cons (.refl _) <| .cons (.refl _) <| .cons (.nils 3) <| .cons (.nils 3) <| .cons (.refl _) <| .cons (.refl _) <| .cons (.refl _) <| .cons (.nils 1) <| .cons (.nils 2) <| .cons (.refl _) <| .nil))
 have hbl:Bel σ.length (.agg [Sx tk,I 2,I v1,Sx ⟨#[]⟩,UN 0,UN 0,I 0,.nils,Bo false,Fl 0,Fl 0,.nils,.nils,Bo false,Fl 0,Fl 0,.nils,.nils,Fl 0]):=.agg _ (fun i hi=>by
  have:∀y∈([Sx tk,I 2,I v1,Sx ⟨#[]⟩,UN 0,UN 0,I 0,.nils,Bo false,Fl 0,Fl 0,.nils,.nils,Bo false,Fl 0,Fl 0,.nils,.nils,Fl 0]:List AV),Bel σ.length y:=by
   intro y hy;simp only[List.mem_cons,List.not_mem_nil,or_false]at hy;rcases hy with rfl|rfl|rfl|rfl|rfl|rfl|rfl|rfl|rfl|rfl|rfl|rfl|rfl|rfl|rfl|rfl|rfl|rfl|rfl
   all_goals first|exact .pl _|exact .nils|exact z0q _ _|exact z0G _ _|exact z0t _ _
  exact this _ (List.getElem_mem hi))
 refine Ans.of_run' t47 (fun hbel _=>?_)
 unfold acV acC;simp -implicitDefEqProofs only[c47,r47,go_sem,z00];refine CS.intro h1 ?_;simp -implicitDefEqProofs only[go_sem,z00];refine CS.intro h2 ?_;simp -implicitDefEqProofs only[go_sem,z00];refine CS.intro h3 ?_;simp -implicitDefEqProofs only[go_sem,z00,List.append_assoc,List.length_append,g0,g1,s0,s1];refine CO.intro (k1 _) ?_;simp -implicitDefEqProofs only[go_sem,g0,g1,s0,s1];exact Fini.trim2 (σ':=σ) (ex:=[_,_]) (by simp -implicitDefEqProofs only[go_sem,resA,z01,rvA,oneOf,g0]<;>rfl) rfl (Nat.le_refl _) hbl hbel
set_option maxHeartbeats 4000000 in
theorem act_3 (a:AcM) (e:opA a=3):Ans Tryz.prog 47 [acV a] σ (reV (z08 a)) σ:=by
 have h1:=fun s=>z0d s a.who 0 6 (by decide) (by decide) (by decide)
 have h2:=fun s=>z0H s (inD a.who 0 6)
 have h3:∀s,Ans Tryz.prog 85 [I a.what,I 1,I 17] s (I 3) s:=fun s=>by
  have:=z0d s a.what 1 17 (by decide) (by decide) (by decide)
  have e:inD a.what 1 17=3:=e;rw[e]at this;exact this
 have hD:z08 a={ baseR a with id:=inD a.id 0 7,txt:=tokOf (emodW a.sta 0 6) }:=by
  unfold z08;simp[e]
 rw[hD];unfold baseR;rw[e];generalize tokOf (inD a.who 0 6)=tk at h2⊢;generalize inD a.who 0 6=w at h1 h2;have k1:=fun s=>z0d s a.id 0 7 (by decide) (by decide) (by decide)
 have k2:=fun s=>z2L s a.sta 0 6 (by decide) (by decide) (by decide)
 have k3:=fun s=>z0H s (emodW a.sta 0 6)
 generalize inD a.id 0 7=v1 at k1⊢;generalize tokOf (emodW a.sta 0 6)=v2 at k3⊢;generalize emodW a.sta 0 6=v3 at k2 k3;refine Ans.subR (r:=.agg [Sx tk,I 3,I v1,Sx v2,UN 0,UN 0,I 0,.nils,Bo false,Fl 0,Fl 0,.nils,.nils,Bo false,Fl 0,Fl 0,.nils,.nils,Fl 0]) ?_ (.agg (.cons (.refl _) <| .cons (.refl _) <| .cons (.refl _) <| .cons (.refl _) <| .cons (.refl _) <| .cons (.refl _) <| .cons (.refl _) <| .cons (.nils 3) <| .cons (.refl _) <| .cons (.refl _) <| .cons (.refl _) <| .cons (.nils 3) <| .cons (.nils 3) <| .cons (.refl _) <| .cons (.refl _) <| .cons (.refl _) <| .cons (.nils 1) <| .cons (.nils 2) <| .cons (.refl _) <| .nil))
 have hbl:Bel σ.length (.agg [Sx tk,I 3,I v1,Sx v2,UN 0,UN 0,I 0,.nils,Bo false,Fl 0,Fl 0,.nils,.nils,Bo false,Fl 0,Fl 0,.nils,.nils,Fl 0]):=.agg _ (fun i hi=>by
  have:∀y∈([Sx tk,I 3,I v1,Sx v2,UN 0,UN 0,I 0,.nils,Bo false,Fl 0,Fl 0,.nils,.nils,Bo false,Fl 0,Fl 0,.nils,.nils,Fl 0]:List AV),Bel σ.length y:=by
   intro y hy;simp only[List.mem_cons,List.not_mem_nil,or_false]at hy;rcases hy with rfl|rfl|rfl|rfl|rfl|rfl|rfl|rfl|rfl|rfl|rfl|rfl|rfl|rfl|rfl|rfl|rfl|rfl|rfl
   all_goals first|exact .pl _|exact .nils|exact z0q _ _|exact z0G _ _|exact z0t _ _
  exact this _ (List.getElem_mem hi))
 refine Ans.of_run' t47 (fun hbel _=>?_)
 unfold acV acC;simp -implicitDefEqProofs only[c47,r47,go_sem,z00];refine CS.intro h1 ?_;simp -implicitDefEqProofs only[go_sem,z00];refine CS.intro h2 ?_;simp -implicitDefEqProofs only[go_sem,z00];refine CS.intro h3 ?_;simp -implicitDefEqProofs only[go_sem,z00,List.append_assoc,List.length_append,g0,g1,s0,s1];refine CD.intro (k1 _) ?_;simp -implicitDefEqProofs only[go_sem,g0,g1,s0,s1];refine CD.intro (k2 _) ?_;simp -implicitDefEqProofs only[go_sem,g0,g1,s0,s1];refine CD.intro (k3 _) ?_;simp -implicitDefEqProofs only[go_sem,g0,g1,s0,s1];exact Fini.trim2 (σ':=σ) (ex:=[_,_]) (by simp -implicitDefEqProofs only[go_sem,resA,z01,rvA,oneOf,g0]<;>rfl) rfl (Nat.le_refl _) hbl hbel
set_option maxHeartbeats 4000000 in
theorem act_4 (a:AcM) (e:opA a=4):Ans Tryz.prog 47 [acV a] σ (reV (z08 a)) σ:=by
 have h1:=fun s=>z0d s a.who 0 6 (by decide) (by decide) (by decide)
 have h2:=fun s=>z0H s (inD a.who 0 6)
 have h3:∀s,Ans Tryz.prog 85 [I a.what,I 1,I 17] s (I 4) s:=fun s=>by
  have:=z0d s a.what 1 17 (by decide) (by decide) (by decide)
  have e:inD a.what 1 17=4:=e;rw[e]at this;exact this
 have hD:z08 a={ baseR a with id:=inD a.id 0 7,txt:=tokOf (emodW a.sta 0 6) }:=by
  unfold z08;simp[e]
 rw[hD];unfold baseR;rw[e];generalize tokOf (inD a.who 0 6)=tk at h2⊢;generalize inD a.who 0 6=w at h1 h2;have k1:=fun s=>z0d s a.id 0 7 (by decide) (by decide) (by decide)
 have k2:=fun s=>z2L s a.sta 0 6 (by decide) (by decide) (by decide)
 have k3:=fun s=>z0H s (emodW a.sta 0 6)
 generalize inD a.id 0 7=v1 at k1⊢;generalize tokOf (emodW a.sta 0 6)=v2 at k3⊢;generalize emodW a.sta 0 6=v3 at k2 k3;refine Ans.subR (r:=.agg [Sx tk,I 4,I v1,Sx v2,UN 0,UN 0,I 0,.nils,Bo false,Fl 0,Fl 0,.nils,.nils,Bo false,Fl 0,Fl 0,.nils,.nils,Fl 0]) ?_ (.agg (.cons (.refl _) <| .cons (.refl _) <| .cons (.refl _) <| .cons (.refl _) <| .cons (.refl _) <| .cons (.refl _) <| .cons (.refl _) <| .cons (.nils 3) <| .cons (.refl _) <| .cons (.refl _) <| .cons (.refl _) <| .cons (.nils 3) <| .cons (.nils 3) <| .cons (.refl _) <| .cons (.refl _) <| .cons (.refl _) <| .cons (.nils 1) <| .cons (.nils 2) <| .cons (.refl _) <| .nil))
 have hbl:Bel σ.length (.agg [Sx tk,I 4,I v1,Sx v2,UN 0,UN 0,I 0,.nils,Bo false,Fl 0,Fl 0,.nils,.nils,Bo false,Fl 0,Fl 0,.nils,.nils,Fl 0]):=.agg _ (fun i hi=>by
  have:∀y∈([Sx tk,I 4,I v1,Sx v2,UN 0,UN 0,I 0,.nils,Bo false,Fl 0,Fl 0,.nils,.nils,Bo false,Fl 0,Fl 0,.nils,.nils,Fl 0]:List AV),Bel σ.length y:=by
   intro y hy;simp only[List.mem_cons,List.not_mem_nil,or_false]at hy;rcases hy with rfl|rfl|rfl|rfl|rfl|rfl|rfl|rfl|rfl|rfl|rfl|rfl|rfl|rfl|rfl|rfl|rfl|rfl|rfl
   all_goals first|exact .pl _|exact .nils|exact z0q _ _|exact z0G _ _|exact z0t _ _
  exact this _ (List.getElem_mem hi))
 refine Ans.of_run' t47 (fun hbel _=>?_)
 unfold acV acC;simp -implicitDefEqProofs only[c47,r47,go_sem,z00];refine CS.intro h1 ?_;simp -implicitDefEqProofs only[go_sem,z00];refine CS.intro h2 ?_;simp -implicitDefEqProofs only[go_sem,z00];refine CS.intro h3 ?_;simp -implicitDefEqProofs only[go_sem,z00,List.append_assoc,List.length_append,g0,g1,s0,s1];refine CD.intro (k1 _) ?_;simp -implicitDefEqProofs only[go_sem,g0,g1,s0,s1];refine CD.intro (k2 _) ?_;simp -implicitDefEqProofs only[go_sem,g0,g1,s0,s1];refine CD.intro (k3 _) ?_;simp -implicitDefEqProofs only[go_sem,g0,g1,s0,s1];exact Fini.trim2 (σ':=σ) (ex:=[_,_]) (by simp -implicitDefEqProofs only[go_sem,resA,z01,rvA,oneOf,g0]<;>rfl) rfl (Nat.le_refl _) hbl hbel
end
section
variable (σ:St)
set_option maxHeartbeats 4000000 in
theorem act_5 (a:AcM) (e:opA a=5):Ans Tryz.prog 47 [acV a] σ (reV (z08 a)) σ:=by
 have h1:=fun s=>z0d s a.who 0 6 (by decide) (by decide) (by decide)
 have h2:=fun s=>z0H s (inD a.who 0 6)
 have h3:∀s,Ans Tryz.prog 85 [I a.what,I 1,I 17] s (I 5) s:=fun s=>by
  have:=z0d s a.what 1 17 (by decide) (by decide) (by decide)
  have e:inD a.what 1 17=5:=e;rw[e]at this;exact this
 have hD:z08 a=silR a (baseR a):=by
  unfold z08;simp[e]
 rw[hD];unfold baseR silR;rw[e];generalize tokOf (inD a.who 0 6)=tk at h2⊢;generalize inD a.who 0 6=w at h1 h2;have k4:∀s,Ans Tryz.prog 87 [.sl 3 (a.ds.map dv),Bo true] s (.sl 3 (mvs3 (mustL true (z0y a.ds [])))) s:=fun s=>z3t s true a.ds a.hd
 have k5:=fun s=>z7j s a.sel a.lo a.hi
 unfold z4E;generalize mustL true (z0y a.ds [])=M at k4⊢;generalize z0Z a.sel a.lo a.hi=bd at k5⊢;obtain⟨ba,bl,bh⟩:=bd;unfold bandV at k5;simp only at k5⊢;have hz1:((a.st:Int)).tmod 60=((a.st%60:Nat):Int):=rfl;have hz2:((a.en:Int)).tmod 90=((a.en%90:Nat):Int):=rfl;refine Ans.subR (r:=.agg [Sx tk,I 5,I 0,Sx ⟨#[]⟩,UN (a.st%60),UN (a.en%90),I 0,mlV M,Bo ba,Fl bl,Fl bh,.nils,.nils,Bo false,Fl 0,Fl 0,.nils,.nils,Fl 0]) ?_ (.agg (.cons (.refl _) <| .cons (.refl _) <| .cons (.refl _) <| .cons (.refl _) <| .cons (.refl _) <| .cons (.refl _) <| .cons (.refl _) <| .cons (.refl _) <| .cons (.refl _) <| .cons (.refl _) <| .cons (.refl _) <| .cons (.nils 3) <| .cons (.nils 3) <| .cons (.refl _) <| .cons (.refl _) <| .cons (.refl _) <| .cons (.nils 1) <| .cons (.nils 2) <| .cons (.refl _) <| .nil))
 have hbl:Bel σ.length (.agg [Sx tk,I 5,I 0,Sx ⟨#[]⟩,UN (a.st%60),UN (a.en%90),I 0,mlV M,Bo ba,Fl bl,Fl bh,.nils,.nils,Bo false,Fl 0,Fl 0,.nils,.nils,Fl 0]):=.agg _ (fun i hi=>by
  have:∀y∈([Sx tk,I 5,I 0,Sx ⟨#[]⟩,UN (a.st%60),UN (a.en%90),I 0,mlV M,Bo ba,Fl bl,Fl bh,.nils,.nils,Bo false,Fl 0,Fl 0,.nils,.nils,Fl 0]:List AV),Bel σ.length y:=by
   intro y hy;simp only[List.mem_cons,List.not_mem_nil,or_false]at hy;rcases hy with rfl|rfl|rfl|rfl|rfl|rfl|rfl|rfl|rfl|rfl|rfl|rfl|rfl|rfl|rfl|rfl|rfl|rfl|rfl
   all_goals first|exact .pl _|exact .nils|exact z0q _ _|exact z0G _ _|exact z0t _ _
  exact this _ (List.getElem_mem hi))
 refine Ans.of_run' t47 (fun hbel _=>?_)
 unfold acV acC;simp -implicitDefEqProofs only[c47,r47,go_sem,z00];refine CS.intro h1 ?_;simp -implicitDefEqProofs only[go_sem,z00];refine CS.intro h2 ?_;simp -implicitDefEqProofs only[go_sem,z00];refine CS.intro h3 ?_;simp -implicitDefEqProofs only[go_sem,z00,List.append_assoc,List.length_append,g0,g1,s0,s1,hz1,hz2];refine CD.intro (k4 _) ?_;simp -implicitDefEqProofs only[go_sem,g0,g1,s0,s1,hz1,hz2];refine CD.intro (k5 _) ?_;simp -implicitDefEqProofs only[go_sem,g0,g1,s0,s1,hz1,hz2];exact Fini.trim2 (σ':=σ) (ex:=[_,_]) (by simp -implicitDefEqProofs only[go_sem,resA,z01,rvA,oneOf,g0]<;>rfl) rfl (Nat.le_refl _) hbl hbel
set_option maxHeartbeats 4000000 in
theorem act_6 (a:AcM) (e:opA a=6):Ans Tryz.prog 47 [acV a] σ (reV (z08 a)) σ:=by
 have h1:=fun s=>z0d s a.who 0 6 (by decide) (by decide) (by decide)
 have h2:=fun s=>z0H s (inD a.who 0 6)
 have h3:∀s,Ans Tryz.prog 85 [I a.what,I 1,I 17] s (I 6) s:=fun s=>by
  have:=z0d s a.what 1 17 (by decide) (by decide) (by decide)
  have e:inD a.what 1 17=6:=e;rw[e]at this;exact this
 have hD:z08 a=silR a { baseR a with id:=inD a.id 0 13 }:=by
  unfold z08;simp[e]
 rw[hD];unfold baseR silR;rw[e];generalize tokOf (inD a.who 0 6)=tk at h2⊢;generalize inD a.who 0 6=w at h1 h2;have k1:=fun s=>z0d s a.id 0 13 (by decide) (by decide) (by decide)
 generalize inD a.id 0 13=v1 at k1⊢;have k4:∀s,Ans Tryz.prog 87 [.sl 3 (a.ds.map dv),Bo true] s (.sl 3 (mvs3 (mustL true (z0y a.ds [])))) s:=fun s=>z3t s true a.ds a.hd
 have k5:=fun s=>z7j s a.sel a.lo a.hi
 unfold z4E;generalize mustL true (z0y a.ds [])=M at k4⊢;generalize z0Z a.sel a.lo a.hi=bd at k5⊢;obtain⟨ba,bl,bh⟩:=bd;unfold bandV at k5;simp only at k5⊢;have hz1:((a.st:Int)).tmod 60=((a.st%60:Nat):Int):=rfl;have hz2:((a.en:Int)).tmod 90=((a.en%90:Nat):Int):=rfl;refine Ans.subR (r:=.agg [Sx tk,I 6,I v1,Sx ⟨#[]⟩,UN (a.st%60),UN (a.en%90),I 0,mlV M,Bo ba,Fl bl,Fl bh,.nils,.nils,Bo false,Fl 0,Fl 0,.nils,.nils,Fl 0]) ?_ (.agg (.cons (.refl _) <| .cons (.refl _) <| .cons (.refl _) <| .cons (.refl _) <| .cons (.refl _) <| .cons (.refl _) <| .cons (.refl _) <| .cons (.refl _) <| .cons (.refl _) <| .cons (.refl _) <| .cons (.refl _) <| .cons (.nils 3) <| .cons (.nils 3) <| .cons (.refl _) <| .cons (.refl _) <| .cons (.refl _) <| .cons (.nils 1) <| .cons (.nils 2) <| .cons (.refl _) <| .nil))
 have hbl:Bel σ.length (.agg [Sx tk,I 6,I v1,Sx ⟨#[]⟩,UN (a.st%60),UN (a.en%90),I 0,mlV M,Bo ba,Fl bl,Fl bh,.nils,.nils,Bo false,Fl 0,Fl 0,.nils,.nils,Fl 0]):=.agg _ (fun i hi=>by
  have:∀y∈([Sx tk,I 6,I v1,Sx ⟨#[]⟩,UN (a.st%60),UN (a.en%90),I 0,mlV M,Bo ba,Fl bl,Fl bh,.nils,.nils,Bo false,Fl 0,Fl 0,.nils,.nils,Fl 0]:List AV),Bel σ.length y:=by
   intro y hy;simp only[List.mem_cons,List.not_mem_nil,or_false]at hy;rcases hy with rfl|rfl|rfl|rfl|rfl|rfl|rfl|rfl|rfl|rfl|rfl|rfl|rfl|rfl|rfl|rfl|rfl|rfl|rfl
   all_goals first|exact .pl _|exact .nils|exact z0q _ _|exact z0G _ _|exact z0t _ _
  exact this _ (List.getElem_mem hi))
 refine Ans.of_run' t47 (fun hbel _=>?_)
 unfold acV acC;simp -implicitDefEqProofs only[c47,r47,go_sem,z00];refine CS.intro h1 ?_;simp -implicitDefEqProofs only[go_sem,z00];refine CS.intro h2 ?_;simp -implicitDefEqProofs only[go_sem,z00];refine CS.intro h3 ?_;simp -implicitDefEqProofs only[go_sem,z00,List.append_assoc,List.length_append,g0,g1,s0,s1,hz1,hz2];refine CO.intro (k1 _) ?_;simp -implicitDefEqProofs only[go_sem,g0,g1,s0,s1,hz1,hz2];refine CD.intro (k4 _) ?_;simp -implicitDefEqProofs only[go_sem,g0,g1,s0,s1,hz1,hz2];refine CD.intro (k5 _) ?_;simp -implicitDefEqProofs only[go_sem,g0,g1,s0,s1,hz1,hz2];exact Fini.trim2 (σ':=σ) (ex:=[_,_]) (by simp -implicitDefEqProofs only[go_sem,resA,z01,rvA,oneOf,g0]<;>rfl) rfl (Nat.le_refl _) hbl hbel
set_option maxHeartbeats 4000000 in
theorem act_7 (a:AcM) (e:opA a=7):Ans Tryz.prog 47 [acV a] σ (reV (z08 a)) σ:=by
 have h1:=fun s=>z0d s a.who 0 6 (by decide) (by decide) (by decide)
 have h2:=fun s=>z0H s (inD a.who 0 6)
 have h3:∀s,Ans Tryz.prog 85 [I a.what,I 1,I 17] s (I 7) s:=fun s=>by
  have:=z0d s a.what 1 17 (by decide) (by decide) (by decide)
  have e:inD a.what 1 17=7:=e;rw[e]at this;exact this
 have hD:z08 a={ baseR a with id:=inD a.id 0 20 }:=by
  unfold z08;simp[e]
 rw[hD];unfold baseR;rw[e];generalize tokOf (inD a.who 0 6)=tk at h2⊢;generalize inD a.who 0 6=w at h1 h2;have k1:=fun s=>z0d s a.id 0 20 (by decide) (by decide) (by decide)
 generalize inD a.id 0 20=v1 at k1⊢;refine Ans.subR (r:=.agg [Sx tk,I 7,I v1,Sx ⟨#[]⟩,UN 0,UN 0,I 0,.nils,Bo false,Fl 0,Fl 0,.nils,.nils,Bo false,Fl 0,Fl 0,.nils,.nils,Fl 0]) ?_ (.agg (.cons (.refl _) <| .cons (.refl _) <| .cons (.refl _) <| .cons (.refl _) <| .cons (.refl _) <| .cons (.refl _) <| .cons (.refl _) <| .cons (.nils 3) <| .cons (.refl _) <| .cons (.refl _) <| .cons (.refl _) <| .cons (.nils 3) <| .cons (.nils 3) <| .cons (.refl _) <| .cons (.refl _) <| .cons (.refl _) <| .cons (.nils 1) <| .cons (.nils 2) <| .cons (.refl _) <| .nil))
 have hbl:Bel σ.length (.agg [Sx tk,I 7,I v1,Sx ⟨#[]⟩,UN 0,UN 0,I 0,.nils,Bo false,Fl 0,Fl 0,.nils,.nils,Bo false,Fl 0,Fl 0,.nils,.nils,Fl 0]):=.agg _ (fun i hi=>by
  have:∀y∈([Sx tk,I 7,I v1,Sx ⟨#[]⟩,UN 0,UN 0,I 0,.nils,Bo false,Fl 0,Fl 0,.nils,.nils,Bo false,Fl 0,Fl 0,.nils,.nils,Fl 0]:List AV),Bel σ.length y:=by
   intro y hy;simp only[List.mem_cons,List.not_mem_nil,or_false]at hy;rcases hy with rfl|rfl|rfl|rfl|rfl|rfl|rfl|rfl|rfl|rfl|rfl|rfl|rfl|rfl|rfl|rfl|rfl|rfl|rfl
   all_goals first|exact .pl _|exact .nils|exact z0q _ _|exact z0G _ _|exact z0t _ _
  exact this _ (List.getElem_mem hi))
 refine Ans.of_run' t47 (fun hbel _=>?_)
 unfold acV acC;simp -implicitDefEqProofs only[c47,r47,go_sem,z00];refine CS.intro h1 ?_;simp -implicitDefEqProofs only[go_sem,z00];refine CS.intro h2 ?_;simp -implicitDefEqProofs only[go_sem,z00];refine CS.intro h3 ?_;simp -implicitDefEqProofs only[go_sem,z00,List.append_assoc,List.length_append,g0,g1,s0,s1];refine CO.intro (k1 _) ?_;simp -implicitDefEqProofs only[go_sem,g0,g1,s0,s1];exact Fini.trim2 (σ':=σ) (ex:=[_,_]) (by simp -implicitDefEqProofs only[go_sem,resA,z01,rvA,oneOf,g0]<;>rfl) rfl (Nat.le_refl _) hbl hbel
set_option maxHeartbeats 4000000 in
theorem act_8 (a:AcM) (e:opA a=8):Ans Tryz.prog 47 [acV a] σ (reV (z08 a)) σ:=by
 have h1:=fun s=>z0d s a.who 0 6 (by decide) (by decide) (by decide)
 have h2:=fun s=>z0H s (inD a.who 0 6)
 have h3:∀s,Ans Tryz.prog 85 [I a.what,I 1,I 17] s (I 8) s:=fun s=>by
  have:=z0d s a.what 1 17 (by decide) (by decide) (by decide)
  have e:inD a.what 1 17=8:=e;rw[e]at this;exact this
 have hD:z08 a={ baseR a with sta:=inD a.sta 0 3 }:=by
  unfold z08;simp[e]
 rw[hD];unfold baseR;rw[e];generalize tokOf (inD a.who 0 6)=tk at h2⊢;generalize inD a.who 0 6=w at h1 h2;have k1:=fun s=>z0d s a.sta 0 3 (by decide) (by decide) (by decide)
 generalize inD a.sta 0 3=v1 at k1⊢;refine Ans.subR (r:=.agg [Sx tk,I 8,I 0,Sx ⟨#[]⟩,UN 0,UN 0,I v1,.nils,Bo false,Fl 0,Fl 0,.nils,.nils,Bo false,Fl 0,Fl 0,.nils,.nils,Fl 0]) ?_ (.agg (.cons (.refl _) <| .cons (.refl _) <| .cons (.refl _) <| .cons (.refl _) <| .cons (.refl _) <| .cons (.refl _) <| .cons (.refl _) <| .cons (.nils 3) <| .cons (.refl _) <| .cons (.refl _) <| .cons (.refl _) <| .cons (.nils 3) <| .cons (.nils 3) <| .cons (.refl _) <| .cons (.refl _) <| .cons (.refl _) <| .cons (.nils 1) <| .cons (.nils 2) <| .cons (.refl _) <| .nil))
 have hbl:Bel σ.length (.agg [Sx tk,I 8,I 0,Sx ⟨#[]⟩,UN 0,UN 0,I v1,.nils,Bo false,Fl 0,Fl 0,.nils,.nils,Bo false,Fl 0,Fl 0,.nils,.nils,Fl 0]):=.agg _ (fun i hi=>by
  have:∀y∈([Sx tk,I 8,I 0,Sx ⟨#[]⟩,UN 0,UN 0,I v1,.nils,Bo false,Fl 0,Fl 0,.nils,.nils,Bo false,Fl 0,Fl 0,.nils,.nils,Fl 0]:List AV),Bel σ.length y:=by
   intro y hy;simp only[List.mem_cons,List.not_mem_nil,or_false]at hy;rcases hy with rfl|rfl|rfl|rfl|rfl|rfl|rfl|rfl|rfl|rfl|rfl|rfl|rfl|rfl|rfl|rfl|rfl|rfl|rfl
   all_goals first|exact .pl _|exact .nils|exact z0q _ _|exact z0G _ _|exact z0t _ _
  exact this _ (List.getElem_mem hi))
 refine Ans.of_run' t47 (fun hbel _=>?_)
 unfold acV acC;simp -implicitDefEqProofs only[c47,r47,go_sem,z00];refine CS.intro h1 ?_;simp -implicitDefEqProofs only[go_sem,z00];refine CS.intro h2 ?_;simp -implicitDefEqProofs only[go_sem,z00];refine CS.intro h3 ?_;simp -implicitDefEqProofs only[go_sem,z00,List.append_assoc,List.length_append,g0,g1,s0,s1];refine CO.intro (k1 _) ?_;simp -implicitDefEqProofs only[go_sem,g0,g1,s0,s1];exact Fini.trim2 (σ':=σ) (ex:=[_,_]) (by simp -implicitDefEqProofs only[go_sem,resA,z01,rvA,oneOf,g0]<;>rfl) rfl (Nat.le_refl _) hbl hbel
end
end Go.Proofs.YteakobbdgehlgaaGreatDoor
