/- Numbers and texts read out of bytes, by the program and by the document. No condition. -/
import Derived.Test.YteakobbdgehlgaaGreatDoorKXVi1B
import Derived.Test.YteakobbdgehlgaaGreatDoorAbArgB
import Derived.Test.YteakobbdgehlgaaGreatDoorAbSXB
import Derived.Test.YteakobbdgehlgaaGreatDoorKMCode2B
import Derived.Laws.Externs
set_option linter.unusedSimpArgs false
set_option linter.unusedVariables false
set_option linter.unusedSectionVars false
namespace Go.Proofs.YteakobbdgehlgaaGreatDoor
open Go Go.Ab Go.Cod
set_option maxRecDepth 100000
def getV (b:Byt):AV:=match getN 0 b with
 |some p=>.tup [UN p.1,I (b.length-p.2.length:Nat),Bo true]
 |none=>.tup [UN 0,I 0,Bo false]
theorem z2R {b:Byt} (h:getN 0 b=none):getV b=.tup [UN 0,I 0,Bo false]:=by unfold getV;rw[h]
theorem z3T {b:Byt} {n:Nat} {t:Byt} (h:getN 0 b=some (n,t)):getV b=.tup [UN n,I (b.length-t.length:Nat),Bo true]:=by unfold getV;rw[h]
theorem zbU:∀m:Fin 256,IntKind.u8.wrap ((BitVec.ofInt 8 (m.val:Int) &&& BitVec.ofInt 8 127).toNat:Int)=((m.val%128:Nat):Int):=by decide +kernel
theorem u8_and (c:UInt8):IntKind.u8.wrap ((BitVec.ofInt IntKind.u8.bits (c.toNat:Int) &&& BitVec.ofInt IntKind.u8.bits 127).toNat:Int)=((c.toNat%128:Nat):Int):=zbU ⟨c.toNat,c.toNat_lt⟩
theorem zan (a d s:Nat) (ha:a<2^s) (hs:s<64) (hd:d*2^s<18446744073709551616) :
  IntKind.u64.wrap ((BitVec.ofInt IntKind.u64.bits (a:Int) ||| BitVec.ofInt IntKind.u64.bits (IntKind.u64.wrap ((d:Int)*2^min (((s:Nat):Int).toNat) IntKind.u64.bits))).toNat:Int)=((a+2^s*d:Nat):Int):=by
 have hm:min (((s:Nat):Int).toNat) IntKind.u64.bits=s:=by
  show min s 64=s;omega
 have ha2:a<18446744073709551616:=Nat.lt_of_lt_of_le ha (by
  calc 2^s≤2^63:=Nat.pow_le_pow_right (by decide) (by omega)
   _≤18446744073709551616:=by decide)
 rw[hm];have e1:((d:Int)*2^s)=((d*2^s:Nat):Int):=by push_cast;rfl
 rw[e1,z1r hd]
 have e2:(BitVec.ofInt IntKind.u64.bits (a:Int) ||| BitVec.ofInt IntKind.u64.bits ((d*2^s:Nat):Int)).toNat=a+2^s*d:=by
  rw[BitVec.toNat_or]
  have f:∀n:Nat,n<18446744073709551616→(BitVec.ofInt IntKind.u64.bits (n:Int)).toNat=n:=fun n hn=>by
   rw[BitVec.ofInt_natCast,BitVec.toNat_ofNat];exact Nat.mod_eq_of_lt hn
  rw[f a ha2,f _ hd,←Nat.shiftLeft_eq,Nat.or_comm,←Nat.shiftLeft_add_eq_or_of_lt ha,Nat.shiftLeft_eq,Nat.mul_comm,Nat.add_comm]
 rw[e2]
 have hlt:a+2^s*d<18446744073709551616:=by
  by_cases h0:d=0
  · subst h0;simpa using ha2
  · have h64:(18446744073709551616:Nat)=2^s*2^(64-s):=by rw[←Nat.pow_add,show s+(64-s)=64 by omega]
    have hd2:d<2^(64-s):=by
     rw[h64,Nat.mul_comm]at hd;exact Nat.lt_of_mul_lt_mul_left hd
    have:2^s*(d+1)≤2^s*2^(64-s):=Nat.mul_le_mul_left _ hd2;rw[Nat.mul_add,Nat.mul_one]at this;omega
 exact z1r hlt
def orT (a:Nat) (c:UInt8) (s:Nat):Int:=IntKind.u64.wrap ((BitVec.ofInt 64 (a:Int) ||| BitVec.ofInt 64 (IntKind.u64.wrap (IntKind.u64.wrap (IntKind.u8.wrap ((BitVec.ofInt 8 (c.toNat:Int) &&& BitVec.ofInt 8 127).toNat:Int))*2^min s 64))).toNat:Int)
theorem zbV (a:Nat) (c:UInt8) (s:Nat) (ha:a<2^s) (hs:s<64) (hd:c.toNat%128*2^s<18446744073709551616):orT a c s=((a+2^s*(c.toNat%128):Nat):Int):=by
 have h1:=zan a (c.toNat%128) s ha hs hd
 have h2:IntKind.u64.wrap (IntKind.u8.wrap ((BitVec.ofInt 8 (c.toNat:Int) &&& BitVec.ofInt 8 127).toNat:Int))=((c.toNat%128:Nat):Int):=by
  have:IntKind.u8.wrap ((BitVec.ofInt 8 (c.toNat:Int) &&& BitVec.ofInt 8 127).toNat:Int)=((c.toNat%128:Nat):Int):=u8_and c;rw[this];exact z1r (by omega)
 unfold orT;rw[h2];exact h1
theorem z8o {i:Nat} (h:i≤100):IntKind.i64.wrap (7*(i:Int))=((7*i:Nat):Int):=by rw[wrapN (by omega) (by omega)];push_cast;rfl
section
variable (σ:St)
theorem z6T (b:Byt) (hb:b.length≤100000):Ans Tryz.prog 95 [.sl 1 (byv b)] σ (getV b) σ:=by
 refine Ans.of_run t95 ?_;simp -implicitDefEqProofs only[c95,r95,go_sem,z0d]
 refine Go.Ab.L.intro (α:={ p:Nat×Nat // p.1≤b.length∧p.1≤9∧p.2<2^(7*p.1)∧getN 0 b=(getN p.1 (b.drop p.1)).map fun q=>(p.2+2^(7*p.1)*q.1,q.2) }) (fun p=>b.length-p.1.1)
  (fun p=>mkE 43 [(5,UN p.1.2),(8,.sl 1 (byv b)),(9,I b.length),(10,I p.1.1)]) (fun _=>σ) ?_ ⟨(0,0),Nat.zero_le _,Nat.zero_le _,by simp,by cases h:getN 0 b<;>simp[h]⟩ rfl rfl
 rintro⟨⟨i,a⟩,hi,h9,ha,hg⟩ J hJ;simp only at hi h9 ha hg hJ;by_cases hlt:i<b.length
 · have hx:=z8l b i hlt;have hdr:b.drop i=b[i]::b.drop (i+1):=List.drop_eq_getElem_cons hlt;rw[hdr]at hg;have hcl:=(b[i]).toNat_lt;generalize hc:b[i]=c at hx hg hcl;have hbeq9:((i:Int)==9)=decide (i=9):=by rw[Bool.eq_iff_iff];simp;omega
   have hgt1:decide ((1:Int)<c.toNat)=decide (1<c.toNat):=by rw[Bool.eq_iff_iff];simp;omega
   have hgt0:decide ((0:Int)<i)=decide (0<i):=by rw[Bool.eq_iff_iff];simp
   have hbeq0:((c.toNat:Int)==0)=decide (c.toNat=0):=by rw[Bool.eq_iff_iff];simp
   have h128:decide ((c.toNat:Int)<128)=decide (c.toNat<128):=by rw[Bool.eq_iff_iff];simp;omega
   simp only[getN]at hg;by_cases hbad:(i=9∧1<c.toNat)∨(0<i∧c.toNat=0)
   · rw[if_pos hbad]at hg;simp only[Option.map_none]at hg;rw[z2R hg];rcases hbad with⟨h1,h2⟩|⟨h1,h2⟩
     · simp -implicitDefEqProofs only[mkE,go_sem,z0d,z1i hlt,dec_lt hlt,hx,bc,hbeq9,hgt1,decide_eq_true h1,decide_eq_true h2];exact Fini.ret rfl
     · by_cases h3:i=9
       · have h4:decide (1<c.toNat)=false:=decide_eq_false (by omega)
         simp -implicitDefEqProofs only[mkE,go_sem,z0d,z1i hlt,dec_lt hlt,hx,bc,hbeq9,hgt1,hgt0,hbeq0,decide_eq_true h1,decide_eq_true h2,decide_eq_true h3,h4];exact Fini.ret rfl
       · simp -implicitDefEqProofs only[mkE,go_sem,z0d,z1i hlt,dec_lt hlt,hx,bc,hbeq9,hgt1,hgt0,hbeq0,decide_eq_true h1,decide_eq_true h2,decide_eq_false h3];exact Fini.ret rfl
   · rw[if_neg hbad]at hg;have hs:7*i<64:=by omega
     have hd:c.toNat%128*2^(7*i)<18446744073709551616:=by
      by_cases h3:i=9
      · subst h3;have:c.toNat≤1:=by omega
        have:c.toNat%128≤1:=by omega
        calc c.toNat%128*2^(7*9)≤1*2^63:=Nat.mul_le_mul_right _ this
         _<18446744073709551616:=by decide
      · have h4:c.toNat%128<2^7:=Nat.mod_lt _ (by decide)
        calc c.toNat%128*2^(7*i)<2^7*2^(7*i):=Nat.mul_lt_mul_of_pos_right h4 (Nat.two_pow_pos _)
         _=2^(7+7*i):=by rw[Nat.pow_add]
         _≤2^63:=Nat.pow_le_pow_right (by decide) (by omega)
         _<18446744073709551616:=by decide
     have hor:=zbV a c (7*i) ha hs hd;have hin:=wrap_succ (i:=i) (by omega)
     have h7:=z8o (i:=i) (by omega)
     have go:∀(P:Prop),(decide (i=9)=true→decide (1<c.toNat)=false→P)→(decide (i=9)=false→P)→P:=fun P p q=>by
      by_cases h3:i=9
      · exact p (decide_eq_true h3) (decide_eq_false (by omega))
      · exact q (decide_eq_false h3)
     have go2:∀(P:Prop),(decide (0<i)=true→decide (c.toNat=0)=false→P)→(decide (0<i)=false→P)→P:=fun P p q=>by
      by_cases h3:0<i
      · exact p (decide_eq_true h3) (decide_eq_false (by omega))
      · exact q (decide_eq_false h3)
     by_cases hend:c.toNat<128
     · have e128:=decide_eq_true hend;rw[if_pos hend]at hg;simp only[Option.map_some]at hg;rw[z3T hg];have hmod:c.toNat%128=c.toNat:=Nat.mod_eq_of_lt hend
       have hfin:∀v:Int,v=((a+2^(7*i)*(c.toNat%128):Nat):Int)→(.tup [.pl (.int .u64 v),I ((i+1:Nat):Int),Bo true]:AV)=.tup [UN (a+2^(7*i)*c.toNat),I (b.length-(b.drop (i+1)).length:Nat),Bo true]:=by
        rintro _ rfl;rw[hmod,List.length_drop,show b.length-(b.length-(i+1))=i+1 by omega]
       refine go _ (fun x1 x2=>go2 _ (fun y1 y2=>?_) fun y1=>?_) fun x1=>go2 _ (fun y1 y2=>?_) fun y1=>?_
       · simp -implicitDefEqProofs only[mkE,go_sem,z0d,z1i hlt,dec_lt hlt,hx,bc,hbeq9,hgt1,hgt0,hbeq0,x1,x2,y1,y2,h7,h128,e128,hin];exact Fini.ret' rfl (hfin _ hor)
       · simp -implicitDefEqProofs only[mkE,go_sem,z0d,z1i hlt,dec_lt hlt,hx,bc,hbeq9,hgt1,hgt0,hbeq0,x1,x2,y1,h7,h128,e128,hin];exact Fini.ret' rfl (hfin _ hor)
       · simp -implicitDefEqProofs only[mkE,go_sem,z0d,z1i hlt,dec_lt hlt,hx,bc,hbeq9,hgt1,hgt0,hbeq0,x1,y1,y2,h7,h128,e128,hin];exact Fini.ret' rfl (hfin _ hor)
       · simp -implicitDefEqProofs only[mkE,go_sem,z0d,z1i hlt,dec_lt hlt,hx,bc,hbeq9,hgt1,hgt0,hbeq0,x1,y1,h7,h128,e128,hin];exact Fini.ret' rfl (hfin _ hor)
     · have e128:=decide_eq_false hend;rw[if_neg hend]at hg
       have hi9:i<9:=by
        rcases Nat.lt_or_eq_of_le h9 with h|h
        · exact h
        · omega
       have hgo:=hJ ⟨(i+1,a+2^(7*i)*(c.toNat%128)),by simp only;omega,by simp only;omega,(by
        simp only;have e1:2^(7*(i+1))=2^(7*i)*128:=by rw[Nat.mul_add,Nat.pow_add]
        have:c.toNat%128<128:=Nat.mod_lt _ (by decide)
        have:2^(7*i)*(c.toNat%128+1)≤2^(7*i)*128:=Nat.mul_le_mul_left _ this;rw[Nat.mul_add,Nat.mul_one]at this
        omega),(by
        simp only;rw[hg];have hm:c.toNat%128=c.toNat-128:=by omega
        cases getN (i+1) (b.drop (i+1)) with
        |none=>rfl
        |some q =>
         simp only[Option.map_some,Option.some.injEq,Prod.mk.injEq,and_true]
         rw[hm,show 7*(i+1)=7*i+7 by omega,Nat.pow_add,Nat.mul_add,Nat.add_assoc,←Nat.mul_assoc])⟩ (by simp only;omega)
       have key:∀v:Int,v=((a+2^(7*i)*(c.toNat%128):Nat):Int)→J (mkE 43 [(5,.pl (.int .u64 v)),(8,.sl 1 (byv b)),(9,I b.length),(10,I ((i+1:Nat):Int))]) σ:=by
        rintro _ rfl;exact hgo
       refine go _ (fun x1 x2=>go2 _ (fun y1 y2=>?_) fun y1=>?_) fun x1=>go2 _ (fun y1 y2=>?_) fun y1=>?_
       · simp -implicitDefEqProofs only[mkE,go_sem,z0d,z1i hlt,dec_lt hlt,hx,bc,hbeq9,hgt1,hgt0,hbeq0,x1,x2,y1,y2,h7,h128,e128,hin];exact key _ hor
       · simp -implicitDefEqProofs only[mkE,go_sem,z0d,z1i hlt,dec_lt hlt,hx,bc,hbeq9,hgt1,hgt0,hbeq0,x1,x2,y1,h7,h128,e128,hin];exact key _ hor
       · simp -implicitDefEqProofs only[mkE,go_sem,z0d,z1i hlt,dec_lt hlt,hx,bc,hbeq9,hgt1,hgt0,hbeq0,x1,y1,y2,h7,h128,e128,hin];exact key _ hor
       · simp -implicitDefEqProofs only[mkE,go_sem,z0d,z1i hlt,dec_lt hlt,hx,bc,hbeq9,hgt1,hgt0,hbeq0,x1,y1,h7,h128,e128,hin];exact key _ hor
 · have hn:b.drop i=[]:=List.drop_eq_nil_of_le (by omega)
   rw[hn]at hg;simp only[getN,Option.map_none]at hg;rw[z2R hg];simp -implicitDefEqProofs only[mkE,go_sem,z0d,zb8 hlt,zb9 hlt];exact Fini.ret rfl
end
def textV (most:Nat) (b:Byt):AV:=match textR most b with
 |some p=>.tup [Sx p.1,I (b.length-p.2.length:Nat),Bo true]
 |none=>.tup [Sx ⟨#[]⟩,I 0,Bo false]
theorem z2k {most:Nat} {b:Byt} (h:textR most b=none):textV most b=.tup [Sx ⟨#[]⟩,I 0,Bo false]:=by unfold textV;rw[h]
theorem z4p {most:Nat} {b:Byt} {s:ByteArray} {t:Byt} (h:textR most b=some (s,t)):textV most b=.tup [Sx s,I (b.length-t.length:Nat),Bo true]:=by unfold textV;rw[h]
theorem z7x {most:Nat} {b:Byt} (h:getN 0 b=none):textR most b=none:=by simp only[textR,numR,h,Option.bind_none]
theorem z9y {most:Nat} {b:Byt} {n:Nat} {t:Byt} (h:getN 0 b=some (n,t)):textR most b=if n≤most∧n≤t.length then some (⟨(t.take n).toArray⟩,t.drop n) else none:=by
 simp only[textR,numR,h,Option.bind_some];by_cases h1:n≤most
 · simp only[h1,if_true,Option.bind_some,true_and]
 · simp only[h1,if_false,Option.bind_none,false_and]
theorem decNN (a b:Nat):decide ((a:Int)<(b:Int))=decide (a<b):=by rw[Bool.eq_iff_iff];simp
theorem subN {a b:Nat} (h:b≤a) (ha:a≤100000):IntKind.i64.wrap ((a:Int)-(b:Int))=((a-b:Nat):Int):=by rw[wrapN (by omega) (by omega)];omega
theorem addN {a b:Nat} (h:a+b≤100000):IntKind.i64.wrap ((a:Int)+(b:Int))=((a+b:Nat):Int):=by rw[wrapN (by omega) (by omega)];omega
theorem wrapI {a:Nat} (h:a<9223372036854775808):IntKind.i64.wrap (a:Int)=(a:Int):=wrapN (by omega) (by omega)
section
variable (σ:St)
theorem z6i (b:Byt) (most:Nat) (hb:b.length≤100000) (hm:most<9223372036854775808):Ans Tryz.prog 99 [.sl 1 (byv b),I most] σ (textV most b) σ:=by
 refine Ans.of_run t99 ?_;simp -implicitDefEqProofs only[c99,r99,go_sem];refine CO.intro (z6T σ b hb) ?_;have hneg:decide ((most:Int)<0)=false:=by simp
 have hwm:=z1r (n:=most) (by omega)
 cases hg:getN 0 b with
 |none =>
  rw[z2R hg,z2k (z7x hg)];simp -implicitDefEqProofs only[go_sem];exact Fini.ret rfl
 |some p =>
  obtain⟨n,t⟩:=p;obtain⟨hbt,hn,_⟩:=z4M b 0 n t (by omega) hg
  have hn:n<18446744073709551616:=hn;have hlen:b.length=(putN n).length+t.length:=by rw[hbt,List.length_append]
  have hk:b.length-t.length=(putN n).length:=by omega
  have hsub:=subN (a:=b.length) (b:=(putN n).length) (by omega) hb
  have hsub2:b.length-(putN n).length=t.length:=by omega
  have hwt:=z1r (n:=t.length) (by omega)
  have e1:decide ((most:Int)<n)=decide (most<n):=decNN most n;have e2:decide ((t.length:Int)<n)=decide (t.length<n):=decNN _ n;rw[z3T hg,hk];have hR:=z9y (most:=most) hg;by_cases h1:n≤most
  · have x1:decide (most<n)=false:=decide_eq_false (by omega)
    by_cases h2:n≤t.length
    · have x2:decide (t.length<n)=false:=decide_eq_false (by omega)
      rw[if_pos ⟨h1,h2⟩]at hR;have hwn:=wrapI (a:=n) (by omega)
      have hadd:=addN (a:=(putN n).length) (b:=n) (by omega)
      have hlo:((putN n).length:Int)≤((putN n).length+n:Nat):=by omega
      have hhi:(((putN n).length+n:Nat):Int)≤(b.length:Nat):=by omega
      have hcut:(b.take ((putN n).length+n)).drop (putN n).length=t.take n:=by
       rw[hbt,List.take_append,List.take_of_length_le (by omega),Nat.add_sub_cancel_left,List.drop_left]
      rw[z4p hR];simp -implicitDefEqProofs only[go_sem,hneg,hwm,e1,x1,hsub,hsub2,hwt,e2,x2,hwn,hadd,z0d,hlo,hhi,AV.isStr,z3u,z3v,hcut,z3w,bc,z29,z2j];refine Fini.ret' rfl ?_;rw[List.length_drop];have:b.length-(t.length-n)=(putN n).length+n:=by omega
      rw[this];rfl
    · have x2:decide (t.length<n)=true:=decide_eq_true (by omega)
      rw[if_neg (by omega)]at hR
      rw[z2k hR];simp -implicitDefEqProofs only[go_sem,hneg,hwm,e1,x1,z0d,hsub,hsub2,hwt,e2,x2];exact Fini.ret rfl
  · have x1:decide (most<n)=true:=decide_eq_true (by omega)
    rw[if_neg (by omega)]at hR
    rw[z2k hR];simp -implicitDefEqProofs only[go_sem,hneg,hwm,e1,x1];exact Fini.ret rfl
end
abbrev rob (b:Byt) (q:Nat×Bool):Ob:=.box [.sl 1 (byv b),I q.1,Bo q.2]
theorem z3W {σ:St} {p:Nat} {o:Ob} (h:σ[p]?=some o) (x:Ob):(σ.set p x)[p]?=some x:=by
 have:=(List.getElem?_eq_some_iff.1 h).1;simp[this]
section
variable (σ:St) (p:Nat) (b:Byt) (q:Nat×Bool)
theorem new_ans:Ans Tryz.prog 59 [.sl 1 (byv b)] σ (.ptr σ.length 0) (σ++[rob b (0,false)]):=by
 refine Ans.of_run t59 ?_;simp -implicitDefEqProofs only[c59,r59,go_sem];exact Fini.ret rfl
theorem z0y (h:σ[p]?=some (rob b q)) (hq:q.1≤b.length):Ans Tryz.prog 96 [.ptr p 0] σ (.sl 1 (byv (b.drop q.1))) σ:=by
 have h1:(q.1:Int)≤(b.length:Nat):=by omega
 refine Ans.of_run t96 ?_;simp -implicitDefEqProofs only[c96,r96,go_sem,h,z0d,h1,z3u,z3v,List.take_length,Int.le_refl];exact Fini.ret rfl
theorem z0z (n:Nat) (ok:Bool) (h:σ[p]?=some (rob b q)) (hn:q.1+n≤100000):Ans Tryz.prog 97 [.ptr p 0,I n,Bo ok] σ (Bo !(took q n ok).2) (σ.set p (rob b (took q n ok))):=by
 obtain⟨a,bad⟩:=q;have h9:∀x,(σ.set p x)[p]?=some x:=z3W h;have hadd:=addN (a:=a) (b:=n) hn;unfold took;refine Ans.of_run t97 ?_
 cases bad with
 |true =>
  simp -implicitDefEqProofs only[c97,r97,go_sem,h,h9];exact Fini.ret rfl
 |false =>
  cases ok with
  |true =>
   simp -implicitDefEqProofs only[c97,r97,go_sem,h,h9,hadd,List.set_set];exact Fini.ret rfl
  |false =>
   simp -implicitDefEqProofs only[c97,r97,go_sem,h,h9];exact Fini.ret rfl
end
section
variable (σ:St) (p:Nat) (b:Byt) (q:Nat×Bool)
theorem z1G (most:Nat) (hm:most<18446744073709551616) (h:σ[p]?=some (rob b q)) (hq:Inb b q) (hb:b.length≤50000) :
  Ans Tryz.prog 60 [.ptr p 0,UN most] σ (UN (runR (numR most) 0 b q).1) (σ.set p (rob b (runR (numR most) 0 b q).2)):=by
 refine Ans.of_run t60 ?_;simp -implicitDefEqProofs only[c60,r60,go_sem];refine CO.intro (z0y σ p b q h hq) ?_;simp -implicitDefEqProofs only[go_sem];refine CO.intro (z6T σ (b.drop q.1) (by rw[List.length_drop];omega)) ?_
 obtain⟨a,bad⟩:=q;simp only at hq h⊢;have hq:a≤b.length:=hq
 cases hg:getN 0 (b.drop a) with
 |none =>
  have hR:numR most (b.drop a)=none:=by simp only[numR,hg,Option.bind_none]
  have ht:=z0z σ p b (a,bad) 0 false h (by simp only;omega)
  have ht:Ans Tryz.prog 97 [.ptr p 0,I 0,Bo false] σ (Bo false) (σ.set p (rob b (a,true))):=by
   have e:took (a,bad) 0 false=(a,true):=by cases bad<;>rfl
   rw[e]at ht;exact ht
  rw[z2R hg];simp -implicitDefEqProofs only[go_sem];refine CO.intro ht ?_;simp -implicitDefEqProofs only[go_sem]
  cases bad with
  |true=>rw[z0n];exact Fini.ret rfl
  |false=>rw[z0C hR];exact Fini.ret rfl
 |some x =>
  obtain⟨n,t⟩:=x;rw[z3T hg];have hl:=z9t hg;rw[List.length_drop]at hl;have e1:decide ((n:Int)≤most)=decide (n≤most):=intle n most;have ht:=z0z σ p b (a,bad) ((b.drop a).length-t.length) (decide (n≤most)) h (by simp only[List.length_drop];omega)
  by_cases h1:n≤most
  · have x1:decide (n≤most)=true:=decide_eq_true h1;rw[x1]at ht;have hR:numR most (b.drop a)=some (n,t):=by simp only[numR,hg,Option.bind_some,h1,if_true]
    simp -implicitDefEqProofs only[go_sem,e1,x1];refine CO.intro ht ?_
    cases bad with
    |true =>
     have e:took (a,true) ((b.drop a).length-t.length) true=(a,true):=rfl;rw[e,z0n];simp -implicitDefEqProofs only[go_sem];exact Fini.ret rfl
    |false =>
     have e:took (a,false) ((b.drop a).length-t.length) true=(b.length-t.length,false):=by
      simp only[took,Bool.false_or,Bool.not_true,Bool.false_eq_true,if_false,List.length_drop];congr 1;omega
     rw[e,z0r hR];simp -implicitDefEqProofs only[go_sem];exact Fini.ret rfl
  · have x1:decide (n≤most)=false:=decide_eq_false h1;rw[x1]at ht;have hR:numR most (b.drop a)=none:=by simp only[numR,hg,Option.bind_some,h1,if_false]
    have e:took (a,bad) ((b.drop a).length-t.length) false=(a,true):=by cases bad<;>rfl
    rw[e]at ht;simp -implicitDefEqProofs only[go_sem,e1,x1];refine CO.intro ht ?_;simp -implicitDefEqProofs only[go_sem]
    cases bad with
    |true=>rw[z0n];exact Fini.ret rfl
    |false=>rw[z0C hR];exact Fini.ret rfl
theorem z2l (most:Nat) (hm:most<9223372036854775808) (h:σ[p]?=some (rob b q)) (hq:Inb b q) (hb:b.length≤50000) :
  Ans Tryz.prog 62 [.ptr p 0,I most] σ (Sx (runR (textR most) ⟨#[]⟩ b q).1) (σ.set p (rob b (runR (textR most) ⟨#[]⟩ b q).2)):=by
 refine Ans.of_run t62 ?_;simp -implicitDefEqProofs only[c62,r62,go_sem];refine CO.intro (z0y σ p b q h hq) ?_;simp -implicitDefEqProofs only[go_sem];refine CO.intro (z6i σ (b.drop q.1) most (by rw[List.length_drop];omega) hm) ?_
 obtain⟨a,bad⟩:=q;simp only at hq h⊢;have hq:a≤b.length:=hq
 cases hg:textR most (b.drop a) with
 |none =>
  have ht:=z0z σ p b (a,bad) 0 false h (by simp only;omega)
  have ht:Ans Tryz.prog 97 [.ptr p 0,I 0,Bo false] σ (Bo false) (σ.set p (rob b (a,true))):=by
   have e:took (a,bad) 0 false=(a,true):=by cases bad<;>rfl
   rw[e]at ht;exact ht
  rw[z2k hg];simp -implicitDefEqProofs only[go_sem];refine CO.intro ht ?_;simp -implicitDefEqProofs only[go_sem]
  cases bad with
  |true=>rw[z0n];exact Fini.ret rfl
  |false=>rw[z0C hg];exact Fini.ret rfl
 |some x =>
  obtain⟨n,t⟩:=x;rw[z4p hg];have hl:=((z1N (most:=most) (by omega)).rest hg).1
  rw[List.length_drop]at hl;have ht:=z0z σ p b (a,bad) ((b.drop a).length-t.length) true h (by simp only[List.length_drop];omega)
  simp -implicitDefEqProofs only[go_sem];refine CO.intro ht ?_
  cases bad with
  |true =>
   have e:took (a,true) ((b.drop a).length-t.length) true=(a,true):=rfl;rw[e,z0n];simp -implicitDefEqProofs only[go_sem];exact Fini.ret rfl
  |false =>
   have e:took (a,false) ((b.drop a).length-t.length) true=(b.length-t.length,false):=by
    simp only[took,Bool.false_or,Bool.not_true,Bool.false_eq_true,if_false,List.length_drop];congr 1;omega
   rw[e,z0r hg];simp -implicitDefEqProofs only[go_sem];exact Fini.ret rfl
theorem z0G (h:σ[p]?=some (rob b q)) (hq:Inb b q) (hb:b.length≤50000) :
  Ans Tryz.prog 98 [.ptr p 0] σ (bc (runR byteR 0 b q).1) (σ.set p (rob b (runR byteR 0 b q).2)):=by
 refine Ans.of_run t98 ?_;simp -implicitDefEqProofs only[c98,r98,go_sem];refine CO.intro (z0y σ p b q h hq) ?_;obtain⟨a,bad⟩:=q;simp only at hq h⊢;have hq:a≤b.length:=hq
 cases hg:b.drop a with
 |nil =>
  have hR:byteR (b.drop a)=none:=by rw[hg];rfl
  have d0:decide ((0:Int)<((0:Nat):Int))=false:=by simp
  have ht:=z0z σ p b (a,bad) 1 false h (by simp only;omega)
  have e:took (a,bad) 1 false=(a,true):=by cases bad<;>rfl
  rw[e]at ht;simp -implicitDefEqProofs only[go_sem,zba,d0];refine CO.intro ht ?_;simp -implicitDefEqProofs only[go_sem]
  cases bad with
  |true=>rw[z0n];exact Fini.ret rfl
  |false=>rw[z0C hR];exact Fini.ret rfl
 |cons c t =>
  have hR:byteR (b.drop a)=some (c,t):=by rw[hg];rfl
  have hl:b.length-a=t.length+1:=by rw[←List.length_drop,hg];rfl
  have d0:decide ((0:Int)<(((byv t).length+1:Nat):Int))=true:=by simp
  have ht:=z0z σ p b (a,bad) 1 true h (by simp only;omega)
  simp -implicitDefEqProofs only[go_sem,z6R,d0];refine CO.intro ht ?_
  cases bad with
  |true =>
   have e:took (a,true) 1 true=(a,true):=rfl;rw[e,z0n];simp -implicitDefEqProofs only[go_sem];exact Fini.ret rfl
  |false =>
   have e:took (a,false) 1 true=(b.length-t.length,false):=by
    simp only[took,Bool.false_or,Bool.not_true,Bool.false_eq_true,if_false];congr 1;omega
   rw[e,z0r hR];simp -implicitDefEqProofs only[go_sem,bc,Int.toNat_zero];exact Fini.ret rfl
theorem z06 (ok:Bool) (h:σ[p]?=some (rob b q)) (hq:Inb b q) (hb:b.length≤50000) :
  Ans Tryz.prog 120 [.ptr p 0,Bo ok] σ (.tup []) (σ.set p (rob b (took q 0 ok))):=by
 have hq:q.1≤b.length:=hq;refine Ans.of_run t120 ?_;simp -implicitDefEqProofs only[c120,r120,go_sem];refine CO.intro (z0z σ p b q 0 ok h (by omega)) ?_
 simp -implicitDefEqProofs only[go_sem];exact Fini.normal rfl
theorem z2a (h:σ[p]?=some (rob b q)):Ans Tryz.prog 63 [.ptr p 0] σ (.tup [I (if q.2 then 0 else q.1:Nat),Bo !q.2]) σ:=by
 obtain⟨a,bad⟩:=q;refine Ans.of_run t63 ?_
 cases bad with
 |true =>
  simp -implicitDefEqProofs only[c63,r63,go_sem,h];exact Fini.ret rfl
 |false =>
  simp -implicitDefEqProofs only[c63,r63,go_sem,h];exact Fini.ret rfl
end
end Go.Proofs.YteakobbdgehlgaaGreatDoor
namespace Go.Proofs.YteakobbdgehlgaaGreatDoor
open Go Go.Ab
set_option maxRecDepth 100000
abbrev U (n:Int):AV:=.pl (.int .u64 n)
inductive Rex where
 |mk (op a b c d:Int) (ks:List Rex)
namespace Rex
def op:Rex→Int|.mk op _ _ _ _ _=>op
def a:Rex→Int|.mk _ a _ _ _ _=>a
def b:Rex→Int|.mk _ _ b _ _ _=>b
def c:Rex→Int|.mk _ _ _ c _ _=>c
def d:Rex→Int|.mk _ _ _ _ d _=>d
def ks:Rex→List Rex|.mk _ _ _ _ _ ks=>ks
mutual
def av:Rex→AV
 |.mk op a b c d ks=>.agg [I op,U a,U b,U c,U d,.sl 6 (avL ks)]
def avL:List Rex→List AV
 |[]=>[]
 |x::xs=>av x::avL xs
end
theorem zao:∀l:List Rex,avL l=l.map av
 |[]=>rfl
 |x::xs=>by rw[avL,zao xs];rfl
theorem av_eq (x:Rex):x.av=.agg [I x.op,U x.a,U x.b,U x.c,U x.d,.sl 6 (x.ks.map av)]:=by
 cases x;simp only[av,op,a,b,c,d,ks,zao]
theorem z8p {x y:Rex} (h:y∈x.ks):SizeOf.sizeOf y<SizeOf.sizeOf x:=by
 cases x;have:=List.sizeOf_lt_of_mem h;simp only[ks]at this;simp;omega
mutual
def cut:Rex→Int→Int
 |.mk _ _ _ _ _ ks,most=>cutL ks most 1
def cutL:List Rex→Int→Int→Int
 |[],_,n=>n
 |x::xs,most,n=>if n≤most then cutL xs most (n+cut x (most-n)) else n
end
def run (ks:List Rex) (most:Int):Nat→Int
 |0=>1
 |i+1=>match ks[i]? with
  |some x=>run ks most i+x.cut (most-run ks most i)
  |none=>run ks most i
end Rex
open Rex
section
variable (σ:St)
end
end Go.Proofs.YteakobbdgehlgaaGreatDoor
namespace Go.Proofs.YteakobbdgehlgaaGreatDoor
open Go Go.Ab
set_option maxRecDepth 100000
namespace Rex
mutual
def size:Rex→Int
 |.mk op _ _ _ _ ks=>if op==1 then 1 else if op==3 then sizeL ks+2*((ks.length:Int)-1) else if op==4 then sizeL ks+2 else if op==5 then sizeL ks+1 else if op==6 then sizeL ks+1 else sizeL ks
def sizeL:List Rex→Int
 |[]=>0
 |x::xs=>size x+sizeL xs
end
def plain (x:Rex):Bool:=x.a==0&&(x.b==0&&(x.c==0&&(x.d==0&&true)))
end Rex
open Rex
section
variable (σ:St)
end
end Go.Proofs.YteakobbdgehlgaaGreatDoor
namespace Go.Proofs.YteakobbdgehlgaaGreatDoor
open Go Go.Ab
set_option maxRecDepth 100000
structure Stp where
 op:Int
 a:Int
 b:Int
 c:Int
 d:Int
 x:Int
 y:Int
def Stp.av (s:Stp):AV:=.agg [I s.op,U s.a,U s.b,U s.c,U s.d,I s.x,I s.y]
def inR (n at_:Int):Bool:=decide (0≤at_)&&decide (at_<n)
def Stp.none (s:Stp):Bool:=s.a==0&&(s.b==0&&(s.c==0&&(s.d==0&&true)))
def zap (s:Stp) (n:Int) (last:Bool):Bool :=
 if(s.op != 1)&& !s.none then false
 else if s.op==1 then(s.x==0&&s.y==0)&& !last
 else if s.op==2 then inR n s.x&&inR n s.y
 else if s.op==3 then inR n s.x&&s.y==0
 else(s.op==4&&s.x==0)&&s.y==0
section
variable (σ:St)
def zbW (ys:List Stp):Bool :=
 if decide ((ys.length:Int)<1) then false else if decide ((40:Int)<ys.length) then false
 else !((ys.take (ys.length-1)).any fun s=>!zap s ys.length false)&&(match ys[ys.length-1]? with|some s=>zap s ys.length true|none=>false)
end
abbrev W (b:BitVec 64):AV:=U (b.toNat:Int)
end Go.Proofs.YteakobbdgehlgaaGreatDoor
namespace Go.Proofs.YteakobbdgehlgaaGreatDoor
open Go Go.Ab
set_option maxRecDepth 100000
namespace Rex
mutual
def lay:Nat→Rex→List Stp
 |n,.mk op a b c d ks =>
  if op==1 then[⟨1,a,b,c,d,0,0⟩]
  else if op==2 then layL n ks
  else if op==3 then layW n ((n+(layW n 0 ks).length:Nat):Int) ks
  else if op==4 then⟨2,0,0,0,0,(n:Int)+1,((n+2+(layH (n+1) ks).length:Nat):Int)⟩::(layH (n+1) ks++[⟨3,0,0,0,0,(n:Int),0⟩])
  else if op==5 then layH n ks++[⟨2,0,0,0,0,(n:Int),((n+(layH n ks).length:Nat):Int)+1⟩]
  else if op==6 then⟨2,0,0,0,0,(n:Int)+1,((n+1+(layH (n+1) ks).length:Nat):Int)⟩::layH (n+1) ks
  else[]
def layL:Nat→List Rex→List Stp
 |_,[]=>[]
 |n,x::xs=>lay n x++layL (n+(lay n x).length) xs
def layH:Nat→List Rex→List Stp
 |_,[]=>[]
 |n,x::_=>lay n x
def layW:Nat→Int→List Rex→List Stp
 |_,_,[]=>[]
 |n,fin,x::xs=>if xs.isEmpty then lay n x else
  ⟨2,0,0,0,0,(n:Int)+1,((n+2+(lay (n+1) x).length:Nat):Int)⟩::(lay (n+1) x++(⟨3,0,0,0,0,fin,0⟩::layW (n+2+(lay (n+1) x).length) fin xs))
end
end Rex
end Go.Proofs.YteakobbdgehlgaaGreatDoor
namespace Go.Proofs.YteakobbdgehlgaaGreatDoor
open Go Go.Ab
set_option maxRecDepth 100000
open Rex
def rowV (k:Nat) (L:List AV):AV:=if L.isEmpty then .nils else .osl k L.length
def rowS (sz:Nat) (A:St) (L:List AV) (E:St):St:=if L.isEmpty then A++E else A++.row sz L::E
theorem z8q {k:Nat} {L:List AV} (h:L≠[]):rowV k L=.osl k L.length:=by simp[rowV,h]
theorem z8r {sz:Nat} {A E:St} {L:List AV} (h:L≠[]):rowS sz A L E=A++.row sz L::E:=by simp[rowS,h]
abbrev sv (l:List Stp):List AV:=l.map Stp.av
theorem sv_ne {l:List Stp} (h:l≠[]):sv l≠[]:=by simpa[sv] using h
def Lays (x:Rex):Prop:=∀(ls:List Stp) (A E:St),(ls=[]→E=[])→(ls.length:Int)+x.size≤1000 →
 Ans Tryz.prog 1095 [rowV A.length (sv ls),x.av] (rowS 7 A (sv ls) E) (rowV A.length (sv (ls++lay ls.length x))) (rowS 7 A (sv (ls++lay ls.length x)) E)
theorem Lays.own {x:Rex} (h:Lays x) (ls:List Stp) (A E:St) (hne:ls≠[]) (hb:(ls.length:Int)+x.size≤1000) :
  Ans Tryz.prog 1095 [.osl A.length ls.length,x.av] (A++.row 7 (sv ls)::E) (.osl A.length (ls.length+(lay ls.length x).length)) (A++.row 7 (sv (ls++lay ls.length x))::E):=by
 have:=h ls A E (fun e=>absurd e hne) hb
 rw[z8q (sv_ne hne),z8r (sv_ne hne),z8q (sv_ne (by simp[hne])),z8r (sv_ne (by simp[hne]))]at this
 simpa[sv] using this
theorem p32:(1≤2^32)=True:=by simp
theorem w1:IntKind.i64.wrap 1=1:=by decide
end Go.Proofs.YteakobbdgehlgaaGreatDoor
namespace Go.Proofs.YteakobbdgehlgaaGreatDoor
open Go Go.Ab
theorem z8s (f : FuncId) (fn : Func) (hf : Tryz.prog.funcs[f]? = some fn) (hname : (fn.name == "runtime.NumGoroutine") = false) (hb : fn.body.isNone = true) (hn : Extern.findNext fn = none)
  (e:Array Value→Sem Value) (he:Extern.find fn=some e) (g:Value→Option Value) (hg:∀v r w,g v=some r→(e #[v]).run Tryz.prog w=.ok r w)
  (args:List AV) (σ:St) (r:AV) (σ':St) (h:(match args with|[.pl v]=>(g v).map fun r=>(AV.pl r,σ)|_=>none)=some (r,σ')):Ans Tryz.prog f args σ r σ':=by
 split at h
 · rename_i v;obtain⟨q,hq,h⟩:=z00 h;simp only[Prod.mk.injEq]at h;obtain⟨rfl,rfl⟩:=h;intro M ν w vs gd hvs;refine .inr ⟨q,w,?_,M,ν,gd,.refl,.pl _⟩;obtain⟨hl,hr⟩:=hvs
   match vs,hl with
   |[a],_ =>
    have h0:=hr 0 (by simp) (by simp)
    simp only[List.getElem_cons_zero]at h0;cases h0;rw[run_callFunc_extern hf hname hb hn he];rw[show([v].toArray)=#[v] from rfl,hg v q w hq]
    rfl
 · simp at h
def bitsG:Value→Option Value
 |.float .f64 b=>some (.int .u64 b)
 |_=>none
theorem z9z (v r:Value) (w:World) (h:bitsG v=some r):(Extern.MathFloatBits.float64bits #[v]).run Tryz.prog w=.ok r w:=by
 unfold bitsG at h;split at h<;>simp at h
 subst h;rfl
def ext_bits:Ext Tryz.prog:=⟨111,fun args σ=>match args with|[.pl v]=>(bitsG v).map fun r=>(AV.pl r,σ)|_=>none,
 z8s 111 Tryz.f111 (by kernel_rfl) (by kernel_rfl) (by kernel_rfl) (by kernel_rfl) Extern.MathFloatBits.float64bits (by kernel_rfl) bitsG z9z⟩
def z2T:Value→Option Value
 |.int .u64 n=>some (.float .f64 n.toNat)
 |_=>none
theorem z5q (v r:Value) (w:World) (h:z2T v=some r):(Extern.MathFloatBits.float64frombits #[v]).run Tryz.prog w=.ok r w:=by
 unfold z2T at h;split at h<;>simp at h
 subst h;rfl
def ext_frombits:Ext Tryz.prog:=⟨148,fun args σ=>match args with|[.pl v]=>(z2T v).map fun r=>(AV.pl r,σ)|_=>none,
 z8s 148 Tryz.f148 (by kernel_rfl) (by kernel_rfl) (by kernel_rfl) (by kernel_rfl) Extern.MathFloatBits.float64frombits (by kernel_rfl) z2T z5q⟩
theorem zbX (args:List AV) (σ:St) (r:AV) (σ':St) (h:(match args with
 |[.pl (.string a),.pl (.string b)]=>some (AV.pl (.int .i64 (Extern.BytealgCompare.cmp a b)),σ)
 |_=>none)=some (r,σ')):Ans Tryz.prog 179 args σ r σ':=by
 split at h
 · rename_i s c;simp only[Option.some.injEq,Prod.mk.injEq]at h;obtain⟨rfl,rfl⟩:=h;intro M ν w vs g hvs;refine .inr ⟨_,w,?_,M,ν,g,.refl,.pl _⟩;obtain⟨hl,hr⟩:=hvs
   match vs,hl with
   |[a,b],_ =>
    have h0:=hr 0 (by simp) (by simp)
    have h1:=hr 1 (by simp) (by simp)
    simp only[List.getElem_cons_zero,List.getElem_cons_succ]at h0 h1;cases h0;cases h1;rw[run_callFunc_extern (e:=Extern.BytealgCompare.compare) (P:=Tryz.prog) (f:=179) (fn:=Tryz.f179) (by kernel_rfl) (by kernel_rfl) (by kernel_rfl) (by kernel_rfl) (by kernel_rfl)]
    rfl
 · simp at h
theorem zbY (args:List AV) (σ:St) (r:AV) (σ':St) (h:(match args with
 |[.pl (.string s),.pl (.int .u8 c)]=>some (AV.pl (.int .i64 (firstIdx s c.toNat.toUInt8)),σ)
 |_=>none)=some (r,σ')):Ans Tryz.prog 199 args σ r σ':=by
 split at h
 · rename_i s c;simp only[Option.some.injEq,Prod.mk.injEq]at h;obtain⟨rfl,rfl⟩:=h;intro M ν w vs g hvs;refine .inr ⟨_,w,?_,M,ν,g,.refl,.pl _⟩;obtain⟨hl,hr⟩:=hvs
   match vs,hl with
   |[a,b],_ =>
    have h0:=hr 0 (by simp) (by simp)
    have h1:=hr 1 (by simp) (by simp)
    simp only[List.getElem_cons_zero,List.getElem_cons_succ]at h0 h1;cases h0;cases h1;rw[run_callFunc_extern (e:=Extern.BytealgIndexByte.indexByte) (P:=Tryz.prog) (f:=199) (fn:=Tryz.f199) (by kernel_rfl) (by kernel_rfl) (by kernel_rfl) (by kernel_rfl) (by kernel_rfl)]
    have:=run_indexByte_string (P:=Tryz.prog) s c w;rw[this];rfl
 · simp at h
set_option maxRecDepth 100000
abbrev B8 (n:Int):AV:=.pl (.int .u8 n)
abbrev pob (s:ByteArray) (at_:Nat) (bad:Bool):Ob:=.box [Sx s,I at_,Bo bad]
def byteAt (s:ByteArray) (a:Nat):Nat:=(s.data.toList.getD a 0).toNat
theorem z0R (s:ByteArray) (a:Nat):(s.data.toList.getD a 0).toNat=byteAt s a:=rfl
theorem z8t (s:ByteArray) (a:Nat):byteAt s a<256:=(s.data.toList.getD a 0).toNat_lt
theorem z1B (a b:Nat):((a:Int)==(b:Int))=(a==b):=by
 rw[Bool.eq_iff_iff];simp only[beq_iff_eq];omega
theorem set_same {σ:St} {p:Nat} {o:Ob} (h:σ[p]?=some o):σ.set p o=σ:=by
 apply List.ext_getElem?;intro i;rw[List.getElem?_set];split
 · rename_i e;subst e;have:p<σ.length:=(List.getElem?_eq_some_iff.1 h).1;simp only[this,if_true,h]
 · rfl
theorem z3x {n:Nat} (h:n≤4294967296):IntKind.i64.wrap ((n:Int)+1)=((n+1:Nat):Int):=by
 simp only[IntKind.wrap,IntKind.bits,IntKind.signed];simp;omega
def over (s:ByteArray) (a:Nat) (bad:Bool):Bool:=bad||decide (s.size≤a)
def sees (s:ByteArray) (a:Nat) (bad:Bool) (c:Nat):Bool:=!over s a bad&&(byteAt s a==c)
def nextA (s:ByteArray) (a:Nat) (bad:Bool) (c:Nat):Nat:=if sees s a bad c then a+1 else a
def pbyte (s:ByteArray) (a:Nat) (bad:Bool):Nat×Nat×Bool:=if over s a bad then(0,a,true) else(byteAt s a,a+1,bad)
def signs:List Nat:=[124,42,43,63,40,41,91,93,46,92,94,45]
def within:List Nat:=[92,93,91,94,45]
def psign (s:ByteArray) (a:Nat) (bad:Bool):Nat×Nat×Bool :=
 ((pbyte s a bad).1,(pbyte s a bad).2.1,(pbyte s a bad).2.2|| !signs.contains (pbyte s a bad).1)
def z04 (s:ByteArray) (a:Nat) (bad:Bool):Nat×Nat×Bool :=
 if(pbyte s a bad).1==92 then psign s (pbyte s a bad).2.1 (pbyte s a bad).2.2
 else((pbyte s a bad).1,(pbyte s a bad).2.1,(pbyte s a bad).2.2||within.contains (pbyte s a bad).1)
theorem z3X {s:ByteArray} {a:Nat} {bad:Bool} (h:over s a bad=false):a<s.size:=by
 simp[over]at h;omega
theorem z2m (s:ByteArray) (a:Nat) (bad:Bool):(pbyte s a bad).1<256:=by
 unfold pbyte;split
 · show 0<256;decide
 · exact z8t s a
theorem z4q (s:ByteArray) (a:Nat) (bad:Bool):(z04 s a bad).1<256:=by
 unfold z04;split
 · exact z2m _ _ _
 · exact z2m _ _ _
section
variable (σ:St) (p:Nat) (s:ByteArray) (a:Nat) (bad:Bool)
theorem z2U (h:σ[p]?=some (pob s a bad)):Ans Tryz.prog 181 [.ptr p 0] σ (Bo (over s a bad)) σ:=by
 refine Ans.of_run t181 ?_;cases bad<;>simp -implicitDefEqProofs only[c181,r181,h,go_sem]
 · refine Fini.ret ?_;simp -implicitDefEqProofs only[go_sem,over,Bool.false_or,Int.ofNat_le];rfl
 · exact Fini.ret rfl
theorem z3y (c:Nat) (h:σ[p]?=some (pob s a bad)):Ans Tryz.prog 182 [.ptr p 0,B8 c] σ (Bo (sees s a bad c)) σ:=by
 refine Ans.of_run t182 ?_;simp -implicitDefEqProofs only[c182,r182,h,go_sem];refine CD.intro (z2U σ p s a bad h) ?_;cases hb:over s a bad
 · have hlt:=z3X hb;have h1:(a:Int)<s.size:=by omega
   simp -implicitDefEqProofs only[go_sem,h,h1,z0R];refine Fini.ret ?_;simp -implicitDefEqProofs only[go_sem,sees,hb,z1B];rfl
 · simp -implicitDefEqProofs only[go_sem,h];refine Fini.ret ?_;simp -implicitDefEqProofs only[go_sem,sees,hb,Bool.false_and];rfl
theorem z3z (c:Nat) (hs:bad=true∨s.size≤40) (h:σ[p]?=some (pob s a bad)):Ans Tryz.prog 178 [.ptr p 0,B8 c] σ (Bo (sees s a bad c)) (σ.set p (pob s (nextA s a bad c) bad)):=by
 refine Ans.of_run t178 ?_;simp -implicitDefEqProofs only[c178,r178,h,go_sem];refine CO.intro (z3y σ p s a bad c h) ?_;unfold nextA;cases hb:sees s a bad c
 · simp -implicitDefEqProofs only[go_sem];rw[set_same h];exact Fini.ret rfl
 · have hlt:a<s.size:=by
    simp[sees]at hb;exact z3X hb.1
   have hsz:s.size≤40:=by
    rcases hs with rfl|hs
    · simp[sees,over]at hb
    · exact hs
   simp -implicitDefEqProofs only[go_sem,h,z3x (show a≤4294967296 by omega)]
   exact Fini.ret rfl
theorem z4R (hs:bad=true∨s.size≤40) (h:σ[p]?=some (pob s a bad)):Ans Tryz.prog 191 [.ptr p 0] σ (B8 (pbyte s a bad).1) (σ.set p (pob s (pbyte s a bad).2.1 (pbyte s a bad).2.2)):=by
 refine Ans.of_run t191 ?_;simp -implicitDefEqProofs only[c191,r191,h,go_sem];refine CO.intro (z2U σ p s a bad h) ?_;unfold pbyte;cases hb:over s a bad
 · have hlt:=z3X hb
   have hsz:s.size≤40:=by
    rcases hs with rfl|hs
    · simp[over]at hb
    · exact hs
   have h1:(a:Int)<s.size:=by omega
   have h2:IntKind.i64.wrap (((a+1:Nat):Int)-1)=(a:Int):=by
    simp only[IntKind.wrap,IntKind.bits,IntKind.signed];simp;omega
   simp -implicitDefEqProofs only[go_sem,h,z09 h,z3x (show a≤4294967296 by omega),h1,h2,z0R]
   exact Fini.ret rfl
 · simp -implicitDefEqProofs only[go_sem,h,z09 h];exact Fini.ret rfl
theorem idx60 (t:ByteArray) (c:Nat):Ans Tryz.prog 199 [Sx t,B8 c] σ (I (firstIdx t c.toUInt8)) σ:=zbY _ _ _ _ rfl
theorem z2D (t:ByteArray) (c:Nat):Ans Tryz.prog 196 [Sx t,B8 c] σ (I (firstIdx t c.toUInt8)) σ:=by
 have h58:Ans Tryz.prog 198 [Sx t,B8 c] σ (I (firstIdx t c.toUInt8)) σ:=by
  refine Ans.of_run t198 ?_;simp -implicitDefEqProofs only[c198,r198,go_sem];refine CO.intro (idx60 σ t c) ?_;simp -implicitDefEqProofs only[go_sem];exact Fini.ret rfl
 refine Ans.of_run t196 ?_;simp -implicitDefEqProofs only[c196,r196,go_sem];refine CO.intro h58 ?_;simp -implicitDefEqProofs only[go_sem];exact Fini.ret rfl
theorem z8u:∀c:Nat,c<256→decide (firstIdx (ByteArray.mk #[124,42,43,63,40,41,91,93,46,92,94,45]) c.toUInt8<0)= !signs.contains c:=by decide +kernel
theorem z7y:∀c:Nat,c<256→decide (0≤firstIdx (ByteArray.mk #[92,93,91,94,45]) c.toUInt8)=within.contains c:=by decide +kernel
def stray:List Nat:=[42,43,63,93]
theorem z8v:∀c:Nat,c<256→decide (0≤firstIdx (ByteArray.mk #[42,43,63,93]) c.toUInt8)=stray.contains c:=by decide +kernel
theorem z6U (hs:bad=true∨s.size≤40) (h:σ[p]?=some (pob s a bad)):Ans Tryz.prog 195 [.ptr p 0] σ (B8 (psign s a bad).1) (σ.set p (pob s (psign s a bad).2.1 (psign s a bad).2.2)):=by
 have hc:=z8u _ (z2m s a bad);unfold psign;refine Ans.of_run t195 ?_;simp -implicitDefEqProofs only[c195,r195,h,go_sem];refine CO.intro (z4R σ p s a bad hs h) ?_;generalize pbyte s a bad=q at hc⊢;obtain⟨c,a',b'⟩:=q;have hg:(σ.set p (pob s a' b'))[p]?=some (pob s a' b'):=z09 h _
 cases b' with
 |true =>
  simp -implicitDefEqProofs only[go_sem,hg,List.set_set];exact Fini.ret rfl
 |false =>
  simp -implicitDefEqProofs only[go_sem,hg];refine CO.intro (z2D _ _ c) ?_;simp -implicitDefEqProofs only[go_sem,hg,List.set_set];refine Fini.ret2 (n:=0) rfl rfl ?_;rw[hc];rfl
theorem z4r (hs:bad=true∨s.size≤40) (h:σ[p]?=some (pob s a bad)):Ans Tryz.prog 197 [.ptr p 0] σ (B8 (z04 s a bad).1) (σ.set p (pob s (z04 s a bad).2.1 (z04 s a bad).2.2)):=by
 have hc:=z7y _ (z2m s a bad)
 have hs':(pbyte s a bad).2.2=true∨s.size≤40:=by
  unfold pbyte;split
  · exact .inl rfl
  · exact hs
 unfold z04;refine Ans.of_run t197 ?_;simp -implicitDefEqProofs only[c197,r197,h,go_sem];refine CO.intro (z4R σ p s a bad hs h) ?_;generalize pbyte s a bad=q at hc hs'⊢;obtain⟨c,a',b'⟩:=q;have hg:(σ.set p (pob s a' b'))[p]?=some (pob s a' b'):=z09 h _;have hc92:((c:Int)==92)=(c==92):=z1B c 92
 cases h92:c==92 with
 |true =>
  simp -implicitDefEqProofs only[go_sem,hc92,h92];refine CO.intro (z6U _ p s a' b' hs' hg) ?_;simp -implicitDefEqProofs only[go_sem,List.set_set];exact Fini.ret rfl
 |false =>
  simp -implicitDefEqProofs only[go_sem,hc92,h92]
  cases b' with
  |true =>
   simp -implicitDefEqProofs only[go_sem,hg,List.set_set];exact Fini.ret rfl
  |false =>
   simp -implicitDefEqProofs only[go_sem,hg];refine CO.intro (z2D _ _ c) ?_;simp -implicitDefEqProofs only[go_sem,hg,List.set_set];refine Fini.ret2 (n:=0) rfl rfl ?_;rw[hc];rfl
end
def orU (v w:Int):Int:=IntKind.u64.wrap (BitVec.ofInt IntKind.u64.bits v ||| BitVec.ofInt IntKind.u64.bits w).toNat
def bitU (r:Nat):Int:=IntKind.u64.wrap (1*2^(min r IntKind.u64.bits))
def notU (v:Int):Int:=IntKind.u64.wrap (BitVec.ofInt IntKind.u64.bits (if IntKind.u64.signed then -1 else IntKind.u64.max) ^^^ BitVec.ofInt IntKind.u64.bits v).toNat
def z24 (S:List Int) (c:Nat):List Int:=S.set (c/64) (orU (S.getD (c/64) 0) (bitU (c%64)))
def addR (S:List Int) (f:Nat):Nat→List Int
 |0=>S
 |n+1=>z24 (addR S f n) (f+n)
theorem z7z (S:List Int) (c:Nat):(z24 S c).length=S.length:=by simp[z24]
theorem z2n (S:List Int) (f n:Nat):(addR S f n).length=S.length:=by
 induction n with
 |zero=>rfl
 |succ n ih=>rw[addR,z7z,ih]
theorem gA {σ:St} {p:Nat} (hp:p<σ.length) (o:Ob) (ex:St):(σ.set p o++ex)[p]?=some o:=by
 rw[List.getElem?_append_left (by simpa using hp)];simp[hp]
theorem sA {σ:St} {p:Nat} (hp:p<σ.length) (o o':Ob) (ex:St):(σ.set p o++ex).set p o'=σ.set p o'++ex:=by
 rw[List.set_append_left _ _ (by simpa using hp),List.set_set]
theorem gL0 (σ:St) (p:Nat) (o x:Ob) (ex:St):(σ.set p o++x::ex)[σ.length]?=some x:=by
 rw[List.getElem?_append_right (by simp)];simp
theorem sL0 (σ:St) (p:Nat) (o x y:Ob) (ex:St):(σ.set p o++x::ex).set σ.length y=σ.set p o++y::ex:=by
 rw[List.set_append_right _ _ (by simp)];simp
theorem gL1 (σ:St) (p:Nat) (o x y:Ob) (ex:St):(σ.set p o++x::y::ex)[σ.length+1]?=some y:=by
 rw[List.getElem?_append_right (by simp)];simp
theorem sL1 (σ:St) (p:Nat) (o x y z:Ob) (ex:St):(σ.set p o++x::y::ex).set (σ.length+1) z=σ.set p o++x::z::ex:=by
 rw[List.set_append_right _ _ (by simp)];simp
theorem Fini.normal2 {n m:Nat} {rvs:List RV} {r r':AV} {σ σ':St} {env:Env} (h:resA env σ rvs=some r') (e:r'=r) (e':σ=σ'):Fini m rvs r σ' .normal env σ:=by
 subst e;subst e';exact Fini.normal h
section
variable (σ:St)
theorem z2E (l off:Nat) (cs:List AV) (c:Nat) (v:Int) (h:σ[l]?=some (.box cs)) (hv:cs[off+c/64]?=some (U v)) (hc:c<256) :
  Ans Tryz.prog 194 [.ptr l off,B8 c] σ (.tup []) (σ.set l (.box (cs.set (off+c/64) (U (orU v (bitU (c%64))))))):=by
 have hk:off+c/64<cs.length:=(List.getElem?_eq_some_iff.1 hv).1
 have e1:IntKind.u8.wrap ((c:Int).tdiv 64)=((c/64:Nat):Int):=by
  rw[show(c:Int).tdiv 64=((c/64:Nat):Int) from rfl]
  simp only[IntKind.wrap,IntKind.bits,IntKind.signed];simp;omega
 have e2:(c:Int).tmod 64=((c%64:Nat):Int):=rfl;have e3:((64:Int)=0)=False:=by simp
 have e4:(((c/64:Nat):Int)<(4:Nat))=True:=by simp;omega
 have e5:cs.drop (off+c/64)=U v::cs.drop (off+c/64+1):=by
  rw[List.drop_eq_getElem_cons hk];have:=(List.getElem?_eq_some_iff.1 hv).2;rw[this]
 have e6:(off+c/64+1≤cs.length)=True:=by simp;omega
 have e7:(1≤(cs.drop (off+c/64+1)).length+1)=True:=by simp
 refine Ans.of_run t194 ?_;simp -implicitDefEqProofs only[c194,r194,go_sem,e1,e2,e3,e4,Nat.mul_one,h,e5,e6,e7,List.drop_succ_cons]
 have hset:cs.set (off+c/64) (U (orU v (bitU (c%64))))=cs.take (off+c/64)++[U (orU v (bitU (c%64)))]++cs.drop (off+c/64+1):=by
  rw[List.set_eq_take_append_cons_drop,if_pos hk];simp
 rw[hset];exact Fini.normal2 (n:=0) rfl rfl rfl
def turnS (S:List Int):List Int:=S.map notU
theorem turned_ans (a b c d:Int):Ans Tryz.prog 193 [.agg [U a,U b,U c,U d]] σ (.agg [U (notU a),U (notU b),U (notU c),U (notU d)]) σ:=by
 have k0:∀(x y:Ob),(σ++[x,y])[σ.length]?=some x:=fun x y=>by rw[List.getElem?_append_right (by simp)];simp
 have k1:∀(x y:Ob),(σ++[x,y])[σ.length+1]?=some y:=fun x y=>by rw[List.getElem?_append_right (by simp)];simp
 have s0:∀(x y z:Ob),(σ++[x,y]).set σ.length z=σ++[z,y]:=fun x y z=>by rw[List.set_append_right _ _ (by simp)];simp
 have s1:∀(x y z:Ob),(σ++[x,y]).set (σ.length+1) z=σ++[x,z]:=fun x y z=>by rw[List.set_append_right _ _ (by simp)];simp
 have q1:IntKind.i64.wrap (0+1)=1:=by decide
 have q2:IntKind.i64.wrap (1+1)=2:=by decide
 have q3:IntKind.i64.wrap (2+1)=3:=by decide
 have q4:IntKind.i64.wrap (3+1)=4:=by decide
 have q5:IntKind.i64.wrap 1=1:=by decide
 have q6:IntKind.i64.wrap 2=2:=by decide
 have q7:IntKind.i64.wrap 3=3:=by decide
 have q8:IntKind.i64.wrap 4=4:=by decide
 have n1:Int.toNat 1=1:=rfl;have n2:Int.toNat 2=2:=rfl;have n3:Int.toNat 3=3:=rfl;have c4:((4:Nat):Int)=4:=rfl;refine Ans.of_run' t193 (fun hbel _=>?_)
 simp -implicitDefEqProofs only[c193,r193,go_sem,List.append_assoc,List.length_append]
 refine L.count 4 (fun i=>mkE 15 [(1,.ptr σ.length 0),(2,.ptr (σ.length+1) 0),(4,I i)])
  (fun i=>σ++[.box (match i with|0=>[U a,U b,U c,U d]|1=>[U (notU a),U b,U c,U d]|2=>[U (notU a),U (notU b),U c,U d]|3=>[U (notU a),U (notU b),U (notU c),U d]|_=>[U (notU a),U (notU b),U (notU c),U (notU d)]),.box [U 0,U 0,U 0,U 0]]) ?_ ?_ rfl rfl
 · intro i hi Q hQ
   match i,hi,hQ with
   |0,_,hQ =>
    simp -implicitDefEqProofs only[mkE,go_sem,k0,k1,s0,s1,q1,q2,q3,q4,q5,q6,q7,q8,n1,n2,n3,c4,Int.toNat_zero,Int.cast_ofNat_Int,Int.natCast_one,Int.natCast_zero];exact hQ
   |1,_,hQ =>
    simp -implicitDefEqProofs only[mkE,go_sem,k0,k1,s0,s1,q1,q2,q3,q4,q5,q6,q7,q8,n1,n2,n3,c4,Int.toNat_zero,Int.cast_ofNat_Int,Int.natCast_one,Int.natCast_zero];exact hQ
   |2,_,hQ =>
    simp -implicitDefEqProofs only[mkE,go_sem,k0,k1,s0,s1,q1,q2,q3,q4,q5,q6,q7,q8,n1,n2,n3,c4,Int.toNat_zero,Int.cast_ofNat_Int,Int.natCast_one,Int.natCast_zero];exact hQ
   |3,_,hQ =>
    simp -implicitDefEqProofs only[mkE,go_sem,k0,k1,s0,s1,q1,q2,q3,q4,q5,q6,q7,q8,n1,n2,n3,c4,Int.toNat_zero,Int.cast_ofNat_Int,Int.natCast_one,Int.natCast_zero];exact hQ
 · intro Q;simp -implicitDefEqProofs only[mkE,go_sem,k0,k1,s0,s1,c4,Int.cast_ofNat_Int];refine Fini.trim2 (σ':=σ) (ex:=[.box [U (notU a),U (notU b),U (notU c),U (notU d)],.box [U (notU a),U (notU b),U (notU c),U (notU d)]]) ?_ rfl (Nat.le_refl _) ?_ hbel
   · simp -implicitDefEqProofs only[go_sem,resA,z03,rvA,oneOf,k1]
   · refine .agg _ fun i hi=>?_
     have:∀y∈[U (notU a),U (notU b),U (notU c),U (notU d)],Bel σ.length y:=by
      intro y hy;simp only[List.mem_cons,List.not_mem_nil,or_false]at hy;rcases hy with rfl|rfl|rfl|rfl<;>exact .pl _
     exact this _ (List.getElem_mem hi)
end
def fuel:Nat:=2^64+1
def tstU (v:Int) (r:Nat):Bool:=IntKind.u64.wrap (BitVec.ofInt IntKind.u64.bits (v.fdiv (2^(min ((r:Int)).toNat IntKind.u64.bits))) &&& BitVec.ofInt IntKind.u64.bits 1).toNat==1
def setU (s:Stp) (k:Nat):Int:=[s.a,s.b,s.c,s.d].getD k 0
def z3Y (s:Stp) (c:Nat):Bool:=s.op==1&&tstU (setU s (c/64)) (c%64)
def stpAt (ys:List Stp) (i:Nat):Stp:=ys.getD i ⟨0,0,0,0,0,0,0⟩
def cGo (s:ByteArray) (a:Nat) (b first:Bool):Bool:=first||(!over s a b&& !sees s a b 93)
def cTo (s:ByteArray) (a:Nat) (b:Bool):Nat×Nat×Bool :=
 if sees s (z04 s a b).2.1 (z04 s a b).2.2 45 then z04 s ((z04 s a b).2.1+1) (z04 s a b).2.2 else z04 s a b
def cBad (s:ByteArray) (a:Nat) (b:Bool):Bool:=(cTo s a b).2.2||decide ((cTo s a b).1<(z04 s a b).1)
def z1Q (s:ByteArray):Nat→List Int→Nat→Bool→Bool→List Int×Nat×Bool
 |0,S,a,b,_=>(S,a,b)
 |n+1,S,a,b,first=>if cGo s a b first then
   z1Q s n (addR S (z04 s a b).1 ((cTo s a b).1+1-(z04 s a b).1)) (cTo s a b).2.1 (cBad s a b) false
  else(S,a,b)
def cMeas (s:ByteArray) (a:Nat) (b first:Bool):Nat:=(s.size-a)+(if b then 0 else 1)+(if first then 1 else 0)
theorem z3A (s:ByteArray) (a:Nat) (b:Bool):a≤(pbyte s a b).2.1:=by
 unfold pbyte;split
 · exact Nat.le_refl _
 · exact Nat.le_succ _
theorem z2V (s:ByteArray) (a:Nat):(pbyte s a true)=(0,a,true):=by simp[pbyte,over]
theorem z7A (s:ByteArray) (a:Nat) (b:Bool) (h:b=false):(s.size-(pbyte s a b).2.1)+(if(pbyte s a b).2.2 then 0 else 1)+1≤(s.size-a)+1:=by
 subst h;unfold pbyte;split
 · simp
 · rename_i h;have:a<s.size:=z3X (by simpa using h)
   simp;omega
theorem z2W (s:ByteArray) (a:Nat) (b:Bool):a≤(psign s a b).2.1:=z3A s a b
theorem z4s (s:ByteArray) (a:Nat) (b:Bool):a≤(z04 s a b).2.1:=by
 unfold z04;split
 · exact Nat.le_trans (z3A s a b) (z2W _ _ _)
 · exact z3A s a b
theorem z4t (s:ByteArray) (a:Nat):(psign s a true).2.2=true:=by simp[psign,z2V]
theorem z2b (s:ByteArray) (a:Nat):z04 s a true=(0,a,true):=by simp[z04,z2V]
theorem z5r (s:ByteArray) (a:Nat) (b:Bool) (h:b=false):(s.size-(z04 s a b).2.1)+(if(z04 s a b).2.2 then 0 else 1)+1≤(s.size-a)+1:=by
 have h1:=z7A s a b h;unfold z04;split
 · have h2:=z2W s (pbyte s a b).2.1 (pbyte s a b).2.2
   cases hb:(pbyte s a b).2.2 with
   |true =>
    rw[hb]at h1 h2;rw[z4t];simp at h1⊢;omega
   |false =>
    rw[hb]at h1 h2;simp at h1;split<;>omega
 · cases hb:(pbyte s a b).2.2 with
   |true=>rw[hb]at h1;simp at h1⊢;omega
   |false =>
    rw[hb]at h1;simp only[Bool.false_or,Bool.false_eq_true,if_false]at h1⊢;split<;>omega
theorem zaq (s:ByteArray) (a:Nat) (b:Bool):(z04 s a b).2.1≤(cTo s a b).2.1:=by
 unfold cTo;split
 · exact Nat.le_trans (Nat.le_succ _) (z4s _ _ _)
 · exact Nat.le_refl _
theorem z9A (s:ByteArray) (a:Nat) (b:Bool) (h:(z04 s a b).2.2=true):(cTo s a b).2.2=true:=by
 unfold cTo;split
 · rw[h,z2b]
 · exact h
theorem z6V (s:ByteArray) (a:Nat):cTo s a true=(0,a,true):=by
 unfold cTo;rw[z2b];simp[sees,over]
theorem z3Z (s:ByteArray) (a:Nat):cBad s a true=true:=by simp[cBad,z6V]
theorem zbZ (s:ByteArray) (a:Nat) (b:Bool):(cTo s a b).1<256:=by
 unfold cTo;split<;>exact z4q _ _ _
theorem z9B (s:ByteArray) (a:Nat) (b first:Bool) (h:cGo s a b first=true):cMeas s (cTo s a b).2.1 (cBad s a b) false<cMeas s a b first:=by
 unfold cMeas
 cases b with
 |true =>
  rw[z3Z,z6V]
  cases first with
  |true=>simp
  |false=>simp[cGo,over]at h
 |false =>
  have h1:=z5r s a false rfl;have h2:=zaq s a false
  have h3:(if cBad s a false then 0 else 1)≤(if(z04 s a false).2.2 then 0 else 1):=by
   cases hm:(z04 s a false).2.2 with
   |true=>simp[cBad,z9A s a false hm]
   |false=>split<;>simp
  have h0:(if(false:Bool)=true then 0 else 1)=1:=rfl
  have h0':(if(false:Bool)=true then 1 else 0)=0:=rfl
  cases first with
  |true =>
   have h5:(if(true:Bool)=true then 1 else 0)=1:=rfl
   rw[h0,h0',h5];omega
  |false =>
   have hov:over s a false=false:=by simp[cGo]at h;exact h.1
   have hlt:=z3X hov
   have hp:a+1≤(z04 s a false).2.1:=by
    have:(pbyte s a false).2.1=a+1:=by simp[pbyte,hov]
    unfold z04;split
    · exact Nat.le_trans (by omega) (z2W _ _ _)
    · show a+1≤(pbyte s a false).2.1;omega
   have h4:(if cBad s a false then 0 else 1)≤1:=by split<;>omega
   rw[h0,h0'];omega
def z1R (s:ByteArray) (a:Nat) (b:Bool):List Int×Nat×Bool :=
 let l:=z1Q s (s.size+3) [0,0,0,0] (nextA s a b 94) b true
 ((if sees s a b 94 then turnS l.1 else l.1),nextA s l.2.1 l.2.2 93,!sees s l.2.1 l.2.2 93||l.2.2)
theorem z3h (s:ByteArray):∀(n:Nat) (S:List Int) (a:Nat) (b first:Bool),(z1Q s n S a b first).1.length=S.length
 |0,S,a,b,first=>rfl
 |n+1,S,a,b,first=>by
  rw[z1Q];split
  · rw[z3h s n,z2n]
  · rfl
theorem z7B {s:ByteArray} {a:Nat} {b:Bool} (h:b=true∨s.size≤40):(z04 s a b).2.2=true∨s.size≤40:=by
 rcases h with rfl|h
 · exact .inl (by rw[z2b])
 · exact .inr h
theorem z8w {s:ByteArray} {a:Nat} {b:Bool} (h:b=true∨s.size≤40):cBad s a b=true∨s.size≤40:=by
 rcases h with rfl|h
 · exact .inl (z3Z s a)
 · exact .inr h
theorem z5s (s:ByteArray):∀(n:Nat) (S:List Int) (a:Nat) (b first:Bool),(b=true∨s.size≤40)→((z1Q s n S a b first).2.2=true∨s.size≤40)
 |0,S,a,b,first,h=>h
 |n+1,S,a,b,first,h=>by
  rw[z1Q];split
  · exact z5s s n _ _ _ _ (z8w h)
  · exact h
theorem zbb (n:Nat) (s:ByteArray) (a:Nat) (b:Bool):BelO n (pob s a b):=by
 intro x hx;simp only[List.mem_cons,List.not_mem_nil,or_false]at hx;rcases hx with rfl|rfl|rfl<;>exact .pl _
theorem z3B (n:Nat) (S:List Int):Bel n (.agg (S.map U)):=by
 refine .agg _ fun i hi=>?_
 have:∀y∈S.map U,Bel n y:=by
  intro y hy;simp only[List.mem_map]at hy;obtain⟨v,_,rfl⟩:=hy;exact .pl _
 exact this _ (List.getElem_mem hi)
theorem z3k {σ:St} {p:Nat} {s:ByteArray} {a:Nat} {b:Bool} (h:∀o∈σ.set p (pob s a b),BelO (σ.set p (pob s a b)).length o) (a':Nat) (b':Bool) :
  ∀o∈σ.set p (pob s a' b'),BelO (σ.set p (pob s a' b')).length o:=by
 have e:σ.set p (pob s a' b')=(σ.set p (pob s a b)).set p (pob s a' b'):=by rw[List.set_set]
 have el:(σ.set p (pob s a' b')).length=(σ.set p (pob s a b)).length:=by simp
 rw[el,e];exact z1j h (zbb _ _ _ _)
theorem z6j (s:ByteArray) (a:Nat) (b:Bool):cMeas s a b true<s.size+3:=by
 unfold cMeas;have h0:(if b=true then 0 else 1)≤1:=by split<;>omega
 have h1:(if(true:Bool)=true then 1 else 0)=1:=rfl
 rw[h1];omega
theorem z2o (S:List Int) (c:Nat):(S.map U).set (0+c/64) (U (orU (S.getD (c/64) 0) (bitU (c%64))))=(z24 S c).map U:=by
 rw[Nat.zero_add,z24,List.map_set]
theorem z4S {S:List Int} (h:S.length=4) {c:Nat} (hc:c<256):(S.map U)[0+c/64]?=some (U (S.getD (c/64) 0)):=by
 have hk:c/64<S.length:=by omega
 rw[Nat.zero_add,List.getElem?_map,List.getElem?_eq_getElem hk];simp[List.getD,hk]
theorem wrap8 {n:Nat} (h:n<256):IntKind.u8.wrap (n:Int)=n:=by
 simp only[IntKind.wrap,IntKind.bits,IntKind.signed];simp;omega
theorem wrap64 {n:Nat} (h:n<100000):IntKind.i64.wrap (n:Int)=n:=by
 simp only[IntKind.wrap,IntKind.bits,IntKind.signed];simp;omega
theorem four {S:List Int} (h:S.length=4):∃a b c d,S=[a,b,c,d]:=by
 match S,h with
 |[a,b,c,d],_=>exact⟨a,b,c,d,rfl⟩
set_option maxHeartbeats 8000000 in
theorem z8x (σ:St) (p:Nat) (s:ByteArray) (a:Nat) (b:Bool) (hp:p<σ.length) (hs:b=true∨s.size≤40) :
  Ans Tryz.prog 192 [.ptr p 0] (σ.set p (pob s a b)) (.agg ((z1R s a b).1.map U)) (σ.set p (pob s (z1R s a b).2.1 (z1R s a b).2.2)):=by
 refine Ans.of_run' t192 (fun hbel _=>?_)
 have hlen:(σ.set p (pob s a b)).length=σ.length:=by simp
 simp -implicitDefEqProofs only[c192,r192,go_sem,List.append_assoc,List.length_append,List.length_set];refine CO.intro (z3z _ p s a b 94 hs (gA hp _ _)) ?_;simp -implicitDefEqProofs only[go_sem,sA hp];unfold z1R;have hcm:cMeas s (nextA s a b 94) b true<s.size+3:=z6j _ _ _;have hll:(z1Q s (s.size+3) [0,0,0,0] (nextA s a b 94) b true).1.length=4:=z3h _ _ _ _ _ _;have hlh:=z5s s (s.size+3) [0,0,0,0] (nextA s a b 94) b true hs;generalize hres:z1Q s (s.size+3) [0,0,0,0] (nextA s a b 94) b true=res at hll hlh⊢;generalize sees s a b 94=none
 refine L.intro (α:={ x:Nat×List Int×Nat×Bool×Bool // z1Q s x.1 x.2.1 x.2.2.1 x.2.2.2.1 x.2.2.2.2=res∧cMeas s x.2.2.1 x.2.2.2.1 x.2.2.2.2<x.1∧x.2.1.length=4∧(x.2.2.2.1=true∨s.size≤40) })
  (fun x=>x.1.1)
  (fun x=>mkE 68 [(0,.ptr p 0),(2,.ptr σ.length 0),(3,.ptr (σ.length+1) 0),(4,Bo none),(5,Bo x.1.2.2.2.2)])
  (fun x=>σ.set p (pob s x.1.2.2.1 x.1.2.2.2.1)++[.box [U 0,U 0,U 0,U 0],.box (x.1.2.1.map U)])
  (fun x J hJ=>?_) ⟨(s.size+3,[0,0,0,0],nextA s a b 94,b,true),hres,hcm,rfl,hs⟩ ?_ ?_
 · obtain⟨⟨n,S,a1,b1,first⟩,h1,h2,h3,h4⟩:=x;simp only at h1 h2 h3 h4 hJ⊢
   cases n with
   |zero=>omega
   |succ n =>
   rw[z1Q]at h1
   cases hgo:cGo s a1 b1 first with
   |false =>
    rw[hgo]at h1;simp only[Bool.false_eq_true,if_false]at h1;subst h1;have hf:first=false:=by cases first<;>simp[cGo]at hgo⊢
    subst hf;have hov:∀ex,Ans Tryz.prog 181 [.ptr p 0] (σ.set p (pob s a1 b1)++ex) (Bo (over s a1 b1)) (σ.set p (pob s a1 b1)++ex):=fun ex=>z2U _ p s a1 b1 (gA hp _ _)
    have hse:∀ex,Ans Tryz.prog 182 [.ptr p 0,B8 (93:Nat)] (σ.set p (pob s a1 b1)++ex) (Bo (sees s a1 b1 93)) (σ.set p (pob s a1 b1)++ex):=fun ex=>z3y _ p s a1 b1 93 (gA hp _ _)
    have hend:∀J:Prop,J→J:=fun _ h=>h
    obtain⟨x0,x1,x2,x3,rfl⟩:=four h3
    have hnx:∀(c:Nat),Ans Tryz.prog 178 [.ptr p 0,B8 c] (σ.set p (pob s a1 b1)++[.box [U 0,U 0,U 0,U 0],.box [U x0,U x1,U x2,U x3]]) (Bo (sees s a1 b1 c)) (σ.set p (pob s (nextA s a1 b1 c) b1)++[.box [U 0,U 0,U 0,U 0],.box [U x0,U x1,U x2,U x3]]):=fun c=>by
     have:=z3z (σ.set p (pob s a1 b1)++[.box [U 0,U 0,U 0,U 0],.box [U x0,U x1,U x2,U x3]]) p s a1 b1 c h4 (gA hp _ _)
     rwa [sA hp]at this
    cases ho:over s a1 b1 with
    |true =>
     have hs93:sees s a1 b1 93=false:=by simp[sees,ho]
     simp -implicitDefEqProofs only[mkE,go_sem];refine CO.intro (hov _) ?_;simp -implicitDefEqProofs only[go_sem,ho];refine CO.intro (hnx 93) ?_;cases none
     · simp -implicitDefEqProofs only[go_sem,hs93,sA hp,gA hp,gL0,sL0,gL1,sL1,nextA];refine Fini.trim2 (σ':=σ.set p (pob s a1 true)) (ex:=[.box [U x0,U x1,U x2,U x3],.box [U x0,U x1,U x2,U x3]]) ?_ rfl ?_ (z3B _ [x0,x1,x2,x3]) ?_
       · simp -implicitDefEqProofs only[go_sem,resA,z03,rvA,oneOf,gL0]
       · simp
       · exact z3k hbel _ _
     · simp -implicitDefEqProofs only[go_sem,hs93,sA hp,gA hp,gL0,sL0,gL1,sL1,nextA];refine CO.intro (turned_ans _ x0 x1 x2 x3) ?_;simp -implicitDefEqProofs only[go_sem,sA hp,gA hp,gL0,sL0,gL1,sL1,turnS];refine Fini.trim2 (σ':=σ.set p (pob s a1 true)) (ex:=[.box [U (notU x0),U (notU x1),U (notU x2),U (notU x3)],.box [U x0,U x1,U x2,U x3]]) ?_ rfl ?_ (z3B _ [notU x0,notU x1,notU x2,notU x3]) ?_
       · simp -implicitDefEqProofs only[go_sem,resA,z03,rvA,oneOf,gL0]
       · simp
       · exact z3k hbel _ _
    |false =>
     have hs93:sees s a1 b1 93=true:=by simpa[cGo,ho] using hgo
     simp -implicitDefEqProofs only[mkE,go_sem];refine CO.intro (hov _) ?_;simp -implicitDefEqProofs only[go_sem,ho];refine CO.intro (hse _) ?_;simp -implicitDefEqProofs only[go_sem,hs93];refine CO.intro (hnx 93) ?_;cases none
     · simp -implicitDefEqProofs only[go_sem,hs93,sA hp,gA hp,gL0,sL0,gL1,sL1,nextA];refine Fini.trim2 (σ':=σ.set p (pob s (a1+1) b1)) (ex:=[.box [U x0,U x1,U x2,U x3],.box [U x0,U x1,U x2,U x3]]) ?_ rfl ?_ (z3B _ [x0,x1,x2,x3]) ?_
       · simp -implicitDefEqProofs only[go_sem,resA,z03,rvA,oneOf,gL0]
       · simp
       · exact z3k hbel _ _
     · simp -implicitDefEqProofs only[go_sem,hs93,sA hp,gA hp,gL0,sL0,gL1,sL1,nextA];refine CO.intro (turned_ans _ x0 x1 x2 x3) ?_;simp -implicitDefEqProofs only[go_sem,sA hp,gA hp,gL0,sL0,gL1,sL1,turnS];refine Fini.trim2 (σ':=σ.set p (pob s (a1+1) b1)) (ex:=[.box [U (notU x0),U (notU x1),U (notU x2),U (notU x3)],.box [U x0,U x1,U x2,U x3]]) ?_ rfl ?_ (z3B _ [notU x0,notU x1,notU x2,notU x3]) ?_
       · simp -implicitDefEqProofs only[go_sem,resA,z03,rvA,oneOf,gL0]
       · simp
       · exact z3k hbel _ _
   |true =>
    rw[hgo,if_pos rfl]at h1;have h5:=z9B s a1 b1 first hgo;have hJm:cMeas s (cTo s a1 b1).2.1 (cBad s a1 b1) false<n:=by omega
    have hJl:(addR S (z04 s a1 b1).1 ((cTo s a1 b1).1+1-(z04 s a1 b1).1)).length=4:=by rw[z2n];exact h3
    have hJ':=hJ ⟨(n,addR S (z04 s a1 b1).1 ((cTo s a1 b1).1+1-(z04 s a1 b1).1),(cTo s a1 b1).2.1,cBad s a1 b1,false),h1,hJm,hJl,z8w h4⟩ (Nat.lt_succ_self n);simp only at hJ';have hm1:=z4q s a1 b1;have hm2:=zbZ s a1 b1;have hm3:=z7B (a:=a1) h4;clear hJ h1 h2 h5
    have hmem:∀ex,Ans Tryz.prog 197 [.ptr p 0] (σ.set p (pob s a1 b1)++ex) (B8 (z04 s a1 b1).1) (σ.set p (pob s (z04 s a1 b1).2.1 (z04 s a1 b1).2.2)++ex):=fun ex=>by
     have:=z4r (σ.set p (pob s a1 b1)++ex) p s a1 b1 h4 (gA hp _ _)
     rwa [sA hp]at this
    have hnext:∀(a:Nat) (b:Bool) (c:Nat) ex,(b=true∨s.size≤40)→Ans Tryz.prog 178 [.ptr p 0,B8 c] (σ.set p (pob s a b)++ex) (Bo (sees s a b c)) (σ.set p (pob s (nextA s a b c) b)++ex):=fun a b c ex h=>by
     have:=z3z (σ.set p (pob s a b)++ex) p s a b c h (gA hp _ _)
     rwa [sA hp]at this
    have hfin:∀(f t aT:Nat) (bT:Bool) (Q:Env→St→Prop),True:=fun _ _ _ _ _=>trivial
    cases first
    all_goals first
    |(simp -implicitDefEqProofs only[mkE,go_sem]
      refine CO.intro (hmem _) ?_
      simp -implicitDefEqProofs only[go_sem])
    |(have ho:over s a1 b1=false:=by simp[cGo]at hgo;exact hgo.1
      have hs93:sees s a1 b1 93=false:=by simp[cGo]at hgo;exact hgo.2
      simp -implicitDefEqProofs only[mkE,go_sem];refine CO.intro (z2U _ p s a1 b1 (gA hp _ _)) ?_;simp -implicitDefEqProofs only[go_sem,ho];refine CO.intro (z3y _ p s a1 b1 93 (gA hp _ _)) ?_;simp -implicitDefEqProofs only[go_sem,hs93];refine CO.intro (hmem _) ?_
      simp -implicitDefEqProofs only[go_sem])
    all_goals (
     clear hgo hmem;refine CO.intro (hnext _ _ 45 _ hm3) ?_;have hto:cTo s a1 b1=if sees s (z04 s a1 b1).2.1 (z04 s a1 b1).2.2 45 then z04 s ((z04 s a1 b1).2.1+1) (z04 s a1 b1).2.2 else z04 s a1 b1:=rfl
     have hbd:cBad s a1 b1=((cTo s a1 b1).2.2||decide ((cTo s a1 b1).1<(z04 s a1 b1).1)):=rfl;have hnx:nextA s (z04 s a1 b1).2.1 (z04 s a1 b1).2.2 45=if sees s (z04 s a1 b1).2.1 (z04 s a1 b1).2.2 45 then(z04 s a1 b1).2.1+1 else(z04 s a1 b1).2.1:=rfl
     rw[hnx];rw[hbd]at hJ';generalize z04 s a1 b1=m at *;obtain⟨f,am,bm⟩:=m;simp only at hm1 hm3 hto hJ'⊢
     have hmem2:∀ex,Ans Tryz.prog 197 [.ptr p 0] (σ.set p (pob s (am+1) bm)++ex) (B8 (z04 s (am+1) bm).1) (σ.set p (pob s (z04 s (am+1) bm).2.1 (z04 s (am+1) bm).2.2)++ex):=fun ex=>by
      have:=z4r (σ.set p (pob s (am+1) bm)++ex) p s (am+1) bm hm3 (gA hp _ _)
      rwa [sA hp]at this
     cases hsee:sees s am bm 45)
    all_goals (
     first
     |(rw[hsee,if_pos rfl]at hto
       simp -implicitDefEqProofs only[go_sem];refine CO.intro (hmem2 _) ?_;rw[←hto]
       simp -implicitDefEqProofs only[go_sem])
     |(rw[hsee,if_neg Bool.false_ne_true]at hto
       simp -implicitDefEqProofs only[go_sem]))
    all_goals (
     clear hmem2 hnx
     first|rw[←hto]|rw[show((f,am,bm):Nat×Nat×Bool)=cTo s a1 b1 from hto.symm]|skip)
    · rw[hto]at hm2 hJ';clear hto;simp only at hm2 hJ';have d1:decide ((f:Int)<(f:Int))=decide (f<f):=by rw[Bool.eq_iff_iff];simp
      have d2:IntKind.i64.wrap (f:Int)=(f:Int):=wrap64 (by omega)
      have d3:IntKind.i64.wrap (f:Int)=(f:Int):=wrap64 (by omega)
      cases bm
      all_goals (
       simp -implicitDefEqProofs only[go_sem,gA hp,sA hp,d1,d2,Bool.true_or,Bool.false_or]at hJ'⊢
       refine L.count (f+1-f) (fun i=>mkE 68 [(0,.ptr p 0),(2,.ptr σ.length 0),(3,.ptr (σ.length+1) 0),(4,Bo none),(7,B8 f),(8,I ((f+i:Nat):Int))])
        (fun i=>σ.set p (pob s am _)++[.box [U 0,U 0,U 0,U 0],.box ((addR S f i).map U)]) ?_ ?_ rfl rfl
       · intro i hi Q hQ;have c1:(((f+i:Nat):Int)≤(f:Int))=True:=by simp;omega
         have c2:IntKind.u8.wrap ((f+i:Nat):Int)=((f+i:Nat):Int):=wrap8 (by omega)
         have c3:IntKind.i64.wrap (((f+i:Nat):Int)+1)=((f+(i+1):Nat):Int):=by rw[wrapN (by omega) (by omega)];omega
         simp -implicitDefEqProofs only[mkE,go_sem,d3,c1,c2,c3];refine CO.intro (z2E _ (σ.length+1) 0 ((addR S f i).map U) (f+i) _ (gL1 _ _ _ _ _ _) (z4S (by rw[z2n];exact h3) (by omega)) (by omega)) ?_
         rw[sL1,z2o];simp -implicitDefEqProofs only[go_sem,c3];exact hQ
       · intro Q;have c1:(((f+(f+1-f):Nat):Int)≤(f:Int))=False:=by simp;omega
         simp -implicitDefEqProofs only[mkE,go_sem,d3,c1]
         exact hJ')
    · clear hto;generalize cTo s a1 b1=q at hm2 hJ' hJm hJl⊢;obtain⟨t,aT,bT⟩:=q;simp only at hm2 hJ'⊢;have d1:decide ((t:Int)<(f:Int))=decide (t<f):=by rw[Bool.eq_iff_iff];simp
      have d2:IntKind.i64.wrap (f:Int)=(f:Int):=wrap64 (by omega)
      have d3:IntKind.i64.wrap (t:Int)=(t:Int):=wrap64 (by omega)
      cases bT
      all_goals (
       simp -implicitDefEqProofs only[go_sem,gA hp,sA hp,d1,d2,Bool.true_or,Bool.false_or]at hJ'⊢
       refine L.count (t+1-f) (fun i=>mkE 68 [(0,.ptr p 0),(2,.ptr σ.length 0),(3,.ptr (σ.length+1) 0),(4,Bo none),(7,B8 t),(8,I ((f+i:Nat):Int))])
        (fun i=>σ.set p (pob s aT _)++[.box [U 0,U 0,U 0,U 0],.box ((addR S f i).map U)]) ?_ ?_ rfl rfl
       · intro i hi Q hQ;have c1:(((f+i:Nat):Int)≤(t:Int))=True:=by simp;omega
         have c2:IntKind.u8.wrap ((f+i:Nat):Int)=((f+i:Nat):Int):=wrap8 (by omega)
         have c3:IntKind.i64.wrap (((f+i:Nat):Int)+1)=((f+(i+1):Nat):Int):=by rw[wrapN (by omega) (by omega)];omega
         simp -implicitDefEqProofs only[mkE,go_sem,d3,c1,c2,c3];refine CO.intro (z2E _ (σ.length+1) 0 ((addR S f i).map U) (f+i) _ (gL1 _ _ _ _ _ _) (z4S (by rw[z2n];exact h3) (by omega)) (by omega)) ?_
         rw[sL1,z2o];simp -implicitDefEqProofs only[go_sem,c3];exact hQ
       · intro Q;have c1:(((f+(t+1-f):Nat):Int)≤(t:Int))=False:=by simp;omega
         simp -implicitDefEqProofs only[mkE,go_sem,d3,c1]
         exact hJ')
    · rw[hto]at hm2 hJ';clear hto;simp only at hm2 hJ';have d1:decide ((f:Int)<(f:Int))=decide (f<f):=by rw[Bool.eq_iff_iff];simp
      have d2:IntKind.i64.wrap (f:Int)=(f:Int):=wrap64 (by omega)
      have d3:IntKind.i64.wrap (f:Int)=(f:Int):=wrap64 (by omega)
      cases bm
      all_goals (
       simp -implicitDefEqProofs only[go_sem,gA hp,sA hp,d1,d2,Bool.true_or,Bool.false_or]at hJ'⊢
       refine L.count (f+1-f) (fun i=>mkE 68 [(0,.ptr p 0),(2,.ptr σ.length 0),(3,.ptr (σ.length+1) 0),(4,Bo none),(7,B8 f),(8,I ((f+i:Nat):Int))])
        (fun i=>σ.set p (pob s am _)++[.box [U 0,U 0,U 0,U 0],.box ((addR S f i).map U)]) ?_ ?_ rfl rfl
       · intro i hi Q hQ;have c1:(((f+i:Nat):Int)≤(f:Int))=True:=by simp;omega
         have c2:IntKind.u8.wrap ((f+i:Nat):Int)=((f+i:Nat):Int):=wrap8 (by omega)
         have c3:IntKind.i64.wrap (((f+i:Nat):Int)+1)=((f+(i+1):Nat):Int):=by rw[wrapN (by omega) (by omega)];omega
         simp -implicitDefEqProofs only[mkE,go_sem,d3,c1,c2,c3];refine CO.intro (z2E _ (σ.length+1) 0 ((addR S f i).map U) (f+i) _ (gL1 _ _ _ _ _ _) (z4S (by rw[z2n];exact h3) (by omega)) (by omega)) ?_
         rw[sL1,z2o];simp -implicitDefEqProofs only[go_sem,c3];exact hQ
       · intro Q;have c1:(((f+(f+1-f):Nat):Int)≤(f:Int))=False:=by simp;omega
         simp -implicitDefEqProofs only[mkE,go_sem,d3,c1]
         exact hJ')
    · clear hto;generalize cTo s a1 b1=q at hm2 hJ' hJm hJl⊢;obtain⟨t,aT,bT⟩:=q;simp only at hm2 hJ'⊢;have d1:decide ((t:Int)<(f:Int))=decide (t<f):=by rw[Bool.eq_iff_iff];simp
      have d2:IntKind.i64.wrap (f:Int)=(f:Int):=wrap64 (by omega)
      have d3:IntKind.i64.wrap (t:Int)=(t:Int):=wrap64 (by omega)
      cases bT
      all_goals (
       simp -implicitDefEqProofs only[go_sem,gA hp,sA hp,d1,d2,Bool.true_or,Bool.false_or]at hJ'⊢
       refine L.count (t+1-f) (fun i=>mkE 68 [(0,.ptr p 0),(2,.ptr σ.length 0),(3,.ptr (σ.length+1) 0),(4,Bo none),(7,B8 t),(8,I ((f+i:Nat):Int))])
        (fun i=>σ.set p (pob s aT _)++[.box [U 0,U 0,U 0,U 0],.box ((addR S f i).map U)]) ?_ ?_ rfl rfl
       · intro i hi Q hQ;have c1:(((f+i:Nat):Int)≤(t:Int))=True:=by simp;omega
         have c2:IntKind.u8.wrap ((f+i:Nat):Int)=((f+i:Nat):Int):=wrap8 (by omega)
         have c3:IntKind.i64.wrap (((f+i:Nat):Int)+1)=((f+(i+1):Nat):Int):=by rw[wrapN (by omega) (by omega)];omega
         simp -implicitDefEqProofs only[mkE,go_sem,d3,c1,c2,c3];refine CO.intro (z2E _ (σ.length+1) 0 ((addR S f i).map U) (f+i) _ (gL1 _ _ _ _ _ _) (z4S (by rw[z2n];exact h3) (by omega)) (by omega)) ?_
         rw[sL1,z2o];simp -implicitDefEqProofs only[go_sem,c3];exact hQ
       · intro Q;have c1:(((f+(t+1-f):Nat):Int)≤(t:Int))=False:=by simp;omega
         simp -implicitDefEqProofs only[mkE,go_sem,d3,c1]
         exact hJ')
 · simp[mkE]
 · simp
end Go.Proofs.YteakobbdgehlgaaGreatDoor
namespace Go.Proofs.YteakobbdgehlgaaGreatDoor
open Go Go.Ab
set_option maxRecDepth 100000
namespace Rex
mutual
def rv:Rex→AV
 |.mk op a b c d ks=>.agg [I op,U a,U b,U c,U d,rvK ks]
def rvK:List Rex→AV
 |[]=>.nils
 |x::xs=>.sl 6 (rv x::rvL xs)
def rvL:List Rex→List AV
 |[]=>[]
 |x::xs=>rv x::rvL xs
end
theorem zar:∀l:List Rex,rvL l=l.map rv
 |[]=>rfl
 |x::xs=>by rw[rvL,zar xs];rfl
theorem z4T (x:Rex) (xs:List Rex):rvK (x::xs)=.sl 6 ((x::xs).map rv):=by rw[rvK,zar];rfl
theorem rv_eq (x:Rex):x.rv=.agg [I x.op,U x.a,U x.b,U x.c,U x.d,rvK x.ks]:=by
 cases x;rfl
theorem rvK_cases (ks:List Rex):rvK ks=.nils∨∃l,rvK ks=.sl 6 l:=by
 cases ks with
 |nil=>exact .inl rfl
 |cons x xs=>exact .inr ⟨_,z4T x xs⟩
mutual
theorem z0u (n:Nat):∀x:Rex,Bel n x.rv
 |.mk op a b c d ks=>by
  have hk:=zbc n ks;rw[rv];refine .agg _ fun i hi=>?_
  have:∀y∈[I op,U a,U b,U c,U d,rvK ks],Bel n y:=by
   intro y hy;simp only[List.mem_cons,List.not_mem_nil,or_false]at hy;rcases hy with rfl|rfl|rfl|rfl|rfl|rfl
   · exact .pl _
   · exact .pl _
   · exact .pl _
   · exact .pl _
   · exact .pl _
   · exact hk
  exact this _ (List.getElem_mem hi)
theorem zbc (n:Nat):∀ks:List Rex,Bel n (rvK ks)
 |[]=>.nils
 |x::xs=>by
  have h1:=z0u n x;have h2:=z8y n xs;rw[rvK];refine .sl 6 _ fun i hi=>?_
  have:∀y∈rv x::rvL xs,Bel n y:=by
   intro y hy;rcases List.mem_cons.1 hy with rfl|hy
   · exact h1
   · exact h2 y hy
  exact this _ (List.getElem_mem hi)
theorem z8y (n:Nat):∀ks:List Rex,∀y∈rvL ks,Bel n y
 |[]=>fun y hy=>absurd hy (by rw[rvL];exact List.not_mem_nil)
 |x::xs=>fun y hy=>by
  have h1:=z0u n x;have h2:=z8y n xs;rw[rvL]at hy;rcases List.mem_cons.1 hy with rfl|hy
  · exact h1
  · exact h2 y hy
end
end Rex
def ofSet (S:List Int):Rex:=.mk 1 (S.getD 0 0) (S.getD 1 0) (S.getD 2 0) (S.getD 3 0) []
abbrev z4:List Int:=[0,0,0,0]
abbrev PF:=Nat→Bool→Rex×Nat×Bool
def patom (s:ByteArray) (F:PF) (d:Nat):PF:=fun a b =>
 let q:=pbyte s a b
 if q.1==40 then
  let w:=if q.2.2||d==8 then(ofSet z4,q.2.1,q.2.2||d==8) else F q.2.1 q.2.2
  (w.1,nextA s w.2.1 w.2.2 41,!sees s w.2.1 w.2.2 41||w.2.2)
 else if q.1==91 then
  let k:=z1R s q.2.1 q.2.2
  (ofSet k.1,k.2.1,k.2.2)
 else if q.1==46 then(ofSet (turnS z4),q.2.1,q.2.2)
 else if q.1==92 then
  let k:=psign s q.2.1 q.2.2
  (ofSet (z24 z4 k.1),k.2.1,k.2.2)
 else(ofSet (z24 z4 q.1),q.2.1,q.2.2||stray.contains q.1)
def z2c (s:ByteArray) (F:PF):PF:=fun a b =>
 let x:=F a b
 if sees s x.2.1 x.2.2 42 then(.mk 4 0 0 0 0 [x.1],x.2.1+1,x.2.2)
 else if sees s x.2.1 x.2.2 43 then(.mk 5 0 0 0 0 [x.1],x.2.1+1,x.2.2)
 else if sees s x.2.1 x.2.2 63 then(.mk 6 0 0 0 0 [x.1],x.2.1+1,x.2.2)
 else x
def wGo (s:ByteArray) (a:Nat) (b:Bool):Bool:=!over s a b&&(!sees s a b 124&& !sees s a b 41)
def pwayL (s:ByteArray) (F:PF):Nat→List Rex→Nat→Bool→List Rex×Nat×Bool
 |0,K,a,b=>(K,a,b)
 |n+1,K,a,b=>if wGo s a b then pwayL s F n (K++[(F a b).1]) (F a b).2.1 (F a b).2.2 else(K,a,b)
def one (op:Int):List Rex→Rex
 |[x]=>x
 |K=>.mk op 0 0 0 0 K
def pway (s:ByteArray) (F:PF):PF:=fun a b =>
 (one 2 (pwayL s F (s.size+1) [] a b).1,(pwayL s F (s.size+1) [] a b).2)
def z2X (s:ByteArray) (F:PF):Nat→List Rex→Nat→Bool→List Rex×Nat×Bool
 |0,K,a,b=>(K,a,b)
 |n+1,K,a,b=>if sees s a b 124 then z2X s F n (K++[(F (a+1) b).1]) (F (a+1) b).2.1 (F (a+1) b).2.2 else(K,a,b)
def pways (s:ByteArray) (F:PF):PF:=fun a b =>
 (one 3 (z2X s F (s.size+1) [(F a b).1] (F a b).2.1 (F a b).2.2).1,(z2X s F (s.size+1) [(F a b).1] (F a b).2.1 (F a b).2.2).2)
def lvl (s:ByteArray) (W:PF) (d:Nat):PF:=pways s (pway s (z2c s (patom s W d)))
def PW (s:ByteArray):Nat→PF
 |0=>lvl s (fun a b=>(ofSet z4,a,b)) 8
 |k+1=>lvl s (PW s k) (7-k)
def Fwd (F:PF):Prop:=∀a b,a≤(F a b).2.1∧(b=true→(F a b).2.2=true)
theorem Fwd.hs {F:PF} (h:Fwd F) {s:ByteArray} {a:Nat} {b:Bool} (hs:b=true∨s.size≤40):(F a b).2.2=true∨s.size≤40:=by
 rcases hs with rfl|hs
 · exact .inl ((h a true).2 rfl)
 · exact .inr hs
theorem z2p (s:ByteArray) (a:Nat) (b:Bool) (c:Nat):a≤nextA s a b c:=by unfold nextA;split<;>omega
theorem z5t (s:ByteArray) (a c:Nat):sees s a true c=false:=by simp[sees,over]
theorem z8z {s:ByteArray} {a:Nat} {b:Bool} {c:Nat} (h:sees s a b c=true):a<s.size∧b=false:=by
 simp[sees,over]at h;exact⟨by omega,h.1.1⟩
theorem zc0 {s:ByteArray} {a:Nat} {b:Bool} (h:wGo s a b=true):a<s.size∧b=false:=by
 simp[wGo,over]at h;exact⟨by omega,h.1.1⟩
theorem z5u (s:ByteArray):∀(n:Nat) (S:List Int) (a:Nat) (b first:Bool),a≤(z1Q s n S a b first).2.1∧(b=true→(z1Q s n S a b first).2.2=true)
 |0,S,a,b,first=>⟨Nat.le_refl _,id⟩
 |n+1,S,a,b,first=>by
  rw[z1Q];split
  · have h:=z5u s n (addR S (z04 s a b).1 ((cTo s a b).1+1-(z04 s a b).1)) (cTo s a b).2.1 (cBad s a b) false;refine⟨Nat.le_trans (Nat.le_trans (z4s s a b) (zaq s a b)) h.1,fun hb=>h.2 ?_⟩
    subst hb;exact z3Z s a
  · exact⟨Nat.le_refl _,id⟩
theorem z40 (s:ByteArray) (a:Nat) (b:Bool):a≤(z1R s a b).2.1∧(b=true→(z1R s a b).2.2=true):=by
 have h:=z5u s (s.size+3) [0,0,0,0] (nextA s a b 94) b true;refine⟨Nat.le_trans (Nat.le_trans (z2p s a b 94) h.1) (z2p _ _ _ _),fun hb=>?_⟩
 show(_||_)=true;rw[h.2 hb,Bool.or_true]
theorem z1Z (s:ByteArray) {F:PF} (h:Fwd F) (d:Nat):Fwd (patom s F d):=by
 intro a b;have h1:=z3A s a b;have hb:b=true→pbyte s a b=(0,a,true):=fun e=>by subst e;exact z2V s a
 unfold patom;generalize pbyte s a b=q at h1 hb⊢;obtain⟨c,a',b'⟩:=q;simp only at h1 hb⊢;split
 · rename_i hc
   have hnb:b=true→False:=fun e=>by
    have:=congrArg Prod.fst (hb e);simp only at this;subst this;simp at hc
   refine⟨?_,fun e=>(hnb e).elim⟩
   split
   · exact Nat.le_trans h1 (z2p s a' _ 41)
   · exact Nat.le_trans h1 (Nat.le_trans (h a' b').1 (z2p _ _ _ 41))
 · have hb':b=true→b'=true:=fun e=>by
    have:=hb e;simp only[Prod.mk.injEq]at this;exact this.2.2
   split
   · exact⟨Nat.le_trans h1 (z40 s a' b').1,fun e=>(z40 s a' b').2 (hb' e)⟩
   · split
     · exact⟨h1,hb'⟩
     · split
       · refine⟨Nat.le_trans h1 (z2W s a' b'),fun e=>?_⟩
         rw[hb' e];exact z4t s a'
       · refine⟨h1,fun e=>?_⟩
         show(_||_)=true;rw[hb' e,Bool.true_or]
def Eats (s:ByteArray) (F:PF):Prop:=∀a b,over s a b=false→a+1≤(F a b).2.1
theorem z5v (s:ByteArray) {F:PF} (h:Fwd F) (d:Nat):Eats s (patom s F d):=by
 intro a b ho;have h1:pbyte s a b=(byteAt s a,a+1,b):=by simp[pbyte,ho]
 unfold patom;rw[h1];simp only;split
 · split
   · exact z2p s (a+1) _ 41
   · exact Nat.le_trans (h (a+1) b).1 (z2p _ _ _ 41)
 · split
   · exact(z40 s (a+1) b).1
   · split
     · exact Nat.le_refl _
     · split
       · exact z2W s (a+1) b
       · exact Nat.le_refl _
theorem z3l (s:ByteArray) (F:PF) (a:Nat) (b:Bool):(z2c s F a b).2.2=(F a b).2.2∧(F a b).2.1≤(z2c s F a b).2.1:=by
 unfold z2c;simp only;split
 · exact⟨rfl,Nat.le_succ _⟩
 · split
   · exact⟨rfl,Nat.le_succ _⟩
   · split
     · exact⟨rfl,Nat.le_succ _⟩
     · exact⟨rfl,Nat.le_refl _⟩
theorem z1S (s:ByteArray) {F:PF} (h:Fwd F):Fwd (z2c s F):=by
 intro a b;have h2:=z3l s F a b;rw[h2.1];exact⟨Nat.le_trans (h a b).1 h2.2,(h a b).2⟩
theorem z41 (s:ByteArray) {F:PF} (h:Eats s F):Eats s (z2c s F):=by
 intro a b ho;exact Nat.le_trans (h a b ho) (z3l s F a b).2
theorem z6W (s:ByteArray) {F:PF} (h:Fwd F):∀n K a b,a≤(pwayL s F n K a b).2.1∧(b=true→(pwayL s F n K a b).2.2=true)
 |0,K,a,b=>⟨Nat.le_refl _,id⟩
 |n+1,K,a,b=>by
  rw[pwayL];split
  · have h1:=z6W s h n (K++[(F a b).1]) (F a b).2.1 (F a b).2.2;exact⟨Nat.le_trans (h a b).1 h1.1,fun e=>h1.2 ((h a b).2 e)⟩
  · exact⟨Nat.le_refl _,id⟩
theorem z6k (s:ByteArray) {F:PF} (h:Fwd F):Fwd (pway s F):=fun a b=>z6W s h (s.size+1) [] a b
theorem z5w (s:ByteArray) {F:PF} (h:Fwd F):∀n K a b,a≤(z2X s F n K a b).2.1∧(b=true→(z2X s F n K a b).2.2=true)
 |0,K,a,b=>⟨Nat.le_refl _,id⟩
 |n+1,K,a,b=>by
  rw[z2X];split
  · have h1:=z5w s h n (K++[(F (a+1) b).1]) (F (a+1) b).2.1 (F (a+1) b).2.2;exact⟨Nat.le_trans (Nat.le_trans (Nat.le_succ a) (h (a+1) b).1) h1.1,fun e=>h1.2 ((h (a+1) b).2 e)⟩
  · exact⟨Nat.le_refl _,id⟩
theorem z9C (s:ByteArray) {F:PF} (h:Fwd F):Fwd (pways s F):=fun a b=>by
 have h1:=z5w s h (s.size+1) [(F a b).1] (F a b).2.1 (F a b).2.2;exact⟨Nat.le_trans (h a b).1 h1.1,fun e=>h1.2 ((h a b).2 e)⟩
theorem z8A (s:ByteArray) {W:PF} (h:Fwd W) (d:Nat):Fwd (lvl s W d):=z9C s (z6k s (z1S s (z1Z s h d)))
theorem z8B (s:ByteArray):∀k,Fwd (PW s k)
 |0=>z8A s (fun a b=>⟨Nat.le_refl _,id⟩) 8
 |k+1=>z8A s (z8B s k) _
end Go.Proofs.YteakobbdgehlgaaGreatDoor
