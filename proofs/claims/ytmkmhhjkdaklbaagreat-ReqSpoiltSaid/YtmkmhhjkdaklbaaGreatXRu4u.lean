/- What a reader takes off the front of its bytes: numbers, texts, bytes. No condition. -/
import Derived.Test.YtmkmhhjkdaklbaaGreatXRu3u
import Derived.Test.YtmkmhhjkdaklbaaGreatProg
import Derived.Test.YtmkmhhjkdaklbaaGreatAbStepu
set_option linter.unusedSimpArgs false
set_option linter.unusedVariables false
set_option linter.unusedSectionVars false
namespace Go.Proofs.YtmkmhhjkdaklbaaGreat
open Go Go.Ab Go.Cod
set_option maxRecDepth 100000
section
variable (σ:St) (p:Nat) (b:Byt) (q:Nat×Bool)
theorem z34 (most:Nat) (hm:most<18446744073709551616) (h:σ[p]?=some (rob b q)) (hq:Inb b q) (hb:b.length≤50000) :
  Ans Tryz.prog 59 [.ptr p 0,UN most] σ (UN (runR (numR most) 0 b q).1) (σ.set p (rob b (runR (numR most) 0 b q).2)):=by
 refine Ans.of_run t59 ?_;simp -implicitDefEqProofs only[c59,r59,go_sem];refine CO.intro (z1e σ p b q h hq) ?_;simp -implicitDefEqProofs only[go_sem];refine CO.intro (zaE σ (b.drop q.1) (by rw[List.length_drop];omega)) ?_
 obtain⟨a,bad⟩:=q;simp only at hq h⊢;have hq:a≤b.length:=hq
 cases hg:getN 0 (b.drop a) with
 |none =>
  have hR:numR most (b.drop a)=none:=by simp only[numR,hg,Option.bind_none]
  have ht:=z1f σ p b (a,bad) 0 false h (by simp only;omega)
  have ht:Ans Tryz.prog 113 [.ptr p 0,I 0,Bo false] σ (Bo false) (σ.set p (rob b (a,true))):=by
   have e:took (a,bad) 0 false=(a,true):=by cases bad<;>rfl
   rw[e]at ht;exact ht
  rw[z13 hg];simp -implicitDefEqProofs only[go_sem];refine CO.intro ht ?_;simp -implicitDefEqProofs only[go_sem]
  cases bad with
  |true=>rw[z0Q];exact Fini.ret rfl
  |false=>rw[z1j hR];exact Fini.ret rfl
 |some x =>
  obtain⟨n,t⟩:=x;rw[z1a hg];have hl:=zaz hg;rw[List.length_drop]at hl;have e1:decide ((n:Int)≤most)=decide (n≤most):=intle n most;have ht:=z1f σ p b (a,bad) ((b.drop a).length-t.length) (decide (n≤most)) h (by simp only[List.length_drop];omega)
  by_cases h1:n≤most
  · have x1:decide (n≤most)=true:=decide_eq_true h1;rw[x1]at ht;have hR:numR most (b.drop a)=some (n,t):=by simp only[numR,hg,Option.bind_some,h1,if_true]
    simp -implicitDefEqProofs only[go_sem,e1,x1];refine CO.intro ht ?_
    cases bad with
    |true =>
     have e:took (a,true) ((b.drop a).length-t.length) true=(a,true):=rfl;rw[e,z0Q];simp -implicitDefEqProofs only[go_sem];exact Fini.ret rfl
    |false =>
     have e:took (a,false) ((b.drop a).length-t.length) true=(b.length-t.length,false):=by
      simp only[took,Bool.false_or,Bool.not_true,Bool.false_eq_true,if_false,List.length_drop];congr 1;omega
     rw[e,z14 hR];simp -implicitDefEqProofs only[go_sem];exact Fini.ret rfl
  · have x1:decide (n≤most)=false:=decide_eq_false h1;rw[x1]at ht;have hR:numR most (b.drop a)=none:=by simp only[numR,hg,Option.bind_some,h1,if_false]
    have e:took (a,bad) ((b.drop a).length-t.length) false=(a,true):=by cases bad<;>rfl
    rw[e]at ht;simp -implicitDefEqProofs only[go_sem,e1,x1];refine CO.intro ht ?_;simp -implicitDefEqProofs only[go_sem]
    cases bad with
    |true=>rw[z0Q];exact Fini.ret rfl
    |false=>rw[z1j hR];exact Fini.ret rfl
theorem z3w (most:Nat) (hm:most<9223372036854775808) (h:σ[p]?=some (rob b q)) (hq:Inb b q) (hb:b.length≤50000) :
  Ans Tryz.prog 60 [.ptr p 0,I most] σ (Sx (runR (textR most) ⟨#[]⟩ b q).1) (σ.set p (rob b (runR (textR most) ⟨#[]⟩ b q).2)):=by
 refine Ans.of_run t60 ?_;simp -implicitDefEqProofs only[c60,r60,go_sem];refine CO.intro (z1e σ p b q h hq) ?_;simp -implicitDefEqProofs only[go_sem];refine CO.intro (z9K σ (b.drop q.1) most (by rw[List.length_drop];omega) hm) ?_
 obtain⟨a,bad⟩:=q;simp only at hq h⊢;have hq:a≤b.length:=hq
 cases hg:textR most (b.drop a) with
 |none =>
  have ht:=z1f σ p b (a,bad) 0 false h (by simp only;omega)
  have ht:Ans Tryz.prog 113 [.ptr p 0,I 0,Bo false] σ (Bo false) (σ.set p (rob b (a,true))):=by
   have e:took (a,bad) 0 false=(a,true):=by cases bad<;>rfl
   rw[e]at ht;exact ht
  rw[z0R hg];simp -implicitDefEqProofs only[go_sem];refine CO.intro ht ?_;simp -implicitDefEqProofs only[go_sem]
  cases bad with
  |true=>rw[z0Q];exact Fini.ret rfl
  |false=>rw[z1j hg];exact Fini.ret rfl
 |some x =>
  obtain⟨n,t⟩:=x;rw[z1t hg];have hl:=((z1B (most:=most) (by omega)).rest hg).1
  rw[List.length_drop]at hl;have ht:=z1f σ p b (a,bad) ((b.drop a).length-t.length) true h (by simp only[List.length_drop];omega)
  simp -implicitDefEqProofs only[go_sem];refine CO.intro ht ?_
  cases bad with
  |true =>
   have e:took (a,true) ((b.drop a).length-t.length) true=(a,true):=rfl;rw[e,z0Q];simp -implicitDefEqProofs only[go_sem];exact Fini.ret rfl
  |false =>
   have e:took (a,false) ((b.drop a).length-t.length) true=(b.length-t.length,false):=by
    simp only[took,Bool.false_or,Bool.not_true,Bool.false_eq_true,if_false,List.length_drop];congr 1;omega
   rw[e,z14 hg];simp -implicitDefEqProofs only[go_sem];exact Fini.ret rfl
theorem z1p (h:σ[p]?=some (rob b q)) (hq:Inb b q) (hb:b.length≤50000) :
  Ans Tryz.prog 83 [.ptr p 0] σ (bc (runR byteR 0 b q).1) (σ.set p (rob b (runR byteR 0 b q).2)):=by
 refine Ans.of_run t83 ?_;simp -implicitDefEqProofs only[c83,r83,go_sem];refine CO.intro (z1e σ p b q h hq) ?_;obtain⟨a,bad⟩:=q;simp only at hq h⊢;have hq:a≤b.length:=hq
 cases hg:b.drop a with
 |nil =>
  have hR:byteR (b.drop a)=none:=by rw[hg];rfl
  have d0:decide ((0:Int)<((0:Nat):Int))=false:=by simp
  have ht:=z1f σ p b (a,bad) 1 false h (by simp only;omega)
  have e:took (a,bad) 1 false=(a,true):=by cases bad<;>rfl
  rw[e]at ht;simp -implicitDefEqProofs only[go_sem,zgT,d0];refine CO.intro ht ?_;simp -implicitDefEqProofs only[go_sem]
  cases bad with
  |true=>rw[z0Q];exact Fini.ret rfl
  |false=>rw[z1j hR];exact Fini.ret rfl
 |cons c t =>
  have hR:byteR (b.drop a)=some (c,t):=by rw[hg];rfl
  have hl:b.length-a=t.length+1:=by rw[←List.length_drop,hg];rfl
  have d0:decide ((0:Int)<(((byv t).length+1:Nat):Int))=true:=by simp
  have ht:=z1f σ p b (a,bad) 1 true h (by simp only;omega)
  simp -implicitDefEqProofs only[go_sem,z7t,d0];refine CO.intro ht ?_
  cases bad with
  |true =>
   have e:took (a,true) 1 true=(a,true):=rfl;rw[e,z0Q];simp -implicitDefEqProofs only[go_sem];exact Fini.ret rfl
  |false =>
   have e:took (a,false) 1 true=(b.length-t.length,false):=by
    simp only[took,Bool.false_or,Bool.not_true,Bool.false_eq_true,if_false];congr 1;omega
   rw[e,z14 hR];simp -implicitDefEqProofs only[go_sem,bc,Int.toNat_zero];exact Fini.ret rfl
theorem z0a (ok:Bool) (h:σ[p]?=some (rob b q)) (hq:Inb b q) (hb:b.length≤50000) :
  Ans Tryz.prog 61 [.ptr p 0,Bo ok] σ (.tup []) (σ.set p (rob b (took q 0 ok))):=by
 have hq:q.1≤b.length:=hq;refine Ans.of_run t61 ?_;simp -implicitDefEqProofs only[c61,r61,go_sem];refine CO.intro (z1f σ p b q 0 ok h (by omega)) ?_
 simp -implicitDefEqProofs only[go_sem];exact Fini.normal rfl
theorem z3P (h:σ[p]?=some (rob b q)):Ans Tryz.prog 62 [.ptr p 0] σ (.tup [I (if q.2 then 0 else q.1:Nat),Bo !q.2]) σ:=by
 obtain⟨a,bad⟩:=q;refine Ans.of_run t62 ?_
 cases bad with
 |true =>
  simp -implicitDefEqProofs only[c62,r62,go_sem,h];exact Fini.ret rfl
 |false =>
  simp -implicitDefEqProofs only[c62,r62,go_sem,h];exact Fini.ret rfl
end
def mkM (x:UInt8×ByteArray×ByteArray):Mtr:=((x.1.toNat:Int),x.2.1,x.2.2)
def mtrR:Rd Mtr:=z0Y (seqR byteR (seqR (textR 12) (textR 40))) mkM
def listR:Rd (List Mtr):=onlyR (rowR 5 mtrR) listB
def putM (x:Mtr):Byt:=x.1.toNat.toUInt8::(txtB x.2.1++txtB x.2.2)
def putL (M:List Mtr):Byt:=z2K putM M
theorem zaI:EndsR mtrR:=z1s (z1X ends_byte (z1X (z0T 12) (z0T 40))) _
theorem ends_list:EndsR listR:=z4C (zeX zaI 5) _
theorem zf1:Fits mtrR putM (fun x=>0≤x.1∧x.1<256∧x.2.1.size≤12∧x.2.2.size≤40):=by
 refine dress_fits (z16 byte_fits (z16 (z1B (by decide)) (z1B (by decide)))) (g:=fun x=>(x.1.toNat.toUInt8,x.2.1,x.2.2)) ?_ ?_
 · rintro⟨c,n,v⟩ ⟨_,h1,h2⟩;have:=c.toNat_lt;refine⟨⟨by simp only[mkM];omega,by simp only[mkM];omega,h1,h2⟩,?_⟩
   simp only[putM,mkM,Int.toNat_natCast,toUInt8_toNat];rfl
 · rintro⟨k,n,v⟩ ⟨h0,h1,h2,h3⟩;refine⟨⟨trivial,h2,h3⟩,?_⟩;simp only at h0 h1;have:(k.toNat.toUInt8.toNat:Int)=k:=by rw[toNat_toUInt8 (by omega)];omega
   simp only[mkM,this]
theorem z9P {s:ByteArray} (h:(z2G s).2=true):s.size≤40:=by
 unfold z2G at h;rcases Nat.lt_or_ge 40 s.size with h40|h40
 · exfalso
   have:=(zao s 8 0 true).2 rfl;simp[h40,this]at h
 · exact h40
theorem zaJ {k:Int} {nm v:ByteArray} (h:isB k nm v=true):(1≤k∧k≤4)∧nm.size≤12∧v.size≤40:=by
 unfold isB nameB at h;simp only[Bool.and_eq_true,decide_eq_true_eq]at h;obtain⟨⟨⟨⟨_,hn⟩,_⟩,_⟩,h2⟩:=h;split at h2
 · rename_i hl;unfold likeB at hl;simp only[Bool.or_eq_true,beq_iff_eq]at hl;exact⟨by omega,hn,z9P h2⟩
 · simp only[Bool.and_eq_true,Bool.or_eq_true,beq_iff_eq,decide_eq_true_eq]at h2;exact⟨by omega,hn,by omega⟩
theorem listB_fits:Fits listR putL (fun M=>listB M=true):=by
 refine(z3k (z7s (by decide) zf1) listB).weaken fun M=>⟨fun h=>h.2,fun h=>⟨?_,h⟩⟩
 unfold listB at h;simp only[Bool.and_eq_true,decide_eq_true_eq]at h;refine⟨h.1,fun x hx=>?_⟩
 obtain⟨i,hi,rfl⟩:=List.getElem_of_mem hx;have h2:=List.all_eq_true.1 h.2 i (List.mem_range.2 hi);unfold okL isM at h2;simp only[Bool.and_eq_true]at h2;have e:M.getD i noM3=M[i]:=by rw[List.getD_eq_getElem?_getD,List.getElem?_eq_getElem hi];rfl
 rw[e]at h2;have:=zaJ h2.1;omega
def mtrS (b:Byt) (q:Nat×Bool):Mtr×(Nat×Bool):=z25 (seqSt (runR byteR 0 b) (seqSt (runR (textR 12) ⟨#[]⟩ b) (runR (textR 40) ⟨#[]⟩ b))) mkM q
theorem z6e (b:Byt):StepsR b mtrR (mtrS b):=z15 (z0G (z0q b byteR 0) (z0G (z0q b _ _) (z0q b _ _) (z0T 12)) ends_byte) _
def listS (b:Byt):Nat×Bool→List Mtr×(Nat×Bool):=z0M (rowSt 5 b (mtrS b)) listB
theorem zbC (b:Byt):StepsR b listR (listS b):=z18 (z68 (z6e b) zaI 5) _
def readV {α:Type} (r:Option (α×Byt)) (b:Byt) (enc:α→AV) (none_:AV):AV:=match r with
 |some p=>.tup [enc p.1,I (b.length-p.2.length:Nat),Bo true]
 |none=>.tup [none_,I 0,Bo false]
theorem z35 {most:Nat} (b:Byt) (q:Nat×Bool):(runR (numR most) 0 b q).1≤most:=by
 unfold runR;split
 · exact Nat.zero_le _
 · split
   · exact Nat.zero_le _
   · rename_i p h;simp only[numR]at h
     cases hg:getN 0 (b.drop q.1) with
     |none=>simp[hg]at h
     |some x =>
      simp only[hg,Option.bind_some]at h;split at h
      · simp only[Option.some.injEq]at h;rw[←h];assumption
      · cases h
theorem z8F (M:List Mtr) (x:Mtr):mvs3 M++[mv3 x]=mvs3 (M++[x]):=by simp[mvs3]
theorem z0b {n:Nat} {x:AV} {i:Int} {c:Bool} (h:Bel n x):Bel n (.tup [x,I i,Bo c]):=.tup _ fun j hj=>by
 have:∀y∈([x,I i,Bo c]:List AV),Bel n y:=by
  intro y hy;simp only[List.mem_cons,List.not_mem_nil,or_false]at hy;rcases hy with rfl|rfl|rfl
  · exact h
  · exact .pl _
  · exact .pl _
 exact this _ (List.getElem_mem hj)
theorem zbD (σ:St) (b:Byt) (hb:b.length≤50000):Ans Tryz.prog 56 [.sl 1 (byv b)] σ (readV (listR b) b (fun M=>.sl 3 (mvs3 M)) .nils) σ:=by
 have hS:=(zbC b).top;refine Ans.of_run' t56 (fun hbel _=>?_)
 simp -implicitDefEqProofs only[c56,r56,go_sem];refine CO.intro (z6a σ b) ?_;simp -implicitDefEqProofs only[go_sem,List.append_assoc,List.length_append];generalize hq1:runR (numR 5) 0 b (0,false)=q1;have hin0:Inb b (0,false):=Nat.zero_le _;have hn:=z34 (σ++[rob b (0,false),.row 3 []]) σ.length b (0,false) 5 (by decide) (g0 _ _ _) hin0 hb
 rw[hq1,s0]at hn;refine CO.intro hn ?_;have hn5:q1.1≤5:=by rw[←hq1];exact z35 b _
 have hin1:Inb b q1.2:=by rw[←hq1];exact z0l _ _ _ _ hin0
 simp -implicitDefEqProofs only[go_sem];refine Go.Ab.L.count q1.1 (fun i=>mkE 40 [(5,.ptr σ.length 0),(6,.osl (σ.length+1) i),(12,UN q1.1),(13,UN i)]) (fun i=>σ++[rob b (itSt (mtrS b) q1.2 i).2,.row 3 (mvs3 (itSt (mtrS b) q1.2 i).1)]) ?_ ?_ rfl rfl
 · intro i hi J hJ;have hitI:=z2x (z6e b).inb q1.2 hin1 i;have hlen:=z3u (mtrS b) q1.2 i;simp only[itSt]at hJ;generalize itSt (mtrS b) q1.2 i=c at hJ hitI hlen⊢;obtain⟨l,q⟩:=c;simp only at hJ hitI hlen⊢;have d0:decide ((i:Int)<q1.1)=true:=dec_lt hi;have w0:=z1T (n:=i+1) (by omega)
   have e0:((i:Int)+1)=((i+1:Nat):Int):=rfl;unfold mtrS z25 seqSt at hJ;simp only at hJ;simp -implicitDefEqProofs only[mkE,go_sem,d0];have h1:=z1p (σ++[rob b q,.row 3 (mvs3 l)]) σ.length b q (g0 _ _ _) hitI hb;have hi2:=z0l byteR 0 b q hitI;generalize runR byteR 0 b q=r1 at h1 hi2 hJ;rw[s0]at h1;refine CO.intro h1 ?_;have h2:=z3w (σ++[rob b r1.2,.row 3 (mvs3 l)]) σ.length b r1.2 12 (by decide) (g0 _ _ _) hi2 hb
   have hi3:=z0l (textR 12) ⟨#[]⟩ b r1.2 hi2;generalize runR (textR 12) ⟨#[]⟩ b r1.2=r2 at h2 hi3 hJ;rw[s0]at h2;simp -implicitDefEqProofs only[go_sem,bc];refine CO.intro h2 ?_;have h3:=z3w (σ++[rob b r2.2,.row 3 (mvs3 l)]) σ.length b r2.2 40 (by decide) (g0 _ _ _) hi3 hb
   generalize runR (textR 40) ⟨#[]⟩ b r2.2=r3 at h3 hJ;rw[s0]at h3;simp -implicitDefEqProofs only[go_sem];refine CO.intro h3 ?_;have hl:(mvs3 l).length=i:=by rw[z0n,hlen]
   have hw:IntKind.i64.wrap (r1.1.toNat:Int)=(r1.1.toNat:Int):=wrapI (by have:=r1.1.toNat_lt;omega)
   have hle:i+1≤4294967296:=by omega
   have hsn:=z8F l (mkM (r1.1,r2.1,r3.1));simp -implicitDefEqProofs only[go_sem,hw,g1,s1,hl,hle,List.length_singleton,e0,w0];rw[←hsn]at hJ;exact hJ
 · intro J;have hitI:=z2x (z6e b).inb q1.2 hin1 q1.1;have hlen:=z3u (mtrS b) q1.2 q1.1
   have hL:listS b (0,false)=((itSt (mtrS b) q1.2 q1.1).1,took (itSt (mtrS b) q1.2 q1.1).2 0 (listB (itSt (mtrS b) q1.2 q1.1).1)):=by
    unfold listS z0M rowSt;rw[hq1]
   rw[hL]at hS;generalize itSt (mtrS b) q1.2 q1.1=c at hS hitI hlen⊢;obtain⟨l,q⟩:=c;simp only at hS hitI hlen⊢;have hl:(mvs3 l).length=q1.1:=by rw[z0n,hlen]
   have d0:decide ((q1.1:Int)<q1.1)=false:=by simp
   simp -implicitDefEqProofs only[mkE,go_sem,d0,g1,s1,hl];refine CO.intro (z1y _ l) ?_;have h2:=z0a (σ++[rob b q,.dead]) σ.length b q (listB l) (g0 _ _ _) hitI hb;rw[s0]at h2;simp -implicitDefEqProofs only[go_sem];refine CO.intro h2 ?_;have h3:=z3P (σ++[rob b (took q 0 (listB l)),.dead]) σ.length b (took q 0 (listB l)) (g0 _ _ _);simp -implicitDefEqProofs only[go_sem];refine CO.intro h3 ?_;have hbm:Bel σ.length (.sl 3 (mvs3 l)):=z09 _ _
   cases hr:listR b with
   |none =>
    have hb2:=hS.2 hr;rw[hb2];simp -implicitDefEqProofs only[go_sem];exact Fini.trim2 (σ':=σ) rfl rfl (Nat.le_refl _) (by unfold readV;exact z0b .nils) hbel
   |some p =>
    obtain⟨M,t⟩:=p;have hb2:=hS.1 M t hr;simp only[Prod.mk.injEq]at hb2;obtain⟨rfl,hb2⟩:=hb2;rw[hb2];simp -implicitDefEqProofs only[go_sem];refine Fini.trim2 (σ':=σ) rfl rfl (Nat.le_refl _) ?_ hbel;unfold readV;exact z0b hbm
theorem z8G (σ:St) (b:Byt) (hb:b.length≤50000):Ans Tryz.prog 56 [.sl 1 (byv b)] σ (readV (listR b) b (fun M=>.sl 3 (mvs3 M)) (.sl 3 [])) σ:=by
 refine(zbD σ b hb).subR ?_;unfold readV
 cases listR b with
 |none=>exact .tup (.cons (.nils 3) (.refl _))
 |some p=>exact .refl _
theorem z3x (n:Nat):((n:Int).tmod 128)=((n%128:Nat):Int):=rfl
def orD (a d s:Nat):Int:=IntKind.u64.wrap ((BitVec.ofInt 64 (a:Int) ||| BitVec.ofInt 64 (IntKind.u64.wrap ((d:Int)*2^min s 64))).toNat:Int)
theorem zi9 (a d s:Nat) (ha:a<2^s) (hs:s<64) (hd:d*2^s<18446744073709551616):orD a d s=((a+2^s*d:Nat):Int):=zcY a d s ha hs hd
theorem zd8 (i c:Nat) (h:i<9∨i=9∧c%128≤1):c%128*2^(7*i)<18446744073709551616:=by
 rcases h with h|⟨rfl,h⟩
 · have h4:c%128<2^7:=Nat.mod_lt _ (by decide)
   calc c%128*2^(7*i)<2^7*2^(7*i):=Nat.mul_lt_mul_of_pos_right h4 (Nat.two_pow_pos _)
    _=2^(7+7*i):=by rw[Nat.pow_add]
    _≤2^63:=Nat.pow_le_pow_right (by decide) (by omega)
    _<18446744073709551616:=by decide
 · calc c%128*2^(7*9)≤1*2^63:=Nat.mul_le_mul_right _ h
   _<18446744073709551616:=by decide
section
variable (σ:St)
theorem z1I (b:Byt) (hb:b.length≤100000):Ans Tryz.prog 65 [.sl 1 (byv b)] σ (getV b) σ:=by
 refine Ans.of_run t65 ?_;simp -implicitDefEqProofs only[c65,r65,go_sem]
 refine Go.Ab.L.intro (α:={ p:Nat×Nat // p.1≤b.length∧((p.1≤9∧p.2<2^(7*p.1)∧getN 0 b=(getN p.1 (b.drop p.1)).map fun q=>(p.2+2^(7*p.1)*q.1,q.2))∨(p.1=10∧getN 0 b=none)) }) (fun p=>b.length-p.1.1)
  (fun p=>mkE 51 [(0,.sl 1 (byv b)),(5,UN p.1.2),(6,I p.1.1)]) (fun _=>σ) ?_ ⟨(0,0),Nat.zero_le _,.inl ⟨Nat.zero_le _,by simp,by cases h:getN 0 b<;>simp[h]⟩⟩ rfl rfl
 rintro⟨⟨i,a⟩,hi,hinv⟩ J hJ;simp only at hi hinv hJ;rcases hinv with⟨h9,ha,hg⟩|⟨h10,hg⟩
 · have h10:decide ((i:Int)<10)=true:=by simp;omega
   by_cases hlt:i<b.length
   · have hx:=z4U b i hlt;have hdr:b.drop i=b[i]::b.drop (i+1):=List.drop_eq_getElem_cons hlt;rw[hdr]at hg;have hcl:=(b[i]).toNat_lt;generalize hc:b[i]=c at hx hg hcl;have hbeq9:((i:Int)==9)=decide (i=9):=by rw[Bool.eq_iff_iff];simp;omega
     have hgt1:decide ((1:Int)<((c.toNat%128:Nat):Int))=decide (1<c.toNat%128):=by rw[Bool.eq_iff_iff];simp only[decide_eq_true_eq];omega
     have hgt0:decide ((0:Int)<i)=decide (0<i):=by rw[Bool.eq_iff_iff];simp
     have hbeq0:(((c.toNat%128:Nat):Int)==0)=decide (c.toNat%128=0):=by rw[Bool.eq_iff_iff];simp only[decide_eq_true_eq,beq_iff_eq];omega
     have h128:decide ((128:Int)≤c.toNat)=decide (128≤c.toNat):=by rw[Bool.eq_iff_iff];simp only[decide_eq_true_eq];omega
     have hwd:=z1T (n:=c.toNat%128) (by omega)
     have hin:=wrap_succ (i:=i) (by omega)
     have h7:=z8C (i:=i) (by omega)
     have h7u:=z1T (n:=7*i) (by omega)
     simp only[getN]at hg;by_cases hbad:i=9∧1<c.toNat%128
     · rw[if_pos (.inl ⟨hbad.1,by omega⟩)]at hg
       rw[z13 hg];simp -implicitDefEqProofs only[mkE,go_sem,z03,z0f hlt,dec_lt hlt,h10,hx,bc,z3x,hwd,hbeq9,hgt1,decide_eq_true hbad.1,decide_eq_true hbad.2];exact Fini.ret rfl
     · have go:∀(P:Prop),(decide (i=9)=true→decide (1<c.toNat%128)=false→P)→(decide (i=9)=false→P)→P:=fun P p q=>by
        by_cases h3:i=9
        · exact p (decide_eq_true h3) (decide_eq_false (by omega))
        · exact q (decide_eq_false h3)
       have hor:=zi9 a (c.toNat%128) (7*i) ha (by omega) (zd8 i c.toNat (by omega))
       by_cases hend:c.toNat<128
       · have e128:decide (128≤c.toNat)=false:=decide_eq_false (by omega)
         have hmod:c.toNat%128=c.toNat:=Nat.mod_eq_of_lt hend;by_cases hz:c.toNat%128=0∧0<i
         · rw[if_pos (.inr ⟨hz.2,by omega⟩)]at hg
           rw[z13 hg];refine go _ (fun x1 x2=>?_) fun x1=>?_
           · simp -implicitDefEqProofs only[mkE,go_sem,z03,z0f hlt,dec_lt hlt,h10,hx,bc,z3x,hwd,hbeq9,hgt1,hgt0,hbeq0,x1,x2,h7,h7u,h128,e128,decide_eq_true hz.1,decide_eq_true hz.2];exact Fini.ret rfl
           · simp -implicitDefEqProofs only[mkE,go_sem,z03,z0f hlt,dec_lt hlt,h10,hx,bc,z3x,hwd,hbeq9,hgt1,hgt0,hbeq0,x1,h7,h7u,h128,e128,decide_eq_true hz.1,decide_eq_true hz.2];exact Fini.ret rfl
         · rw[if_neg (by omega),if_pos hend]at hg
           simp only[Option.map_some]at hg;rw[z1a hg]
           have hfin:∀v:Int,v=((a+2^(7*i)*(c.toNat%128):Nat):Int)→(.tup [.pl (.int .u64 v),I ((i+1:Nat):Int),Bo true]:AV)=.tup [UN (a+2^(7*i)*c.toNat),I (b.length-(b.drop (i+1)).length:Nat),Bo true]:=by
            rintro _ rfl;rw[hmod,List.length_drop,show b.length-(b.length-(i+1))=i+1 by omega]
           have go2:∀(P:Prop),(decide (c.toNat%128=0)=true→decide (0<i)=false→P)→(decide (c.toNat%128=0)=false→P)→P:=fun P p q=>by
            by_cases h3:c.toNat%128=0
            · exact p (decide_eq_true h3) (decide_eq_false (by omega))
            · exact q (decide_eq_false h3)
           refine go _ (fun x1 x2=>go2 _ (fun y1 y2=>?_) fun y1=>?_) fun x1=>go2 _ (fun y1 y2=>?_) fun y1=>?_
           · simp -implicitDefEqProofs only[mkE,go_sem,z03,z0f hlt,dec_lt hlt,h10,hx,bc,z3x,hwd,hbeq9,hgt1,hgt0,hbeq0,x1,x2,y1,y2,h7,h7u,h128,e128,hin];exact Fini.ret' rfl (hfin _ hor)
           · simp -implicitDefEqProofs only[mkE,go_sem,z03,z0f hlt,dec_lt hlt,h10,hx,bc,z3x,hwd,hbeq9,hgt1,hgt0,hbeq0,x1,x2,y1,h7,h7u,h128,e128,hin];exact Fini.ret' rfl (hfin _ hor)
           · simp -implicitDefEqProofs only[mkE,go_sem,z03,z0f hlt,dec_lt hlt,h10,hx,bc,z3x,hwd,hbeq9,hgt1,hgt0,hbeq0,x1,y1,y2,h7,h7u,h128,e128,hin];exact Fini.ret' rfl (hfin _ hor)
           · simp -implicitDefEqProofs only[mkE,go_sem,z03,z0f hlt,dec_lt hlt,h10,hx,bc,z3x,hwd,hbeq9,hgt1,hgt0,hbeq0,x1,y1,h7,h7u,h128,e128,hin];exact Fini.ret' rfl (hfin _ hor)
       · have e128:decide (128≤c.toNat)=true:=decide_eq_true (by omega)
         have hgo:=hJ ⟨(i+1,a+2^(7*i)*(c.toNat%128)),by simp only;omega,(by
          simp only;rcases Nat.lt_or_eq_of_le h9 with hi9|hi9
          · refine .inl ⟨by omega,?_,?_⟩
            · have e1:2^(7*(i+1))=2^(7*i)*128:=by rw[Nat.mul_add,Nat.pow_add]
              have:c.toNat%128<128:=Nat.mod_lt _ (by decide)
              have:2^(7*i)*(c.toNat%128+1)≤2^(7*i)*128:=Nat.mul_le_mul_left _ this;rw[Nat.mul_add,Nat.mul_one]at this;omega
            · rw[if_neg (by omega),if_neg hend]at hg
              rw[hg];have hm:c.toNat%128=c.toNat-128:=by omega
              cases getN (i+1) (b.drop (i+1)) with
              |none=>rfl
              |some q =>
               simp only[Option.map_some,Option.some.injEq,Prod.mk.injEq,and_true];rw[hm,show 7*(i+1)=7*i+7 by omega,Nat.pow_add,Nat.mul_add,Nat.add_assoc,←Nat.mul_assoc]
          · refine .inr ⟨by omega,?_⟩
            rw[if_pos (.inl ⟨hi9,by omega⟩)]at hg
            exact hg)⟩ (by simp only;omega)
         have key:∀v:Int,v=((a+2^(7*i)*(c.toNat%128):Nat):Int)→J (mkE 51 [(0,.sl 1 (byv b)),(5,.pl (.int .u64 v)),(6,I ((i+1:Nat):Int))]) σ:=by
          rintro _ rfl;exact hgo
         refine go _ (fun x1 x2=>?_) fun x1=>?_
         · simp -implicitDefEqProofs only[mkE,go_sem,z03,z0f hlt,dec_lt hlt,h10,hx,bc,z3x,hwd,hbeq9,hgt1,x1,x2,h7,h7u,h128,e128,hin];exact key _ hor
         · simp -implicitDefEqProofs only[mkE,go_sem,z03,z0f hlt,dec_lt hlt,h10,hx,bc,z3x,hwd,hbeq9,hgt1,x1,h7,h7u,h128,e128,hin];exact key _ hor
   · have hn:b.drop i=[]:=List.drop_eq_nil_of_le (by omega)
     rw[hn]at hg;simp only[getN,Option.map_none]at hg;rw[z13 hg];simp -implicitDefEqProofs only[mkE,go_sem,z03,z30 hlt,z2D hlt];exact Fini.ret rfl
 · subst h10;have h10:decide (((10:Nat):Int)<10)=false:=by simp
   rw[z13 hg];by_cases hlt:10<b.length
   · simp -implicitDefEqProofs only[mkE,go_sem,z03,dec_lt hlt,h10];exact Fini.ret rfl
   · simp -implicitDefEqProofs only[mkE,go_sem,z03,z2D hlt];exact Fini.ret rfl
theorem z1m (b:Byt) (most:Nat) (hb:b.length≤100000) (hm:most<9223372036854775808):Ans Tryz.prog 66 [.sl 1 (byv b),I most] σ (textV most b) σ:=by
 refine Ans.of_run t66 ?_;simp -implicitDefEqProofs only[c66,r66,go_sem];refine CO.intro (z1I σ b hb) ?_;have hneg:decide ((most:Int)<0)=false:=by simp
 have hwm:=z1T (n:=most) (by omega)
 cases hg:getN 0 b with
 |none =>
  rw[z13 hg,z0R (z6Y hg)];simp -implicitDefEqProofs only[go_sem];exact Fini.ret rfl
 |some p =>
  obtain⟨n,t⟩:=p;obtain⟨hbt,hn,_⟩:=z5o b 0 n t (by omega) hg
  have hn:n<18446744073709551616:=hn;have hlen:b.length=(putN n).length+t.length:=by rw[hbt,List.length_append]
  have hk:b.length-t.length=(putN n).length:=by omega
  have hsub:=subN (a:=b.length) (b:=(putN n).length) (by omega) hb
  have hsub2:b.length-(putN n).length=t.length:=by omega
  have hwt:=z1T (n:=t.length) (by omega)
  have e1:decide ((most:Int)<n)=decide (most<n):=decNN most n;have e2:decide ((t.length:Int)<n)=decide (t.length<n):=decNN _ n;rw[z1a hg,hk];have hR:=zaF (most:=most) hg;by_cases h2:n≤t.length
  · have x2:decide (t.length<n)=false:=decide_eq_false (by omega)
    by_cases h1:n≤most
    · have x1:decide (most<n)=false:=decide_eq_false (by omega)
      rw[if_pos ⟨h1,h2⟩]at hR;have hwn:=wrapI (a:=n) (by omega)
      have hadd:=addN (a:=(putN n).length) (b:=n) (by omega)
      have hlo:((putN n).length:Int)≤((putN n).length+n:Nat):=by omega
      have hhi:(((putN n).length+n:Nat):Int)≤(b.length:Nat):=by omega
      have hcut:(b.take ((putN n).length+n)).drop (putN n).length=t.take n:=by
       rw[hbt,List.take_append,List.take_of_length_le (by omega),Nat.add_sub_cancel_left,List.drop_left]
      rw[z1t hR];simp -implicitDefEqProofs only[go_sem,hneg,hwm,e1,x1,hsub,hsub2,hwt,e2,x2,hwn,hadd,z03,hlo,hhi,AV.isStr,z0O,z0P,hcut,z1z,bc,z3N,z3V];refine Fini.ret' rfl ?_;rw[List.length_drop];have:b.length-(t.length-n)=(putN n).length+n:=by omega
      rw[this];rfl
    · have x1:decide (most<n)=true:=decide_eq_true (by omega)
      rw[if_neg (by omega)]at hR
      rw[z0R hR];simp -implicitDefEqProofs only[go_sem,hneg,hwm,e1,x1,z03,hsub,hsub2,hwt,e2,x2];exact Fini.ret rfl
  · have x2:decide (t.length<n)=true:=decide_eq_true (by omega)
    rw[if_neg (by omega)]at hR
    rw[z0R hR];simp -implicitDefEqProofs only[go_sem,hneg,hwm,z03,hsub,hsub2,hwt,e2,x2];exact Fini.ret rfl
end
theorem z1Y (s:ByteArray) (h:s.size≤1000000):(txtB s).length≤10+s.size:=by
 have h10:=z0I (n:=s.size) (by omega)
 rw[txtB,List.length_append,z3j];omega
theorem z2T {M:List Mtr} (h:listB M=true):M.length≤5∧∀x∈M,(1≤x.1∧x.1≤4)∧x.2.1.size≤12∧x.2.2.size≤40:=by
 unfold listB at h;simp only[Bool.and_eq_true,decide_eq_true_eq]at h;refine⟨h.1,fun x hx=>?_⟩
 obtain⟨i,hi,rfl⟩:=List.getElem_of_mem hx;have h2:=List.all_eq_true.1 h.2 i (List.mem_range.2 hi);unfold okL isM at h2;simp only[Bool.and_eq_true]at h2;have e:M.getD i noM3=M[i]:=by rw[List.getD_eq_getElem?_getD,List.getElem?_eq_getElem hi];rfl
 rw[e]at h2;exact zaJ h2.1
def preL (M:List Mtr) (i:Nat):Byt:=putN M.length++z1d putM (M.take i)
theorem z8H (M:List Mtr) (i:Nat) (h:i<M.length):preL M (i+1)=preL M i++putM M[i]:=by
 unfold preL z1d;rw[List.take_succ_eq_append_getElem h,List.flatMap_append,List.append_assoc];simp
theorem z7B (M:List Mtr):preL M M.length=putL M:=by unfold preL putL z2K;rw[List.take_length]
theorem z7C {M:List Mtr} (h:listB M=true):∀i,i≤M.length→(preL M i).length≤10+100*i
 |0,_=>by
  have:=(z2T h).1;unfold preL z1d;simp only[List.take_zero,List.flatMap_nil,List.append_nil];have:=z0I (n:=M.length) (by omega)
  omega
 |i+1,hi=>by
  have ih:=z7C h i (by omega)
  have hx:=(z2T h).2 M[i] (List.getElem_mem (by omega))
  have h1:=z1Y (M[i]).2.1 (by omega)
  have h2:=z1Y (M[i]).2.2 (by omega)
  rw[z8H M i (by omega),List.length_append]
  unfold putM;simp only[List.length_cons,List.length_append];omega
def z0Z (M:List Mtr):Byt:=if listB M then putL M else[]
theorem zgZ {k:Int} (h:1≤k∧k≤4):IntKind.u8.wrap k=((k.toNat.toUInt8.toNat:Nat):Int):=by
 obtain⟨n,rfl⟩:=Int.eq_ofNat_of_zero_le (show 0≤k by omega)
 have:n<256:=by omega
 rw[zaC,Nat.mod_eq_of_lt this,Int.toNat_natCast,toNat_toUInt8 this]
section
variable (σ:St)
theorem z4V (M:List Mtr):Ans Tryz.prog 69 [.sl 3 (mvs3 M)] σ (.sl 1 (byv (z0Z M))) σ:=by
 unfold z0Z
 cases hL:listB M with
 |false =>
  have:Ans Tryz.prog 69 [.sl 3 (mvs3 M)] σ .nils σ:=by
   refine Ans.of_run t69 ?_;simp -implicitDefEqProofs only[c69,r69,go_sem];refine CO.intro (z1y σ M) ?_;rw[hL];simp -implicitDefEqProofs only[go_sem];exact Fini.ret rfl
  exact this.subR (.nils 1)
 |true =>
  obtain⟨h5,hM⟩:=z2T hL;have hpl:=z7C hL;have hw:=z1T (n:=M.length) (by omega)
  have e00:preL M 0=putN M.length:=by simp[preL,z1d]
  refine Ans.of_run' t69 (fun hbel _=>?_)
  simp -implicitDefEqProofs only[c69,r69,go_sem];refine CO.intro (z1y σ M) ?_;rw[hL];simp -implicitDefEqProofs only[go_sem,z0n,hw];refine CO.intro (z7u σ M.length (by omega)) ?_
  simp -implicitDefEqProofs only[go_sem,z0n];refine Go.Ab.L.count M.length (fun i=>mkE 37 [(3,.osl σ.length (preL M i).length),(13,.sl 3 (mvs3 M)),(14,I M.length),(15,I i)]) (fun i=>σ++[.row 1 (byv (preL M i))]) ?_ ?_ (by rw[e00];rfl) (by rw[e00])
  · intro i hi J hJ;have hx:=zaw M i hi;have hxm:=hM M[i] (List.getElem_mem hi);have hp:=hpl (i+1) (by omega)
    rw[z8H M i hi]at hJ hp;generalize M[i]=x at hx hxm hJ hp;obtain⟨k,nm,v⟩:=x;simp only at hxm;generalize preL M i=pre at hJ hp⊢;have hkb:=zgZ hxm.1;have hin:=wrap_succ (i:=i) (by omega)
    have h1:=z1Y nm (by omega)
    have h2:=z1Y v (by omega)
    unfold putM at hJ hp;simp only[List.length_append,List.length_cons]at hp;have l1:pre.length+1≤4294967296:=by omega
    have l2:pre.length+1+(txtB nm).length≤4294967296:=by omega
    have l3:pre.length+1+(txtB nm).length+(txtB v).length≤4294967296:=by omega
    simp -implicitDefEqProofs only[mkE,go_sem,z0n,z0f hi,dec_lt hi,hx,mv3,hkb,g0,s0,z03,l1,List.length_singleton];refine CO.intro (z2e _ nm (by omega)) ?_
    simp -implicitDefEqProofs only[go_sem,g0,s0,z03,z1z,bc,l1,l2,List.length_append,List.length_singleton];refine CO.intro (z2e _ v (by omega)) ?_
    simp -implicitDefEqProofs only[go_sem,g0,s0,z03,z1z,bc,l1,l2,l3,List.length_append,List.length_singleton,hin];have e:pre++k.toNat.toUInt8::(txtB nm++txtB v)=pre++[k.toNat.toUInt8]++txtB nm++txtB v:=by simp
    simp only at hJ;rw[e]at hJ;simp only[z1H,List.length_append,List.length_singleton]at hJ;exact hJ
  · intro J;have d0:decide ((M.length:Int)<M.length)=false:=by simp
    simp -implicitDefEqProofs only[mkE,go_sem,d0,g0,s0,z03];exact Fini.trim2 (σ':=σ) (by rw[z7B];rfl) rfl (Nat.le_refl _) (by first|exact z2d _ _|(rw[z7B];exact z2d _ _)) hbel
end
def okV (u:Nat):Bool:=decide (bitsF u=u)
def valR:Rd Nat:=onlyR wordR okV
def putV (u:Nat):Byt:=wrdB (bitsF u)
theorem val_fits:Fits valR putV (fun u=>u<2^64∧bitsF u=u):=by
 have h:=z3k zcW okV;refine⟨fun a t ho=>?_,fun b a t hr=>?_⟩
 · have:=h.fwd a t ⟨ho.1,by unfold okV;exact decide_eq_true ho.2⟩
   unfold putV;rw[ho.2];exact this
 · obtain⟨⟨h1,h2⟩,h3⟩:=h.bwd b a t hr;have h2:bitsF a=a:=by unfold okV at h2;exact of_decide_eq_true h2
   exact⟨⟨h1,h2⟩,by unfold putV;rw[h2];exact h3⟩
theorem ends_val:EndsR valR:=val_fits.ends
abbrev Bnd:=Bool×Nat×Nat
def bnd0:Rd Bnd
 |[]=>none
 |c::t=>if c=0 then(seqR valR valR t).map (fun p=>((false,p.1.1,p.1.2),p.2)) else if c=1 then some ((true,0,0),t) else none
def bandR:Rd Bnd:=onlyR bnd0 (fun x=>mayB x.1 x.2.1 x.2.2)
def putBd (x:Bnd):Byt:=if x.1 then[1] else 0::(putV x.2.1++putV x.2.2)
def bndOk (x:Bnd):Prop:=if x.1 then x.2.1=0∧x.2.2=0 else(x.2.1<2^64∧bitsF x.2.1=x.2.1)∧(x.2.2<2^64∧bitsF x.2.2=x.2.2)
theorem zd9:Fits bnd0 putBd bndOk where
 fwd x t h:=by
  obtain⟨any,lo,hi⟩:=x
  cases any with
  |true =>
   obtain⟨rfl,rfl⟩:lo=0∧hi=0:=h;rfl
  |false =>
   have h:(lo<2^64∧bitsF lo=lo)∧(hi<2^64∧bitsF hi=hi):=h;have h2:=(z16 val_fits val_fits).fwd (lo,hi) t h;simp only at h2;simp only[putBd,Bool.false_eq_true,if_false,bnd0,List.cons_append,if_true,h2,Option.map_some]
 bwd b x t hr:=by
  cases b with
  |nil=>cases hr
  |cons c u =>
   simp only[bnd0]at hr;split at hr
   · rename_i hc
     cases h1:seqR valR valR u with
     |none=>simp[h1]at hr
     |some p =>
      simp only[h1,Option.map_some,Option.some.injEq,Prod.mk.injEq]at hr;obtain⟨rfl,rfl⟩:=hr;obtain⟨h2,h3⟩:=(z16 val_fits val_fits).bwd _ _ _ h1;refine⟨h2,?_⟩;rw[h3,hc];rfl
   · split at hr
     · rename_i hc;simp only[Option.some.injEq,Prod.mk.injEq]at hr;obtain⟨rfl,rfl⟩:=hr;exact⟨⟨rfl,rfl⟩,by rw[hc];rfl⟩
     · cases hr
def bMay (x:Bnd):Bool:=mayB x.1 x.2.1 x.2.2
def bSz (x:Bnd):Prop:=x.2.1<2^64∧x.2.2<2^64
theorem zbE {a b:Nat} (h:leF a b=true):nanF a=false∧nanF b=false:=by
 unfold leF Ieee.Format.order at h;unfold nanF Ieee.Format.order;generalize FloatKind.f64.format.read a=x at *;generalize FloatKind.f64.format.read b=y at *
 cases x with
 |nan s m=>simp[Ieee.Datum.order]at h
 |infinity s =>
  cases y with
  |nan t n=>simp[Ieee.Datum.order]at h
  |infinity t=>cases s<;>cases t<;>simp[Ieee.Datum.order]at h⊢
  |number t n j=>cases s<;>simp[Ieee.Datum.order]at h⊢
 |number s m i =>
  cases y with
  |nan t n=>simp[Ieee.Datum.order]at h
  |infinity t=>cases t<;>simp[Ieee.Datum.order]at h⊢
  |number t n j=>simp[Ieee.Datum.order]
theorem z8I {a:Nat} (h:nanF a=false):bitsF a=a:=by unfold bitsF;rw[h];rfl
theorem z3m {a:Nat} (h:bitsF a=0):a=0:=by
 unfold bitsF at h;split at h
 · cases h
 · exact h
theorem zgi {x:Bnd} (h:bMay x=true) (w:bSz x):bndOk x:=by
 obtain⟨any,lo,hi⟩:=x;unfold bMay mayB at h
 cases any with
 |true =>
  simp only[if_true,Bool.and_eq_true,beq_iff_eq]at h;exact⟨z3m (Int.ofNat.inj h.1),z3m (Int.ofNat.inj h.2)⟩
 |false =>
  obtain⟨h1,h2⟩:=zbE h;exact⟨⟨w.1,z8I h1⟩,⟨w.2,z8I h2⟩⟩
theorem ok_sz {x:Bnd} (h:bndOk x):bSz x:=by
 obtain⟨any,lo,hi⟩:=x
 cases any with
 |true =>
  obtain⟨rfl,rfl⟩:lo=0∧hi=0:=h;exact⟨by decide,by decide⟩
 |false =>
  have h:(lo<2^64∧bitsF lo=lo)∧(hi<2^64∧bitsF hi=hi):=h;exact⟨h.1.1,h.2.1⟩
theorem band_fits:Fits bandR putBd (fun x=>bMay x=true∧bSz x) :=
 (z3k zd9 bMay).weaken fun x=>⟨fun h=>⟨h.2,ok_sz h.1⟩,fun h=>⟨zgi h.1 h.2,h.1⟩⟩
theorem ends_band:EndsR bandR:=band_fits.ends
def mkRu (x:List Mtr×List Mtr×Bnd×List ByteArray):RuM:=⟨x.1,x.2.1,x.2.2.1.1,x.2.2.1.2.1,x.2.2.1.2.2,x.2.2.2⟩
def ruR0:Rd RuM:=z0Y (seqR listR (seqR listR (seqR bandR (rowR 4 (textR 12))))) mkRu
def ruR:Rd RuM:=onlyR ruR0 ruIs
def putR (r:RuM):Byt:=putL r.src++(putL r.tgt++(putBd (r.any,r.lo,r.hi)++z2K txtB r.eq))
def ruSz (r:RuM):Prop:=r.lo<2^64∧r.hi<2^64
theorem zf2:Fits ruR0 putR (fun r=>listB r.src=true∧listB r.tgt=true∧(mayB r.any r.lo r.hi=true∧ruSz r)∧(r.eq.length≤4∧∀a∈r.eq,a.size≤12)) :=
 dress_fits (z16 listB_fits (z16 listB_fits (z16 band_fits (z7s (by decide) (z1B (by decide)))))) (g:=fun r=>(r.src,r.tgt,(r.any,r.lo,r.hi),r.eq))
  (fun _ h=>⟨h,rfl⟩) (fun _ h=>⟨h,rfl⟩)
theorem z6Z {s:ByteArray} (h:nameB s=true):s.size≤12:=by
 unfold nameB at h;simp only[Bool.and_eq_true,decide_eq_true_eq]at h;exact h.1.1.2
theorem zia {e:List ByteArray} (h:eqB e=true):e.length≤4∧∀a∈e,a.size≤12:=by
 unfold eqB at h;simp only[Bool.and_eq_true,decide_eq_true_eq]at h;refine⟨h.1,fun a ha=>?_⟩
 obtain⟨i,hi,rfl⟩:=List.getElem_of_mem ha;have h2:=List.all_eq_true.1 h.2 i (List.mem_range.2 hi);unfold eqOk at h2;simp only[Bool.and_eq_true]at h2;have e2:e.getD i ⟨#[]⟩=e[i]:=by rw[List.getD_eq_getElem?_getD,List.getElem?_eq_getElem hi];rfl
 rw[e2]at h2;exact z6Z h2.1
theorem z1A {r:RuM} (h:ruIs r=true):listB r.src=true∧listB r.tgt=true∧mayB r.any r.lo r.hi=true∧(r.eq.length≤4∧∀a∈r.eq,a.size≤12):=by
 unfold ruIs at h;simp only[Bool.and_eq_true]at h;exact⟨h.2.2.1,h.2.2.2.1,h.2.2.2.2.1,zia h.2.2.2.2.2⟩
theorem ru_fits:Fits ruR putR (fun r=>ruIs r=true∧ruSz r) :=
 (z3k zf2 ruIs).weaken fun r=>⟨fun h=>⟨h.2,h.1.2.2.1.2⟩,fun h=>⟨⟨(z1A h.1).1,(z1A h.1).2.1,⟨(z1A h.1).2.2.1,h.2⟩,(z1A h.1).2.2.2⟩,h.1⟩⟩
theorem ends_ru:EndsR ruR:=ru_fits.ends
theorem zda {α:Type} {b:Byt} {rd:Rd α} {st st':Nat×Bool→α×(Nat×Bool)} (h:StepsR b rd st) (h2:∀q,(st' q).2=(st q).2) (h3:∀q,(st q).2.2=false→st' q=st q):StepsR b rd st' where
 some_ a x t ha hr:=by
  have:=h.some_ a x t ha hr;rw[h3 _ (by rw[this]),this]
 none_ a ha hr:=by rw[h2];exact h.none_ a ha hr
 bad a:=by rw[h2];exact h.bad a
 inb q hq:=by rw[h2];exact h.inb q hq
def valS (b:Byt) (q:Nat×Bool):Nat×(Nat×Bool):=(if okV (runR wordR 0 b q).1 then(runR wordR 0 b q).1 else 0,took (runR wordR 0 b q).2 0 (okV (runR wordR 0 b q).1))
theorem z0J (b:Byt):StepsR b valR (valS b):=by
 refine zda (z18 (z0q b wordR 0) okV) (fun q=>rfl) fun q h=>?_
 unfold z0M took at h;unfold valS z0M;simp only at h⊢
 cases ho:okV (runR wordR 0 b q).1 with
 |true=>rfl
 |false=>rw[ho]at h;simp at h
def bnd0S (b:Byt) (q:Nat×Bool):Bnd×(Nat×Bool) :=
 if(runR byteR 0 b q).1=0 then((false,(valS b (runR byteR 0 b q).2).1,(valS b (valS b (runR byteR 0 b q).2).2).1),(valS b (valS b (runR byteR 0 b q).2).2).2)
 else if(runR byteR 0 b q).1=1 then((true,0,0),(runR byteR 0 b q).2) else((false,0,0),took (runR byteR 0 b q).2 0 false)
theorem zbF (b:Byt):StepsR b bnd0 (bnd0S b) where
 some_ a x t ha hr:=by
  cases hd:b.drop a with
  |nil=>rw[hd]at hr;cases hr
  |cons c u =>
   have h1:byteR (b.drop a)=some (c,u):=by rw[hd];rfl
   obtain⟨e1,e2,e3⟩:=ends_byte.drop ha h1;rw[hd]at hr;simp only[bnd0]at hr;unfold bnd0S;simp only[z14 h1];split at hr
   · rename_i hc;rw[if_pos hc]
     cases h2:seqR valR valR u with
     |none=>simp[h2]at hr
     |some p =>
      simp only[h2,Option.map_some,Option.some.injEq,Prod.mk.injEq]at hr;obtain⟨rfl,rfl⟩:=hr;have:=(z0G (z0J b) (z0J b) ends_val).some_ (b.length-u.length) p.1 p.2 (by omega) (by rw[e1];exact h2)
      unfold seqSt at this;simp only[Prod.ext_iff]at this⊢;simp only[this,and_self]
   · rename_i hc;rw[if_neg hc];split at hr
     · rename_i hc;rw[if_pos hc];simp only[Option.some.injEq,Prod.mk.injEq]at hr;obtain⟨rfl,rfl⟩:=hr;rfl
     · cases hr
 none_ a ha hr:=by
  cases hd:b.drop a with
  |nil =>
   have h1:byteR (b.drop a)=none:=by rw[hd];rfl
   unfold bnd0S;simp only[z1j h1,if_true];exact z3t (z0J b).bad _ ((z0J b).bad a)
  |cons c u =>
   have h1:byteR (b.drop a)=some (c,u):=by rw[hd];rfl
   obtain⟨e1,e2,e3⟩:=ends_byte.drop ha h1;rw[hd]at hr;simp only[bnd0]at hr;unfold bnd0S;simp only[z14 h1];split at hr
   · rename_i hc;rw[if_pos hc]
     cases h2:seqR valR valR u with
     |some p=>simp[h2]at hr
     |none =>
      exact(z0G (z0J b) (z0J b) ends_val).none_ (b.length-u.length) (by omega) (by rw[e1];exact h2)
   · rename_i hc;rw[if_neg hc];split at hr
     · cases hr
     · rename_i hc;rw[if_neg hc];rfl
 bad a:=by
  unfold bnd0S;simp only[z0Q,if_true];exact z3t (z0J b).bad _ ((z0J b).bad a)
 inb q hq:=by
  have h1:=z0l byteR 0 b q hq;unfold bnd0S;split
  · exact(z0J b).inb _ ((z0J b).inb _ h1)
  · split
    · exact h1
    · exact z1n b _ _ h1
def bandS (b:Byt):Nat×Bool→Bnd×(Nat×Bool):=z0M (bnd0S b) bMay
theorem zbG (b:Byt):StepsR b bandR (bandS b):=z18 (zbF b) _
def ruS (b:Byt):Nat×Bool→RuM×(Nat×Bool) :=
 z0M (z25 (seqSt (runR listR [] b) (seqSt (runR listR [] b) (seqSt (runR bandR (false,0,0) b) (rowSt 4 b (runR (textR 12) ⟨#[]⟩ b))))) mkRu) ruIs
theorem zf3 (b:Byt):StepsR b ruR (ruS b) :=
 z18 (z15 (z0G (z0q b listR []) (z0G (z0q b listR []) (z0G (z0q b bandR _) (z68 (z0q b (textR 12) _) (z0T 12) 4) ends_band) ends_list) ends_list) mkRu) ruIs
end Go.Proofs.YtmkmhhjkdaklbaaGreat
namespace Go.Proofs.YtmkmhhjkdaklbaaGreat
open Go Go.Ab
set_option maxRecDepth 100000
def c17:ACode :=
 (sq_ [pr_ 2 (.allocm [.nils,.nils,.pl (.bool false),.pl (.float .f64 0),.pl (.float .f64 0),.nils]),
 pr_ 3 (mi_ .i64 0),
 pr_ 4 mf_]
 (sq_ [mv_ 9 0,
 c1_ 10 54 9,
 mv_ 5 10]
 (sq_ [mv_ 11 5,
 cl_ 12 55 [(.tmp 11),(.func 56)],
 mv_ 13 5,
 cl_ 14 55 [(.tmp 13),(.func 56)],
 mv_ 15 5,
 cl_ 16 57 [(.tmp 15),(.func 58)],
 pr_ 17 (.build [.nils,.nils,.pl (.bool false),.pl (.float .f64 0),.pl (.float .f64 0),.nils] [(0,1,(.tmp 12)),(1,1,(.tmp 14)),(2,3,(.tmp 16))]),
 pr_ 6 (.allocm [.nils,.nils,.pl (.bool false),.pl (.float .f64 0),.pl (.float .f64 0),.nils]),
 st_ (so_ 6 6 17)]
 (.seq (sq_ [mv_ 18 5,
 cl_ 19 59 [(.tmp 18),(.const (.int .u64 4))],
 pr_ 20 (mi_ .u64 0)]
 (.block 0 (.loop [0,1,3,4,7,8,9,10,11,12,13,14,15,16,17,18,21,22,23,24,25,26,27,28,29,30,31,32,33,34,35,36,37,38,39,40,41,42,43] (sq_ [pr_ 21 (bt_ .lss 20 19)]
 (.seq (.cond (.tmp 21)
 .skip
 (.exit 0))
 (.seq (.block 1 (.draw [⟨pr_ 22 (fa_ 5 6),[],false,0,1⟩,
 ⟨pr_ 23 (lf_ 1 22),[0],false,0,1⟩,
 ⟨mv_ 24 5,[],false,0,0⟩,
 ⟨cl_ 25 60 [(.tmp 24),(.const (.int .i64 12))],[2],true,0,0⟩,
 ⟨pr_ 26 (.bsl false 1 false 1 [.pl (.string .empty)] [(0,1,(.tmp 25))]),[2,3],false,1,1⟩,
 ⟨pr_ 27 (.app 1 (.tmp 23) (.tmp 26)),[0,1,2,3,4],true,0,0⟩,
 ⟨pr_ 28 (fa_ 5 6),(List.range 6),false,2,2⟩,
 ⟨st_ (so_ 1 28 27),(List.range 7),true,0,0⟩]))
 (.ops [pr_ 29 (bk_ .add 20 .u64 1),
 mv_ 20 29])))))))
 (.seq (.ghost (.shutc 6 5 1) (.ops [mv_ 30 5,
 pr_ 31 (lt_ 6 6),
 c1_ 32 51 31,
 cl_ 33 61 [(.tmp 30),(.tmp 32)]]))
 (sq_ [mv_ 35 5,
 c1_ 36 62 35,
 mv_ 34 36,
 pr_ 37 (ex_ 0 34),
 pr_ 38 (ex_ 1 34),
 mv_ 7 37,
 mv_ 8 38]
 (.seq (sq_ [mv_ 39 8,
 pr_ 40 (no_ 39)]
 (.cond (.tmp 40)
 (sq_ [pr_ 41 (.build [.nils,.nils,.pl (.bool false),.pl (.float .f64 0),.pl (.float .f64 0),.nils] []),
 st_ (so_ 6 2 41),
 pr_ 3 (mi_ .i64 0),
 pr_ 4 mf_]
 .ret)
 .skip))
 (sq_ [pr_ 42 (lt_ 6 6),
 mv_ 43 7,
 st_ (so_ 6 2 42),
 mv_ 3 43,
 pr_ 4 mt_]
 .ret))))))))
def o17:List Tmp:=[2,6]
def r17:List RV:=[.cell 2 6 true,.tmp 3,.tmp 4]
theorem t17:Text Tryz.prog 17 o17 c17 r17 44:=.mk_ Tryz.f17 rfl
def c19:ACode :=
 (sq_ [pr_ 1 (.boxr (.tmp 0)),
 pr_ 2 (.mov (.const (.slice none 0 0)))]
 (.seq (sq_ [pr_ 6 (lt_ 6 1),
 c1_ 7 51 6,
 pr_ 8 (no_ 7)]
 (.cond (.tmp 8)
 (sq_ [pr_ 2 (.mov (.const (.slice none 0 0)))]
 (.ghost (.shut 2) .ret))
 .skip))
 (.seq (.draw [⟨pr_ 9 (fa_ 0 1),[],false,0,0⟩,
 ⟨pr_ 10 (lf_ 1 9),[0],false,0,0⟩,
 ⟨c1_ 11 69 10,[0,1],true,0,0⟩,
 ⟨pr_ 12 (fa_ 1 1),[],false,0,1⟩,
 ⟨pr_ 13 (lf_ 1 12),[3],false,0,1⟩,
 ⟨c1_ 14 69 13,[0,1,2,3,4],true,0,0⟩,
 ⟨pr_ 15 (fa_ 2 1),[],false,0,2⟩,
 ⟨pr_ 16 (lt_ 3 15),[6],false,0,2⟩,
 ⟨c1_ 17 70 16,(List.range 8),true,0,0⟩,
 ⟨pr_ 18 (fa_ 5 1),[],false,0,3⟩,
 ⟨pr_ 19 (lf_ 1 18),[9],false,0,3⟩,
 ⟨pr_ 20 (.lenv (.tmp 19)),[9,10],false,0,3⟩,
 ⟨pr_ 21 (.convi .u64 (.tmp 20)),[9,10,11],false,0,3⟩,
 ⟨c1_ 22 71 21,(List.range 13),true,0,0⟩,
 ⟨pr_ 23 (.bsl false 1 false 4 [.nils] [(0,1,(.tmp 11)),(1,1,(.tmp 14)),(2,1,(.tmp 17)),(3,1,(.tmp 22))]),(List.range 14),false,4,4⟩,
 ⟨c1_ 24 68 23,(List.range 15),true,0,0⟩,
 ⟨mv_ 3 24,(List.range 16),false,5,5⟩])
 (.seq (sq_ [pr_ 25 (fa_ 5 1),
 pr_ 26 (lf_ 1 25),
 pr_ 27 (.lenv (.tmp 26)),
 pr_ 28 (mi_ .i64 0)]
 (.block 0 (.loop [0,1,2,4,5,6,7,8,9,10,11,12,13,14,15,16,17,18,19,20,21,22,23,24,25,29,30,31,32,33,34,35,36,37] (sq_ [pr_ 29 (bt_ .lss 28 27)]
 (.seq (.cond (.tmp 29)
 .skip
 (.exit 0))
 (.seq (.block 1 (sq_ [pr_ 30 (.iadrs 1 (.tmp 26) (.tmp 28)),
 pr_ 31 (lf_ 1 30),
 mv_ 5 31]
 (.ops [mv_ 32 3,
 mv_ 33 5,
 c1_ 34 72 33,
 pr_ 35 (.app 1 (.tmp 32) (.tmp 34)),
 mv_ 3 35])))
 (.ops [pr_ 36 (bk_ .add 28 .i64 1),
 mv_ 28 36])))))))
 (sq_ [mv_ 37 3,
 mv_ 2 37]
 (.ghost (.shut 2) .ret))))))
def o19:List Tmp:=[]
def r19:List RV:=[.tmp 2]
theorem t19:Text Tryz.prog 19 o19 c19 r19 38:=.mk_ Tryz.f19 rfl
def c55:ACode :=
 (sq_ [pr_ 4 (.mov (.const (.slice none 0 0)))]
 (sq_ [mv_ 10 1,
 mv_ 11 0,
 c1_ 12 112 11,
 ⟨some 13,none,.call (.tmp 10) [(.tmp 12)]⟩,
 mv_ 9 13,
 pr_ 14 (ex_ 0 9),
 pr_ 15 (ex_ 1 9),
 pr_ 16 (ex_ 2 9),
 mv_ 5 14,
 mv_ 6 15,
 mv_ 7 16]
 (.seq (sq_ [mv_ 17 0,
 mv_ 18 6,
 mv_ 19 7,
 cl_ 20 113 [(.tmp 17),(.tmp 18),(.tmp 19)],
 pr_ 21 (no_ 20)]
 (.cond (.tmp 21)
 (sq_ [pr_ 8 (.mov (.const (.slice none 0 0)))]
 (sq_ [mv_ 22 8,
 mv_ 4 22]
 .ret))
 .skip))
 (sq_ [mv_ 23 5,
 mv_ 4 23]
 .ret))))
def o55:List Tmp:=[]
def r55:List RV:=[.tmp 4]
theorem t55:Text Tryz.prog 55 o55 c55 r55 24:=.mk_ Tryz.f55 rfl
def c57:ACode :=
 (sq_ [pr_ 4 (.allocm [.pl (.bool false),.pl (.float .f64 0),.pl (.float .f64 0)])]
 (sq_ [mv_ 10 1,
 mv_ 11 0,
 c1_ 12 112 11,
 ⟨some 13,none,.call (.tmp 10) [(.tmp 12)]⟩,
 mv_ 9 13,
 pr_ 14 (ex_ 0 9),
 pr_ 15 (ex_ 1 9),
 pr_ 16 (ex_ 2 9),
 ⟨some 5,none,.fresh 3 5 (.tmp 14)⟩,
 mv_ 6 15,
 mv_ 7 16]
 (.seq (sq_ [mv_ 17 0,
 mv_ 18 6,
 mv_ 19 7,
 cl_ 20 113 [(.tmp 17),(.tmp 18),(.tmp 19)],
 pr_ 21 (no_ 20)]
 (.cond (.tmp 21)
 (sq_ [pr_ 8 (.allocm [.pl (.bool false),.pl (.float .f64 0),.pl (.float .f64 0)])]
 (sq_ [pr_ 22 (lt_ 3 8),
 st_ (so_ 3 4 22)]
 .ret))
 .skip))
 (sq_ [pr_ 23 (lt_ 3 5),
 st_ (so_ 3 4 23)]
 .ret))))
def o57:List Tmp:=[4]
def r57:List RV:=[.cell 4 3 true]
theorem t57:Text Tryz.prog 57 o57 c57 r57 24:=.mk_ Tryz.f57 rfl
def c58:ACode :=
 (sq_ [pr_ 2 (.allocm [.pl (.bool false),.pl (.float .f64 0),.pl (.float .f64 0)]),
 pr_ 3 (mi_ .i64 0),
 pr_ 4 mf_]
 (sq_ [mv_ 9 0,
 c1_ 10 54 9,
 mv_ 5 10]
 (sq_ [pr_ 6 (.allocm [.pl (.bool false),.pl (.float .f64 0),.pl (.float .f64 0)])]
 (.seq (sq_ [mv_ 11 5,
 c1_ 12 83 11]
 (.block 0 (sq_ [pr_ 16 (bk_ .eql 12 .u8 0),
 mv_ 15 16]
 (.cond (.tmp 15)
 (.ops [mv_ 17 5,
 c1_ 18 114 17,
 mv_ 19 5,
 c1_ 20 114 19,
 pr_ 21 (fa_ 1 6),
 st_ (so_ 1 21 18),
 pr_ 22 (fa_ 2 6),
 st_ (so_ 1 22 20)])
 (sq_ [pr_ 24 (bk_ .eql 12 .u8 1),
 mv_ 23 24]
 (.cond (.tmp 23)
 (.ops [pr_ 25 (fa_ 0 6),
 st_ (.store 1 (.tmp 25) (.const (.bool true)))])
 (.ops [mv_ 13 5,
 cl_ 14 61 [(.tmp 13),(.const (.bool false))]])))))))
 (sq_ [mv_ 26 5,
 pr_ 27 (lt_ 3 6),
 c1_ 28 107 27,
 cl_ 29 61 [(.tmp 26),(.tmp 28)]]
 (sq_ [mv_ 31 5,
 c1_ 32 62 31,
 mv_ 30 32,
 pr_ 33 (ex_ 0 30),
 pr_ 34 (ex_ 1 30),
 mv_ 7 33,
 mv_ 8 34]
 (.seq (sq_ [mv_ 35 8,
 pr_ 36 (no_ 35)]
 (.cond (.tmp 36)
 (sq_ [pr_ 37 (.build [.pl (.bool false),.pl (.float .f64 0),.pl (.float .f64 0)] []),
 st_ (so_ 3 2 37),
 pr_ 3 (mi_ .i64 0),
 pr_ 4 mf_]
 .ret)
 .skip))
 (sq_ [pr_ 38 (lt_ 3 6),
 mv_ 39 7,
 st_ (so_ 3 2 38),
 mv_ 3 39,
 pr_ 4 mt_]
 .ret))))))))
def o58:List Tmp:=[2,6]
def r58:List RV:=[.cell 2 3 true,.tmp 3,.tmp 4]
theorem t58:Text Tryz.prog 58 o58 c58 r58 40:=.mk_ Tryz.f58 rfl
def c68:ACode :=
 (sq_ [pr_ 2 (.mov (.const (.slice none 0 0)))]
 (sq_ [pr_ 3 (mi_ .i64 0)]
 (.seq (sq_ [mv_ 9 0,
 pr_ 10 (.lenv (.tmp 9)),
 pr_ 11 (mi_ .i64 0)]
 (.block 0 (.loop [1,2,4,5,6,7,8,12,13,14,15,16,17,18,19,20,21,22,23,24,25,26,27,28,29,30,31,32,33,34,35] (sq_ [pr_ 12 (bt_ .lss 11 10)]
 (.seq (.cond (.tmp 12)
 .skip
 (.exit 0))
 (.seq (.block 1 (sq_ [pr_ 13 (.iadrs 1 (.tmp 9) (.tmp 11)),
 pr_ 14 (lf_ 1 13),
 mv_ 5 14]
 (sq_ [mv_ 15 3,
 mv_ 16 5,
 pr_ 17 (.lenv (.tmp 16)),
 pr_ 18 (bt_ .add 15 17),
 mv_ 3 18]
 (sq_ [mv_ 19 3,
 pr_ 20 (bk_ .lss 19 .i64 0)]
 (.cond (.tmp 20)
 (.ops [pr_ 21 (.bad),
 st_ (.bad)])
 .skip)))))
 (.ops [pr_ 22 (bk_ .add 11 .i64 1),
 mv_ 11 22])))))))
 (sq_ [mv_ 23 3,
 cl_ 24 122 [(.const (.slice none 0 0)),(.tmp 23)],
 mv_ 6 24]
 (.seq (sq_ [mv_ 25 0,
 pr_ 26 (.lenv (.tmp 25)),
 pr_ 27 (mi_ .i64 0)]
 (.block 2 (.loop [0,1,2,3,4,5,7,8,9,10,11,12,13,14,15,16,17,18,19,20,21,22,23,24,28,29,30,31,32,33,34,35] (sq_ [pr_ 28 (bt_ .lss 27 26)]
 (.seq (.cond (.tmp 28)
 .skip
 (.exit 2))
 (.seq (.block 3 (sq_ [pr_ 29 (.iadrs 1 (.tmp 25) (.tmp 27)),
 pr_ 30 (lf_ 1 29),
 mv_ 8 30]
 (.ops [mv_ 31 6,
 mv_ 32 8,
 pr_ 33 (.app 1 (.tmp 31) (.tmp 32)),
 mv_ 6 33])))
 (.ops [pr_ 34 (bk_ .add 27 .i64 1),
 mv_ 27 34])))))))
 (sq_ [mv_ 35 6,
 mv_ 2 35]
 .ret))))))
def o68:List Tmp:=[]
def r68:List RV:=[.tmp 2]
theorem t68:Text Tryz.prog 68 o68 c68 r68 36:=.mk_ Tryz.f68 rfl
def c70:ACode :=
 (sq_ [pr_ 1 (.boxr (.tmp 0)),
 pr_ 2 (.mov (.const (.slice none 0 0)))]
 (.seq (sq_ [pr_ 3 (fa_ 0 1),
 pr_ 4 (lf_ 1 3)]
 (.cond (.tmp 4)
 (sq_ [pr_ 5 (.bsl false 1 false 1 [.pl (.int .u8 0)] [(0,1,(.const (.int .u8 1)))]),
 mv_ 2 5]
 (.ghost (.shut 2) .ret))
 .skip))
 (.seq (.draw [⟨pr_ 6 (.bsl false 1 false 1 [.pl (.int .u8 0)] [(0,1,(.const (.int .u8 0)))]),[],false,0,4⟩,
 ⟨pr_ 7 (fa_ 1 1),[],false,0,0⟩,
 ⟨pr_ 8 (lf_ 1 7),[1],false,0,0⟩,
 ⟨c1_ 9 94 8,[1,2],true,0,0⟩,
 ⟨c1_ 10 93 9,[1,2,3],true,0,0⟩,
 ⟨pr_ 11 (fa_ 2 1),[],false,0,2⟩,
 ⟨pr_ 12 (lf_ 1 11),[5],false,0,2⟩,
 ⟨c1_ 13 94 12,[1,2,3,4,5,6],true,0,0⟩,
 ⟨c1_ 14 93 13,[1,2,3,4,5,6,7],true,0,0⟩,
 ⟨pr_ 15 (.bsl false 1 false 3 [.nils] [(0,1,(.tmp 6)),(1,1,(.tmp 10)),(2,1,(.tmp 14))]),(List.range 9),false,4,4⟩,
 ⟨c1_ 16 68 15,(List.range 10),true,0,0⟩,
 ⟨mv_ 2 16,(List.range 11),false,5,5⟩])
 (.ghost (.shut 2) .ret))))
def o70:List Tmp:=[]
def r70:List RV:=[.tmp 2]
theorem t70:Text Tryz.prog 70 o70 c70 r70 17:=.mk_ Tryz.f70 rfl
def c93:ACode :=
 (sq_ [pr_ 2 (.mov (.const (.slice none 0 0)))]
 (sq_ [pr_ 5 (.mks 1 false [.pl (.int .u8 0)] (.const (.int .i64 8)) (.const (.int .i64 8))),
 mv_ 3 5]
 (.seq (sq_ [mv_ 6 3,
 pr_ 7 (.lenv (.tmp 6)),
 pr_ 8 (mi_ .i64 0)]
 (.block 0 (.loop [1,2,4,5,6,9,10,11,12,13,14,15,16,17,18,19,20,21] (sq_ [pr_ 9 (bt_ .lss 8 7)]
 (.seq (.cond (.tmp 9)
 .skip
 (.exit 0))
 (.seq (.block 1 (sq_ [mv_ 10 8,
 mv_ 4 10]
 (.ops [mv_ 11 3,
 mv_ 12 4,
 mv_ 13 0,
 mv_ 14 4,
 pr_ 15 (.bin false .mul (.const (.int .i64 8)) (.tmp 14)),
 pr_ 16 (.bin false .sub (.const (.int .i64 56)) (.tmp 15)),
 pr_ 17 (bt_ .shr 13 16),
 pr_ 18 (.convi .u8 (.tmp 17)),
 pr_ 19 (.iadrs 1 (.tmp 11) (.tmp 12)),
 st_ (so_ 1 19 18)])))
 (.ops [pr_ 20 (bk_ .add 8 .i64 1),
 mv_ 8 20])))))))
 (sq_ [mv_ 21 3,
 mv_ 2 21]
 (.ghost (.shut 2) .ret)))))
def o93:List Tmp:=[]
def r93:List RV:=[.tmp 2]
theorem t93:Text Tryz.prog 93 o93 c93 r93 22:=.mk_ Tryz.f93 rfl
def c114:ACode :=
 (sq_ [pr_ 2 (.mov (.const (.float Go.FloatKind.f64 0)))]
 (sq_ [mv_ 6 0,
 c1_ 7 140 6,
 c1_ 8 139 7,
 mv_ 5 8,
 pr_ 9 (ex_ 0 5),
 pr_ 10 (ex_ 1 5),
 mv_ 3 9,
 mv_ 4 10]
 (sq_ [mv_ 11 0,
 mv_ 12 4,
 cl_ 13 61 [(.tmp 11),(.tmp 12)]]
 (sq_ [mv_ 14 3,
 mv_ 2 14]
 .ret))))
def o114:List Tmp:=[]
def r114:List RV:=[.tmp 2]
theorem t114:Text Tryz.prog 114 o114 c114 r114 15:=.mk_ Tryz.f114 rfl
def c122:ACode :=
 (sq_ [pr_ 4 (.mov (.const (.slice none 0 0)))]
 (.seq (sq_ [mv_ 5 1,
 pr_ 6 (bk_ .lss 5 .i64 0)]
 (.cond (.tmp 6)
 (.ops [pr_ 7 (.bad),
 st_ (.bad)])
 .skip))
 (.seq (sq_ [mv_ 8 1,
 mv_ 9 0,
 pr_ 10 (.capn (.tmp 9)),
 mv_ 11 0,
 pr_ 12 (.lenv (.tmp 11)),
 pr_ 13 (bt_ .sub 10 12),
 pr_ 14 (bt_ .sub 8 13),
 mv_ 1 14]
 (sq_ [mv_ 15 1,
 pr_ 16 (bk_ .gtr 15 .i64 0)]
 (.cond (.tmp 16)
 (.ops [mv_ 17 0,
 mv_ 18 0,
 pr_ 19 (.capn (.tmp 18)),
 pr_ 20 (.slco 1 (.tmp 17) none (some (.tmp 19))),
 mv_ 21 1,
 pr_ 22 (.appz 1 false [.pl (.int .u8 0)] (.tmp 20) (.tmp 21)),
 mv_ 23 0,
 pr_ 24 (.lenv (.tmp 23)),
 pr_ 25 (.slco 1 (.tmp 22) none (some (.tmp 24))),
 mv_ 0 25])
 .skip)))
 (sq_ [mv_ 26 0,
 mv_ 4 26]
 .ret))))
def o122:List Tmp:=[20,25]
def r122:List RV:=[.tmp 4]
theorem t122:Text Tryz.prog 122 o122 c122 r122 27:=.mk_ Tryz.f122 rfl
def c139:ACode :=
 (sq_ [pr_ 2 (.mov (.const (.float Go.FloatKind.f64 0))),
 pr_ 3 mf_]
 (sq_ [mv_ 5 0,
 c1_ 6 151 5,
 mv_ 4 6]
 (.seq (sq_ [mv_ 7 4,
 c1_ 8 94 7,
 mv_ 9 0,
 pr_ 10 (bt_ .neq 8 9)]
 (.cond (.tmp 10)
 (sq_ [pr_ 2 (.mov (.const (.float Go.FloatKind.f64 0))),
 pr_ 3 mf_]
 .ret)
 .skip))
 (sq_ [mv_ 11 4,
 mv_ 2 11,
 pr_ 3 mt_]
 .ret))))
def o139:List Tmp:=[]
def r139:List RV:=[.tmp 2,.tmp 3]
theorem t139:Text Tryz.prog 139 o139 c139 r139 12:=.mk_ Tryz.f139 rfl
def c140:ACode :=
 (sq_ [pr_ 2 (mi_ .u64 0)]
 (sq_ [mv_ 6 0,
 c1_ 7 112 6,
 c1_ 8 158 7,
 mv_ 5 8,
 pr_ 9 (ex_ 0 5),
 pr_ 10 (ex_ 1 5),
 mv_ 3 9,
 mv_ 4 10]
 (.seq (sq_ [mv_ 11 0,
 mv_ 12 4,
 cl_ 13 113 [(.tmp 11),(.const (.int .i64 8)),(.tmp 12)],
 pr_ 14 (no_ 13)]
 (.cond (.tmp 14)
 (sq_ [pr_ 2 (mi_ .u64 0)]
 .ret)
 .skip))
 (sq_ [mv_ 15 3,
 mv_ 2 15]
 .ret))))
def o140:List Tmp:=[]
def r140:List RV:=[.tmp 2]
theorem t140:Text Tryz.prog 140 o140 c140 r140 16:=.mk_ Tryz.f140 rfl
def c158:ACode :=
 (sq_ [pr_ 2 (mi_ .u64 0),
 pr_ 3 mf_]
 (.seq (sq_ [mv_ 7 0,
 pr_ 8 (.lenv (.tmp 7)),
 pr_ 9 (bk_ .lss 8 .i64 8)]
 (.cond (.tmp 9)
 (sq_ [pr_ 2 (mi_ .u64 0),
 pr_ 3 mf_]
 .ret)
 .skip))
 (sq_ [pr_ 4 (mi_ .u64 0)]
 (.seq (sq_ [mv_ 10 0,
 pr_ 11 (.slcv 1 (.tmp 10) none (some (.const (.int .i64 8)))),
 pr_ 12 (.lenv (.tmp 11)),
 pr_ 13 (mi_ .i64 0)]
 (.block 0 (.loop [0,1,2,3,5,6,7,8,9,10,14,15,16,17,18,19,20,21,22,23] (sq_ [pr_ 14 (bt_ .lss 13 12)]
 (.seq (.cond (.tmp 14)
 .skip
 (.exit 0))
 (.seq (.block 1 (sq_ [pr_ 15 (.iadrs 1 (.tmp 11) (.tmp 13)),
 pr_ 16 (lf_ 1 15),
 mv_ 6 16]
 (.ops [mv_ 17 4,
 pr_ 18 (bk_ .shl 17 .u64 8),
 mv_ 19 6,
 pr_ 20 (.convi .u64 (.tmp 19)),
 pr_ 21 (bt_ .or 18 20),
 mv_ 4 21])))
 (.ops [pr_ 22 (bk_ .add 13 .i64 1),
 mv_ 13 22])))))))
 (sq_ [mv_ 23 4,
 mv_ 2 23,
 pr_ 3 mt_]
 .ret)))))
def o158:List Tmp:=[]
def r158:List RV:=[.tmp 2,.tmp 3]
theorem t158:Text Tryz.prog 158 o158 c158 r158 24:=.mk_ Tryz.f158 rfl
end Go.Proofs.YtmkmhhjkdaklbaaGreat
namespace Go.Ab
open Go
section
variable {P:Program} {f:FuncId} {args:List AV} {σ:St}
theorem Ans.shutAt {sz n l:Nat} {xs:List AV} {ex:St} (h:Ans P f args σ (.osl l n) (σ++ex)) (hl:σ.length≤l) (hget:(σ++ex)[l]?=some (.row sz xs)) (hn:n=xs.length) (hb:Bel σ.length (.sl sz xs)):Ans P f args σ (.sl sz xs) σ:=by
 intro M ν w vs g hvs
 have hs:sealV (σ++ex) (.osl l n)=some (.sl sz xs,(σ++ex).set l .dead):=by
  simp only[sealV,hget,hn,if_true]
 have ht:((σ++ex).set l .dead).take σ.length=σ:=by
  rw[List.set_append_right _ _ hl,List.take_left]
 have key:∀v w',After M σ ν w (.osl l n) (σ++ex) v w'→After M σ ν w (.sl sz xs) σ v w':=by
  rintro v w' ⟨M',ν',g',l',r1⟩;obtain⟨M2,g2,l2,r2⟩:=z4r g' hs r1;have hbo:∀o∈((σ++ex).set l .dead).take σ.length,BelO σ.length o:=by rw[ht];exact g.bel
  have g3:=g2.take hbo;have l3:=(l'.trans l2).take (m:=σ.length) (Nat.le_refl _);have r3:=r2.take hb;rw[ht]at g3 l3 r3;exact⟨M2,ν',g3,l3,r3⟩
 rcases h M ν w vs g hvs with⟨h1,h2⟩|⟨v,w',h1,h2⟩
 · exact .inl ⟨h1,h2.mono fun e w' ⟨v,he,h3⟩=>⟨v,he,key v w' h3⟩⟩
 · exact .inr ⟨v,w',h1,key v w' h2⟩
end
end Go.Ab
namespace Go.Proofs.YtmkmhhjkdaklbaaGreat
open Go Go.Ab Go.Cod
set_option maxRecDepth 100000
abbrev Zb:AV:=.pl (.int .u8 0)
abbrev bsv (bs:List Byt):List AV:=bs.map fun b=>.sl 1 (byv b)
theorem z4W (bs:List Byt):(bsv bs).length=bs.length:=List.length_map ..
theorem zdb (bs:List Byt) (i:Nat) (h:i<bs.length):(bsv bs)[i]?=some (.sl 1 (byv bs[i])):=by simp[h]
theorem z8J (bs:List Byt) (i:Nat) (h:i<bs.length):(bs.take (i+1)).flatten=(bs.take i).flatten++bs[i]:=by
 rw[List.take_succ_eq_append_getElem h,List.flatten_append];simp
theorem zdc (bs:List Byt) (i:Nat):((bs.take i).flatten).length≤bs.flatten.length:=by
 have:bs.flatten=(bs.take i).flatten++(bs.drop i).flatten:=by rw[←List.flatten_append,List.take_append_drop]
 rw[this,List.length_append];omega
section
variable (σ:St)
theorem zf4 (n:Nat) (h:0<n) (hn:n≤1000000):Ans Tryz.prog 122 [.nils,I n] σ (.osl (σ.length+1) 0) (σ++[.dead,.row 1 []]):=by
 have d0:decide ((n:Int)<0)=false:=by simp
 have w1:IntKind.i64.wrap (n:Int)=n:=wrapI (by omega)
 have d1:decide ((0:Int)<n)=true:=by simp;omega
 have hz:((n:Int)=0)=False:=eq_false (by omega)
 have hp:((0:Int)<n)=True:=eq_true (by omega)
 have hle:((n:Int)≤4294967296)=True:=eq_true (by omega)
 have hc:(chunks 1 false n (z0i [Zb] n)).length=n:=z1F _ _ _ _;have z0:Int.toNat 0=0:=rfl;refine Ans.of_run t122 ?_;simp -implicitDefEqProofs only[c122,r122,go_sem,d0];have z0:Int.toNat 0=0:=rfl;have z1:Int.toNat ((n:Nat):Int)=n:=Int.toNat_natCast n;have w0:IntKind.i64.wrap 0=0:=rfl;simp -implicitDefEqProofs only[go_sem,d0,Int.sub_zero,w1,d1,w0,hz,hp,hle,z0,z1,g0,s0,hc,List.take_zero,List.drop_zero,Int.natCast_nonneg,Int.le_refl,Nat.sub_zero,List.length_append,List.length_cons,List.length_nil,List.append_assoc,List.cons_append,List.nil_append];exact Fini.ret rfl
theorem z70 (bs:List Byt) (hl:bs.length≤100) (h0:0<bs.flatten.length) (h1:bs.flatten.length≤1000000) :
  Ans Tryz.prog 68 [.sl 1 (bsv bs)] σ (.osl (σ.length+1) bs.flatten.length) (σ++[.dead,.row 1 (byv bs.flatten)]):=by
 refine Ans.of_run t68 ?_;simp -implicitDefEqProofs only[c68,r68,go_sem,z4W];refine Go.Ab.L.count bs.length (fun i=>mkE 36 [(0,.sl 1 (bsv bs)),(3,I ((bs.take i).flatten.length:Nat)),(9,.sl 1 (bsv bs)),(10,I bs.length),(11,I i)]) (fun _=>σ) ?_ ?_ rfl rfl
 · intro i hi J hJ;have hf:=zdc bs (i+1);rw[z8J bs i hi]at hJ hf;have hx:=zdb bs i hi;rw[List.length_append]at hJ hf;generalize bs[i]=c at hJ hf hx;generalize (bs.take i).flatten.length=t at hJ hf⊢;have ha:IntKind.i64.wrap ((t:Int)+(c.length:Int))=((t+c.length:Nat):Int):=by rw[wrapN (by omega) (by omega)];omega
   have d0:decide (((t+c.length:Nat):Int)<0)=false:=by simp;omega
   have hin:=wrap_succ (i:=i) (by omega)
   simp -implicitDefEqProofs only[mkE,go_sem,z4W,z0f hi,dec_lt hi,hx,z03,ha,d0,hin];exact hJ
 · intro J;have d0:decide ((bs.length:Int)<bs.length)=false:=by simp
   simp -implicitDefEqProofs only[mkE,go_sem,z4W,d0,List.take_length];refine CO.intro (zf4 σ bs.flatten.length h0 h1) ?_;simp -implicitDefEqProofs only[go_sem,z4W];refine Go.Ab.L.count bs.length (fun i=>mkE 36 [(6,.osl (σ.length+1) (bs.take i).flatten.length),(25,.sl 1 (bsv bs)),(26,I bs.length),(27,I i)]) (fun i=>σ++[.dead,.row 1 (byv (bs.take i).flatten)]) ?_ ?_ rfl rfl
   · intro i hi J hJ;have hf:=zdc bs (i+1);rw[z8J bs i hi]at hJ hf;have hx:=zdb bs i hi;rw[List.length_append]at hJ hf;generalize bs[i]=c at hJ hf hx;generalize (bs.take i).flatten=t at hJ hf⊢;have hle:t.length+c.length≤4294967296:=by omega
     have hin:=wrap_succ (i:=i) (by omega)
     simp -implicitDefEqProofs only[mkE,go_sem,z4W,z0f hi,dec_lt hi,hx,z03,z1z,bc,hin,g1,s1,hle];simp only[z1H]at hJ;exact hJ
   · intro J;simp -implicitDefEqProofs only[mkE,go_sem,z4W,d0,List.take_length];exact Fini.ret rfl
theorem z8K (bs:List Byt) (hl:bs.length≤100) (h0:0<bs.flatten.length) (h1:bs.flatten.length≤1000000) :
  Ans Tryz.prog 68 [.sl 1 (bsv bs)] σ (.sl 1 (byv bs.flatten)) σ :=
 (z70 σ bs hl h0 h1).shutAt (by omega) (by rw[List.getElem?_append_right (by omega)];simp) (by rw[z03]) (z2d _ _)
end
end Go.Proofs.YtmkmhhjkdaklbaaGreat
namespace Go.Proofs.YtmkmhhjkdaklbaaGreat
open Go Go.Ab Go.Cod
set_option maxRecDepth 100000
theorem zf5 (l z:List AV) (i:Nat) (h:i<l.length) (hz:l.length=z.length):(l.take i++z.drop i).set i l[i]=l.take (i+1)++z.drop (i+1):=by
 have h1:(l.take i).length=i:=by rw[List.length_take];omega
 rw[List.set_append_right _ _ (by omega),h1,Nat.sub_self,List.drop_eq_getElem_cons (by omega),List.set_cons_zero,List.take_succ_eq_append_getElem h,List.append_assoc]
 rfl
def fillW (n i:Nat):List AV:=(byv (wrdB n)).take i++(List.replicate 8 Zb).drop i
theorem z2j (n:Nat):(wrdB n).length=8:=rfl
theorem z8L (n i:Nat) (h:i≤8):(fillW n i).length=8:=by
 unfold fillW;rw[List.length_append,List.length_take,List.length_drop,z03,z2j,List.length_replicate];omega
theorem zdd (n i:Nat) (h:i<8):(fillW n i).set i (bc (n/2^(56-8*i)).toUInt8)=fillW n (i+1):=by
 have e:(byv (wrdB n))[i]'(by rw[z03,z2j];exact h)=bc (n/2^(56-8*i)).toUInt8:=by
  match i,h with
  |0,_=>rfl
  |1,_=>rfl
  |2,_=>rfl
  |3,_=>rfl
  |4,_=>rfl
  |5,_=>rfl
  |6,_=>rfl
  |7,_=>show bc n.toUInt8=bc (n/2^0).toUInt8;rw[Nat.pow_zero,Nat.div_one]
 have:=zf5 (byv (wrdB n)) (List.replicate 8 Zb) i (by rw[z03,z2j];exact h) (by rw[z03,z2j,List.length_replicate])
 rw[e]at this;exact this
theorem zde (n i:Nat) (h:i<8):(fillW n i)[i]?=some Zb:=by
 unfold fillW;have h1:((byv (wrdB n)).take i).length=i:=by rw[List.length_take,z03,z2j];omega
 rw[List.getElem?_append_right (by omega),h1,Nat.sub_self,List.getElem?_drop,List.getElem?_replicate,if_pos (by omega)]
theorem mks8:(chunks 1 false (8:Int).toNat (z0i [Zb] (8:Int).toNat)).take (8:Int).toNat=List.replicate 8 Zb:=rfl
theorem shrN (n k:Nat) (h:k≤64):((n:Int).fdiv (2^min ((k:Nat):Int).toNat 64))=((n/2^k:Nat):Int):=by
 have:min ((k:Nat):Int).toNat 64=k:=by rw[Int.toNat_natCast];omega
 rw[this,Int.fdiv_eq_ediv_of_nonneg _ (Int.pow_nonneg (by decide))]
 push_cast;rfl
theorem zib (n:Nat):IntKind.u8.wrap (n:Int)=((n.toUInt8.toNat:Nat):Int):=by
 rw[zaC,toUInt8_mod]
section
variable (σ:St)
theorem z4g (n:Nat):Ans Tryz.prog 93 [UN n] σ (.sl 1 (byv (wrdB n))) σ:=by
 refine Ans.of_run' t93 (fun hbel _=>?_)
 have z8:Int.toNat 8=8:=rfl;simp -implicitDefEqProofs only[c93,r93,go_sem,mks8,z8,g0,s0,List.length_cons,List.length_nil];refine Go.Ab.L.count 8 (fun i=>mkE 22 [(0,UN n),(3,.osl σ.length 8),(7,I 8),(8,I i)]) (fun i=>σ++[.row 1 (fillW n i)]) ?_ ?_ rfl rfl
 · intro i hi J hJ;have hl:=z8L n i (by omega)
   have d0:decide ((i:Int)<8)=true:=by simp;omega
   have w1:IntKind.i64.wrap (8*(i:Int))=((8*i:Nat):Int):=by rw[wrapN (by omega) (by omega)];push_cast;rfl
   have w2:IntKind.i64.wrap (56-((8*i:Nat):Int))=((56-8*i:Nat):Int):=by rw[wrapN (by omega) (by omega)];omega
   have h3:=shrN n (56-8*i) (by omega)
   rw[Int.toNat_natCast]at h3;have hlt:((i:Int)<((8:Nat):Int))=True:=eq_true (by omega)
   have hget:(fillW n i)[i]?=some Zb:=zde n i hi;have hin:=wrap_succ (i:=i) (by omega)
   have hset:(fillW n i).set i (.pl (.int .u8 ((n/2^(56-8*i)).toUInt8.toNat:Nat)))=fillW n (i+1):=zdd n i hi;simp -implicitDefEqProofs only[mkE,go_sem,d0,w1,w2,h3,zib,g0,s0,hl,hin,hset,hlt,hget];exact hJ
 · intro J;have hl:=z8L n 8 (by omega)
   have d0:decide (((8:Nat):Int)<8)=false:=by decide
   have e8:fillW n 8=byv (wrdB n):=by unfold fillW;rw[List.take_of_length_le (by rw[z03,z2j];omega)];simp
   simp -implicitDefEqProofs only[mkE,go_sem,d0,g0,s0,hl,e8];exact Fini.trim2 (σ':=σ) rfl rfl (Nat.le_refl _) (z2d _ _) hbel
def wN (b:Byt):Nat:=b.foldl (fun a c=>a*256+c.toNat) 0
theorem zdf (b:Byt) (c:UInt8):wN (b++[c])=wN b*256+c.toNat:=by simp[wN]
theorem zgj:∀(b:Byt) (a:Nat),b.foldl (fun a c=>a*256+c.toNat) a<(a+1)*2^(8*b.length)
 |[],a=>by simp
 |c::b,a=>by
  have ih:=zgj b (a*256+c.toNat);have hc:=c.toNat_lt;have e:8*(c::b).length=8+8*b.length:=by simp only[List.length_cons];omega
  rw[List.foldl_cons,e,Nat.pow_add,←Nat.mul_assoc];exact Nat.lt_of_lt_of_le ih (Nat.mul_le_mul_right _ (by omega))
theorem wN_lt (b:Byt):wN b<2^(8*b.length):=by have:=zgj b 0;simpa[wN] using this
theorem z3W:∀b:Byt,wordR b=if 8≤b.length then some (wN (b.take 8),b.drop 8) else none
 |a::b::c::d::e::f::g::h::t=>by
  rw[if_pos (by simp only[List.length_cons];omega)]
  simp[wordR,wN]
 |[]=>rfl
 |[_]=>rfl
 |[_,_]=>rfl
 |[_,_,_]=>rfl
 |[_,_,_,_]=>rfl
 |[_,_,_,_,_]=>rfl
 |[_,_,_,_,_,_]=>rfl
 |[_,_,_,_,_,_,_]=>rfl
theorem zgk (n c:Nat) (hc:c<256) (hn:n<2^56):IntKind.u64.wrap ((BitVec.ofInt 64 (IntKind.u64.wrap ((n:Int)*2^min 8 64)) ||| BitVec.ofInt 64 (c:Int)).toNat:Int)=((n*256+c:Nat):Int):=by
 have h:=zcY c n 8 (by omega) (by decide) (by omega)
 rw[BitVec.or_comm];exact h.trans (by congr 1;omega)
def wordV (b:Byt):AV:=match wordR b with
 |none=>.tup [UN 0,Bo false]
 |some p=>.tup [UN p.1,Bo true]
theorem z9Q (b:Byt) (hb:b.length≤100000):Ans Tryz.prog 158 [.sl 1 (byv b)] σ (wordV b) σ:=by
 refine Ans.of_run t158 ?_;unfold wordV;rw[z3W];by_cases h8:8≤b.length
 · have d0:decide ((b.length:Int)<8)=false:=by simp;omega
   have l8:(8:Int)≤(b.length:Nat):=by omega
   have lt8:(b.take 8).length=8:=by rw[List.length_take];omega
   have z8:Int.toNat 8=8:=rfl;have z0:Int.toNat 0=0:=rfl;rw[if_pos h8];simp only;simp -implicitDefEqProofs only[c158,r158,go_sem,z03,d0,l8,z8,z0,z0O,z0P,List.drop_zero,lt8];refine Go.Ab.L.count 8 (fun i=>mkE 24 [(4,UN (wN ((b.take 8).take i))),(11,.sl 1 (byv (b.take 8))),(12,I 8),(13,I i)]) (fun _=>σ) ?_ ?_ rfl rfl
   · intro i hi J hJ;have hx:=z4U (b.take 8) i (by omega)
     have hs:(b.take 8).take (i+1)=(b.take 8).take i++[(b.take 8)[i]]:=List.take_succ_eq_append_getElem (by omega)
     rw[hs,zdf]at hJ;have hl:=wN_lt ((b.take 8).take i);rw[List.length_take]at hl;have hl:wN ((b.take 8).take i)<2^56:=Nat.lt_of_lt_of_le hl (Nat.pow_le_pow_right (by decide) (by omega))
     have hc:=((b.take 8)[i]).toNat_lt;generalize (b.take 8)[i]=c at hx hJ hc;generalize wN ((b.take 8).take i)=w at hl hJ⊢;have hor:=zgk w c.toNat hc hl;have hwc:=z1T (n:=c.toNat) (by omega)
     have d1:decide ((i:Int)<8)=true:=by simp;omega
     have hlt:((i:Int)<((8:Nat):Int))=True:=eq_true (by omega)
     have hin:=wrap_succ (i:=i) (by omega)
     simp -implicitDefEqProofs only[mkE,go_sem,d1,z03,lt8,hlt,hx,bc,hwc,z8,hin]
     have key:∀v:Int,v=((w*256+c.toNat:Nat):Int)→J (mkE 24 [(4,.pl (.int .u64 v)),(11,.sl 1 (byv (b.take 8))),(12,I 8),(13,I ((i+1:Nat):Int))]) σ:=by
      rintro _ rfl;exact hJ
     exact key _ hor
   · intro J;have d1:decide (((8:Nat):Int)<8)=false:=by decide
     have e8:(b.take 8).take 8=b.take 8:=List.take_of_length_le (by omega)
     simp -implicitDefEqProofs only[mkE,go_sem,d1,e8];exact Fini.ret rfl
 · have d0:decide ((b.length:Int)<8)=true:=by simp;omega
   rw[if_neg h8];simp -implicitDefEqProofs only[c158,r158,go_sem,z03,d0];exact Fini.ret rfl
theorem z58 (u:Nat):Ans Tryz.prog 151 [UN u] σ (Fl u) σ:=ext_frombits.ok _ _ _ _ rfl
theorem zgl (u:Nat):Ans Tryz.prog 139 [UN u] σ (.tup [Fl (if okV u then u else 0),Bo (okV u)]) σ:=by
 have e:(((bitsF u:Nat):Int) != (u:Nat))= !okV u:=by
  unfold okV;rw[bne];congr 1
  rw[Bool.eq_iff_iff];simp only[beq_iff_eq,decide_eq_true_eq];omega
 refine Ans.of_run t139 ?_;simp -implicitDefEqProofs only[c139,r139,go_sem];refine CO.intro (z58 σ u) ?_;simp -implicitDefEqProofs only[go_sem];refine CO.intro (z3v σ u) ?_;simp -implicitDefEqProofs only[go_sem,e]
 cases h:okV u with
 |true =>
  simp -implicitDefEqProofs only[go_sem];exact Fini.ret rfl
 |false =>
  simp -implicitDefEqProofs only[go_sem];exact Fini.ret rfl
section
variable (p:Nat) (b:Byt) (q:Nat×Bool)
theorem zaK (h:σ[p]?=some (rob b q)) (hq:Inb b q) (hb:b.length≤50000) :
  Ans Tryz.prog 140 [.ptr p 0] σ (UN (runR wordR 0 b q).1) (σ.set p (rob b (runR wordR 0 b q).2)):=by
 refine Ans.of_run t140 ?_;simp -implicitDefEqProofs only[c140,r140,go_sem];refine CO.intro (z1e σ p b q h hq) ?_;simp -implicitDefEqProofs only[go_sem];refine CO.intro (z9Q σ (b.drop q.1) (by rw[List.length_drop];omega)) ?_
 obtain⟨a,bad⟩:=q;simp only at hq h⊢;have hq:a≤b.length:=hq;unfold wordV;have hw:=z3W (b.drop a);have ht:=z1f σ p b (a,bad) 8 (wordR (b.drop a)).isSome h (by simp only;omega)
 cases hg:wordR (b.drop a) with
 |none =>
  rw[hg]at ht;have e:took (a,bad) 8 (none:Option (Nat×Byt)).isSome=(a,true):=by cases bad<;>rfl
  rw[e]at ht;simp -implicitDefEqProofs only[go_sem];refine CO.intro ht ?_;simp -implicitDefEqProofs only[go_sem]
  cases bad with
  |true=>rw[z0Q];exact Fini.ret rfl
  |false=>rw[z1j hg];exact Fini.ret rfl
 |some x =>
  obtain⟨n,t⟩:=x;rw[hg]at ht hw
  have hl:t.length=b.length-(a+8)∧a+8≤b.length:=by
   split at hw
   · rename_i h8;simp only[Option.some.injEq,Prod.mk.injEq]at hw;rw[hw.2,List.length_drop,List.length_drop];rw[List.length_drop]at h8;omega
   · cases hw
  simp -implicitDefEqProofs only[go_sem];refine CO.intro ht ?_
  cases bad with
  |true =>
   have e:took (a,true) 8 (some (n,t)).isSome=(a,true):=rfl;rw[e,z0Q];simp -implicitDefEqProofs only[go_sem];exact Fini.ret rfl
  |false =>
   have e:took (a,false) 8 (some (n,t)).isSome=(b.length-t.length,false):=by
    simp only[took,Option.isSome_some,Bool.false_or,Bool.not_true,Bool.false_eq_true,if_false];congr 1;omega
   rw[e,z14 hg];simp -implicitDefEqProofs only[go_sem];exact Fini.ret rfl
theorem zaL (h:σ[p]?=some (rob b q)) (hq:Inb b q) (hb:b.length≤50000) :
  Ans Tryz.prog 114 [.ptr p 0] σ (Fl (valS b q).1) (σ.set p (rob b (valS b q).2)):=by
 refine Ans.of_run t114 ?_;simp -implicitDefEqProofs only[c114,r114,go_sem];refine CO.intro (zaK σ p b q h hq hb) ?_;have hi2:=z0l wordR 0 b q hq;unfold valS;generalize runR wordR 0 b q=w at hi2⊢;simp -implicitDefEqProofs only[go_sem];refine CO.intro (zgl _ w.1) ?_;simp -implicitDefEqProofs only[go_sem];have h2:=z0a (σ.set p (rob b w.2)) p b w.2 (okV w.1) (z69 h _) hi2 hb;rw[List.set_set]at h2;refine CO.intro h2 ?_;simp -implicitDefEqProofs only[go_sem];exact Fini.ret rfl
end
end
theorem z5p (l:List ByteArray) (s:ByteArray):txs (l++[s])=txs l++[Sx s]:=by simp[txs]
theorem z37:txs []=[]:=rfl
theorem zdg (l:List ByteArray) (f:AV→Bool) (h:∀x:ByteArray,f (Sx x)=true):(txs l).all f=true:=by
 simp only[txs,List.all_map,List.all_eq_true];exact fun x _=>h x
theorem z0u (n:Nat) (L:List ByteArray):Bel n (.sl 1 (txs L)):=by
 refine .sl 1 _ fun i hi=>?_
 have:∀y∈txs L,Bel n y:=by
  intro y hy;simp only[txs,List.mem_map]at hy;obtain⟨x,_,rfl⟩:=hy;exact .pl _
 exact this _ (List.getElem_mem hi)
def nm5:List ByteArray:=[⟨#[90,111,110,101,57]⟩,⟨#[95,120]⟩,⟨#[104,111,115,116]⟩,⟨#[106,111,98]⟩,⟨#[115,101,118]⟩]
def hasN (ns:List Int) (s:ByteArray):Bool:=ns.any fun k=>(nameOf k).toList==s.toList
def eqGo (ns:List Int):List ByteArray→List ByteArray→List ByteArray
 |[],e=>e
 |s::r,e=>if e.length<4 then eqGo ns r (if hasN (ns.take 9) s then e++[s] else e) else e
def z4h (ns:List Int):List ByteArray:=eqGo ns nm5 []
theorem g2 (σ:St) (x y z:Ob) (ex:St):(σ++x::y::z::ex)[σ.length+2]?=some z:=by rw[List.getElem?_append_right (by simp)];simp
theorem s2 (σ:St) (x y z u:Ob) (ex:St):(σ++x::y::z::ex).set (σ.length+2) u=σ++x::y::u::ex:=by rw[List.set_append_right _ _ (by simp)];simp
def rwC (σ:St) (e:List ByteArray):AV:=if e.isEmpty then .nils else .osl (σ.length+2) e.length
def rwS (e:List ByteArray):St:=if e.isEmpty then[] else[.row 1 (txs e)]
theorem z6f (σ:St) {e:List ByteArray} (h:e.isEmpty=false):rwC σ e=.osl (σ.length+2) e.length:=by unfold rwC;rw[h];rfl
theorem z6g {e:List ByteArray} (h:e.isEmpty=false):rwS e=[.row 1 (txs e)]:=by unfold rwS;rw[h];rfl
section
variable (σ:St)
theorem zh0 (ds es:List (Int×Int×Int)) (sel:Int) (lo hi:Nat) (ns:List Int) (b:Bool×Nat×Nat) (xs ys:List AV)
  (hS:∀σ,Ans Tryz.prog 79 [.sl 3 (ds.map dv),Bo true] σ (.sl 3 xs) σ) (hT:∀σ,Ans Tryz.prog 79 [.sl 3 (es.map dv),Bo true] σ (.sl 3 ys) σ)
  (hxs:∀n,Bel n (.sl 3 xs)) (hys:∀n,Bel n (.sl 3 ys)) (hb:∀σ,Ans Tryz.prog 80 [.agg [I sel,Fl lo,Fl hi]] σ (.agg [Bo b.1,Fl b.2.1,Fl b.2.2]) σ) :
  Ans Tryz.prog 22 [.agg [.sl 3 (ds.map dv),.sl 3 (es.map dv),I sel,Fl lo,Fl hi,.sl 1 (ns.map I)]] σ (.agg [.sl 3 xs,.sl 3 ys,Bo b.1,Fl b.2.1,Fl b.2.2,.sl 1 (txs (z4h ns))]) σ:=by
 have hbr:∀L,Bel σ.length (.agg [.sl 3 xs,.sl 3 ys,Bo b.1,Fl b.2.1,Fl b.2.2,.sl 1 (txs L)]):=fun L=>.agg _ fun i hi=>by
  have:∀y∈([.sl 3 xs,.sl 3 ys,Bo b.1,Fl b.2.1,Fl b.2.2,.sl 1 (txs L)]:List AV),Bel σ.length y:=by
   intro y hy;simp only[List.mem_cons,List.not_mem_nil,or_false]at hy;rcases hy with rfl|rfl|rfl|rfl|rfl|rfl
   · exact hxs _
   · exact hys _
   · exact .pl _
   · exact .pl _
   · exact .pl _
   · exact z0u _ L
  exact this _ (List.getElem_mem hi)
 refine Ans.of_run' t22 (fun hbel _=>?_)
 have hbel':(∀o∈σ,BelO σ.length o)=True:=eq_true hbel;simp -implicitDefEqProofs only[c22,r22,go_sem,g0,s0,List.append_assoc,List.length_append,z00,List.take_left,hbel',Nat.le_add_right]
 first|refine CD.intro (hS _) ?_|refine CS.intro hS ?_
 simp -implicitDefEqProofs only[go_sem,g0,s0,z00]
 first|refine CD.intro (hT _) ?_|refine CS.intro hT ?_
 simp -implicitDefEqProofs only[go_sem,g0,s0,z00]
 first|refine CD.intro (hb _) ?_|refine CS.intro hb ?_
 simp -implicitDefEqProofs only[go_sem,g0,s0,z00];obtain⟨b1,b2,b3⟩:=b;simp only;generalize hres:z4h ns=res;clear hS hT hb;generalize hD:AV.sl 3 (ds.map dv)=D1;generalize hE:AV.sl 3 (es.map dv)=D2;have hmap:∀i (h:i<ns.length),(ns.map I)[i]?=some (I ns[i]):=fun i h=>by simp[h]
 have hml:(ns.map I).length=ns.length:=by simp
 generalize ns.map I=nsI at hmap hml⊢
 refine Go.Ab.L.intro (α:={ x:Nat×List ByteArray // x.1≤5∧x.2.length≤x.1∧eqGo ns (nm5.drop x.1) x.2=res }) (fun x=>5-x.1.1)
  (fun x=>mkE 56 [(1,.rp [D1,D2,I sel,Fl lo,Fl hi,.sl 1 nsI]),(2,.ptr σ.length 0),(3,.ptr (σ.length+1) 0),(4,I x.1.1)])
  (fun x=>σ++[.box [.nils,.nils,Bo false,Fl 0,Fl 0,.nils]]++[.box [AV.sl 3 xs,AV.sl 3 ys,Bo b1,Fl b2,Fl b3,rwC σ x.1.2]]++rwS x.1.2)
  (fun x J hJ=>?_) ⟨(0,[]),Nat.zero_le _,Nat.zero_le _,hres⟩ (by simp[mkE]) (by simp[rwC,rwS])
 obtain⟨⟨n,e⟩,hn,he,hg⟩:=x;simp only at hn he hg hJ⊢
 have hJ':∀m e',n<m→m≤5→e'.length≤m→eqGo ns (nm5.drop m) e'=res→J (mkE 56 [(1,.rp [D1,D2,I sel,Fl lo,Fl hi,.sl 1 nsI]),(2,.ptr σ.length 0),(3,.ptr (σ.length+1) 0),(4,I m)]) (σ++[.box [.nils,.nils,Bo false,Fl 0,Fl 0,.nils]]++[.box [AV.sl 3 xs,AV.sl 3 ys,Bo b1,Fl b2,Fl b3,rwC σ e']]++rwS e') :=
  fun m e' h1 h2 h3 h4=>hJ ⟨(m,e'),h2,h3,h4⟩ (by simp only;omega)
 clear hJ;have d4:decide (((e.length:Nat):Int)<4)=decide (e.length<4):=by rw[Bool.eq_iff_iff];simp only[decide_eq_true_eq];omega
 have d5:decide ((n:Int)<5)=decide (n<5):=by rw[Bool.eq_iff_iff];simp only[decide_eq_true_eq];omega
 have n21:(σ.length+2≠σ.length+1)=True:=eq_true (by omega)
 have n12:(σ.length+1≠σ.length+2)=True:=eq_true (by omega)
 have hfin:∀env (ex:St) z,env=z→resA env (σ++.box [.sl 3 xs,.sl 3 ys,Bo b1,Fl b2,Fl b3,.sl 1 (txs res)]::ex) [RV.cell 2 6 true]=some (.agg [.sl 3 xs,.sl 3 ys,Bo b1,Fl b2,Fl b3,.sl 1 (txs res)]) →
   (∀o∈σ,BelO σ.length o)→Fini σ.length [RV.cell 2 6 true] (.agg [.sl 3 xs,.sl 3 ys,Bo b1,Fl b2,Fl b3,.sl 1 (txs res)]) σ .ret z (σ++.box [.sl 3 xs,.sl 3 ys,Bo b1,Fl b2,Fl b3,.sl 1 (txs res)]::ex):=by
  intro env ex z hz h1 h2;subst hz;exact Fini.trim2 (σ':=σ) h1 rfl (Nat.le_refl _) (hbr res) h2
 by_cases h5:n<5
 · obtain⟨s,hs1,hs2⟩:∃s,nm5.drop n=s::nm5.drop (n+1)∧(List.drop n [Sx ⟨#[90,111,110,101,57]⟩,Sx ⟨#[95,120]⟩,Sx ⟨#[104,111,115,116]⟩,Sx ⟨#[106,111,98]⟩,Sx ⟨#[115,101,118]⟩]).head?=some (Sx s):=by
    have:n=0∨n=1∨n=2∨n=3∨n=4:=by omega
    rcases this with rfl|rfl|rfl|rfl|rfl<;>exact⟨_,rfl,rfl⟩
   have h5':decide (n<5)=true:=by simpa using h5
   have k1:((n:Int)<5)=True:=eq_true (by omega)
   have k2:(n+1≤5)=True:=eq_true (by omega)
   have hws:IntKind.i64.wrap ((n:Int)+1)=((n+1:Nat):Int):=by rw[wrapN (by omega) (by omega)];rfl
   rw[hs1,eqGo]at hg;have q1:(e.length+1≤4294967296)=True:=eq_true (by omega)
   have q3:(1≤2^32)=True:=eq_true (by decide)
   have q2:(e.length+1≤2^32)=True:=eq_true (by omega)
   by_cases h4:e.length<4
   · have h4':decide (e.length<4)=true:=by simpa using h4
     rw[if_pos h4]at hg;generalize hfd:hasN (ns.take 9) s=fd at hg;have hle:(if fd then e++[s] else e).length≤n+1:=by cases fd<;>simp<;>omega
     have hJ2:=hJ' (n+1) (if fd then e++[s] else e) (by omega) (by omega) hle hg
     clear hJ'
     cases hem:e.isEmpty with
     |true =>
      have hee:e=[]:=List.isEmpty_iff.1 hem;subst hee;have hr0:rwC σ []=.nils:=rfl;have hq0:rwS []=[]:=rfl;rw[hr0,hq0];simp -implicitDefEqProofs only[mkE,go_sem,g0,s0,g1,s1,g2,s2,List.append_assoc,List.length_append,List.length_cons,List.length_nil,Nat.add_assoc,Int.reduceToNat,Int.cast_ofNat_Int,Int.toNat_zero,d5,h5',k1,k2,Nat.mul_one,hs2]
      refine Go.Ab.L.intro (α:={ i:Nat // i≤ns.length∧i≤9∧hasN ((ns.take 9).drop i) s=fd }) (fun x=>ns.length-x.1)
       (fun x=>mkE 56 [(1,.rp [D1,D2,I sel,Fl lo,Fl hi,.sl 1 nsI]),(2,.ptr σ.length 0),(3,.ptr (σ.length+1) 0),(4,I n),(5,Sx s),(6,I x.1)])
       (fun x=>σ++[.box [.nils,.nils,Bo false,Fl 0,Fl 0,.nils],.box [.sl 3 xs,.sl 3 ys,Bo b1,Fl b2,Fl b3,.nils]])
       (fun x J2 hJ3=>?_) ⟨0,Nat.zero_le _,Nat.zero_le _,hfd⟩ rfl rfl
      obtain⟨i,hi,hi9,hf⟩:=x;simp only at hi hi9 hf hJ3⊢
      have hno:(¬i<ns.length∨¬i<9)→fd=false:=fun h=>by
       rw[List.drop_of_length_le (by rw[List.length_take];omega)]at hf
       exact hf.symm
      have e9:decide ((i:Int)<9)=decide (i<9):=by rw[Bool.eq_iff_iff];simp only[decide_eq_true_eq];omega
      by_cases hlt:i<ns.length
      · by_cases h9:i<9
        · have h9':decide (i<9)=true:=by simpa using h9
          have hgx:=hmap i hlt;have hwi:IntKind.i64.wrap ((i:Int)+1)=((i+1:Nat):Int):=by rw[wrapN (by omega) (by omega)];rfl
          have hdr:(ns.take 9).drop i=ns[i]::(ns.take 9).drop (i+1):=by
           rw[List.drop_eq_getElem_cons (by rw[List.length_take];omega),List.getElem_take]
          rw[hdr,hasN,List.any_cons]at hf;have hJ4:=fun h=>hJ3 ⟨i+1,hlt,h9,h⟩ (by simp only;omega)
          simp only at hJ4;clear hJ3;simp -implicitDefEqProofs only[mkE,go_sem,g0,s0,g1,s1,g2,s2,List.append_assoc,List.length_append,List.length_cons,List.length_nil,Nat.add_assoc,Int.reduceToNat,Int.cast_ofNat_Int,Int.toNat_zero,hml,z0f hlt,dec_lt hlt,e9,h9',hgx];refine CO.intro (z5j _ _) ?_;simp -implicitDefEqProofs only[go_sem,g0,s0,g1,s1,g2,s2,List.append_assoc,List.length_append,List.length_cons,List.length_nil,Nat.add_assoc,Int.reduceToNat,Int.cast_ofNat_Int,Int.toNat_zero]
          cases hq:((nameOf ns[i]).toList==s.toList) with
          |true =>
           have hfd1:fd=true:=by rw[hq,Bool.true_or]at hf;exact hf.symm
           rw[hfd1,if_pos rfl,z6f σ (by simp),z6g (by simp),z5p,List.length_append]at hJ2
           simp -implicitDefEqProofs only[go_sem,g0,s0,g1,s1,g2,s2,List.append_assoc,List.length_append,List.length_cons,List.length_nil,Nat.add_assoc,Int.reduceToNat,Int.cast_ofNat_Int,Int.toNat_zero,hq,z0A,zdg,hws,q1,q2,q3,z37];simp only[List.append_assoc,List.cons_append,List.nil_append,List.append_nil,List.length_cons,List.length_nil,Nat.zero_add,z37]at hJ2;exact hJ2
          |false =>
           rw[hq,Bool.false_or]at hf;simp -implicitDefEqProofs only[go_sem,g0,s0,g1,s1,g2,s2,List.append_assoc,List.length_append,List.length_cons,List.length_nil,Nat.add_assoc,Int.reduceToNat,Int.cast_ofNat_Int,Int.toNat_zero,hq,hwi];exact hJ4 hf
        · have h9':decide (i<9)=false:=by simpa using h9
          have hff:=hno (Or.inr h9);rw[hff,if_neg Bool.false_ne_true]at hJ2;rw[hr0,hq0]at hJ2;simp -implicitDefEqProofs only[mkE,go_sem,g0,s0,g1,s1,g2,s2,List.append_assoc,List.length_append,List.length_cons,List.length_nil,Nat.add_assoc,Int.reduceToNat,Int.cast_ofNat_Int,Int.toNat_zero,hml,z0f hlt,dec_lt hlt,e9,h9',hws];simp only[List.append_assoc,List.cons_append,List.nil_append,List.append_nil,List.length_cons,List.length_nil,Nat.zero_add,z37]at hJ2;exact hJ2
      · have hff:=hno (Or.inl hlt);rw[hff,if_neg Bool.false_ne_true]at hJ2;rw[hr0,hq0]at hJ2;simp -implicitDefEqProofs only[mkE,go_sem,g0,s0,g1,s1,g2,s2,List.append_assoc,List.length_append,List.length_cons,List.length_nil,Nat.add_assoc,Int.reduceToNat,Int.cast_ofNat_Int,Int.toNat_zero,hml,z30 hlt,z2D hlt,hws];simp only[List.append_assoc,List.cons_append,List.nil_append,List.append_nil,List.length_cons,List.length_nil,Nat.zero_add,z37]at hJ2;exact hJ2
     |false =>
      rw[z6f σ hem,z6g hem];simp -implicitDefEqProofs only[mkE,go_sem,g0,s0,g1,s1,g2,s2,List.append_assoc,List.length_append,List.length_cons,List.length_nil,Nat.add_assoc,Int.reduceToNat,Int.cast_ofNat_Int,Int.toNat_zero,d4,d5,h4',h5',k1,k2,Nat.mul_one,hs2,z0A]
      refine Go.Ab.L.intro (α:={ i:Nat // i≤ns.length∧i≤9∧hasN ((ns.take 9).drop i) s=fd }) (fun x=>ns.length-x.1)
       (fun x=>mkE 56 [(1,.rp [D1,D2,I sel,Fl lo,Fl hi,.sl 1 nsI]),(2,.ptr σ.length 0),(3,.ptr (σ.length+1) 0),(4,I n),(5,Sx s),(6,I x.1)])
       (fun x=>σ++[.box [.nils,.nils,Bo false,Fl 0,Fl 0,.nils],.box [.sl 3 xs,.sl 3 ys,Bo b1,Fl b2,Fl b3,.osl (σ.length+2) e.length],.row 1 (txs e)])
       (fun x J2 hJ3=>?_) ⟨0,Nat.zero_le _,Nat.zero_le _,hfd⟩ rfl rfl
      obtain⟨i,hi,hi9,hf⟩:=x;simp only at hi hi9 hf hJ3⊢
      have hno:(¬i<ns.length∨¬i<9)→fd=false:=fun h=>by
       rw[List.drop_of_length_le (by rw[List.length_take];omega)]at hf
       exact hf.symm
      have e9:decide ((i:Int)<9)=decide (i<9):=by rw[Bool.eq_iff_iff];simp only[decide_eq_true_eq];omega
      by_cases hlt:i<ns.length
      · by_cases h9:i<9
        · have h9':decide (i<9)=true:=by simpa using h9
          have hgx:=hmap i hlt;have hwi:IntKind.i64.wrap ((i:Int)+1)=((i+1:Nat):Int):=by rw[wrapN (by omega) (by omega)];rfl
          have hdr:(ns.take 9).drop i=ns[i]::(ns.take 9).drop (i+1):=by
           rw[List.drop_eq_getElem_cons (by rw[List.length_take];omega),List.getElem_take]
          rw[hdr,hasN,List.any_cons]at hf;have hJ4:=fun h=>hJ3 ⟨i+1,hlt,h9,h⟩ (by simp only;omega)
          simp only at hJ4;clear hJ3;simp -implicitDefEqProofs only[mkE,go_sem,g0,s0,g1,s1,g2,s2,List.append_assoc,List.length_append,List.length_cons,List.length_nil,Nat.add_assoc,Int.reduceToNat,Int.cast_ofNat_Int,Int.toNat_zero,hml,z0f hlt,dec_lt hlt,e9,h9',hgx];refine CO.intro (z5j _ _) ?_;simp -implicitDefEqProofs only[go_sem,g0,s0,g1,s1,g2,s2,List.append_assoc,List.length_append,List.length_cons,List.length_nil,Nat.add_assoc,Int.reduceToNat,Int.cast_ofNat_Int,Int.toNat_zero]
          cases hq:((nameOf ns[i]).toList==s.toList) with
          |true =>
           have hfd1:fd=true:=by rw[hq,Bool.true_or]at hf;exact hf.symm
           rw[hfd1,if_pos rfl,z6f σ (by simp),z6g (by simp),z5p,List.length_append]at hJ2
           simp -implicitDefEqProofs only[go_sem,g0,s0,g1,s1,g2,s2,List.append_assoc,List.length_append,List.length_cons,List.length_nil,Nat.add_assoc,Int.reduceToNat,Int.cast_ofNat_Int,Int.toNat_zero,hq,z0A,zdg,hws,q1,q2,q3,z37];simp only[List.append_assoc,List.cons_append,List.nil_append,List.append_nil,List.length_cons,List.length_nil,Nat.zero_add,z37]at hJ2;exact hJ2
          |false =>
           rw[hq,Bool.false_or]at hf;simp -implicitDefEqProofs only[go_sem,g0,s0,g1,s1,g2,s2,List.append_assoc,List.length_append,List.length_cons,List.length_nil,Nat.add_assoc,Int.reduceToNat,Int.cast_ofNat_Int,Int.toNat_zero,hq,hwi];exact hJ4 hf
        · have h9':decide (i<9)=false:=by simpa using h9
          have hff:=hno (Or.inr h9);rw[hff,if_neg Bool.false_ne_true]at hJ2;rw[z6f σ hem,z6g hem]at hJ2;simp -implicitDefEqProofs only[mkE,go_sem,g0,s0,g1,s1,g2,s2,List.append_assoc,List.length_append,List.length_cons,List.length_nil,Nat.add_assoc,Int.reduceToNat,Int.cast_ofNat_Int,Int.toNat_zero,hml,z0f hlt,dec_lt hlt,e9,h9',hws];simp only[List.append_assoc,List.cons_append,List.nil_append,List.append_nil,List.length_cons,List.length_nil,Nat.zero_add,z37]at hJ2;exact hJ2
      · have hff:=hno (Or.inl hlt);rw[hff,if_neg Bool.false_ne_true]at hJ2;rw[z6f σ hem,z6g hem]at hJ2;simp -implicitDefEqProofs only[mkE,go_sem,g0,s0,g1,s1,g2,s2,List.append_assoc,List.length_append,List.length_cons,List.length_nil,Nat.add_assoc,Int.reduceToNat,Int.cast_ofNat_Int,Int.toNat_zero,hml,z30 hlt,z2D hlt,hws];simp only[List.append_assoc,List.cons_append,List.nil_append,List.append_nil,List.length_cons,List.length_nil,Nat.zero_add,z37]at hJ2;exact hJ2
   · have h4':decide (e.length<4)=false:=by simpa using h4
     rw[if_neg h4]at hg;subst hg;have hem:e.isEmpty=false:=by cases e with|nil=>simp at h4|cons _ _=>rfl
     rw[z6f σ hem,z6g hem];simp -implicitDefEqProofs only[mkE,go_sem,g0,s0,g1,s1,g2,s2,List.append_assoc,List.length_append,List.length_cons,List.length_nil,Nat.add_assoc,Int.reduceToNat,Int.cast_ofNat_Int,Int.toNat_zero,d4,d5,h4',h5',z0A,n21,n12];exact hfin _ _ _ rfl (by simp -implicitDefEqProofs only[go_sem,resA,z02,rvA,oneOf,g0]) hbel
 · have:n=5:=by omega
   subst this;rw[show nm5.drop 5=[] from rfl,eqGo]at hg
   subst hg;have h5':decide ((5:Nat)<5)=false:=by decide
   cases hem:e.isEmpty with
   |true =>
    have hee:e=[]:=List.isEmpty_iff.1 hem;subst hee;have hr0:rwC σ []=.nils:=rfl;have hq0:rwS []=[]:=rfl;rw[hr0,hq0];simp -implicitDefEqProofs only[mkE,go_sem,g0,s0,g1,s1,g2,s2,List.append_assoc,List.length_append,List.length_cons,List.length_nil,Nat.add_assoc,Int.reduceToNat,Int.cast_ofNat_Int,Int.toNat_zero,d5,h5',n21,n12];exact hfin _ _ _ rfl (by simp -implicitDefEqProofs only[go_sem,resA,z02,rvA,oneOf,g0]) hbel
   |false =>
    rw[z6f σ hem,z6g hem];simp -implicitDefEqProofs only[mkE,go_sem,g0,s0,g1,s1,g2,s2,List.append_assoc,List.length_append,List.length_cons,List.length_nil,Nat.add_assoc,Int.reduceToNat,Int.cast_ofNat_Int,Int.toNat_zero,d5,h5',z0A,n21,n12];exact hfin _ _ _ rfl (by simp -implicitDefEqProofs only[go_sem,resA,z02,rvA,oneOf,g0]) hbel
end
end Go.Proofs.YtmkmhhjkdaklbaaGreat
