/- Records: whether one may be, and its bytes, by the program and by the document. No condition. -/
import Derived.Test.YteakobbdgehlgaaGreatDoorKRd6D
import Derived.Test.YteakobbdgehlgaaGreatDoorKRd4D
import Derived.Test.YteakobbdgehlgaaGreatDoorKShA1D
import Derived.Test.YteakobbdgehlgaaGreatDoorKShB1D
import Derived.Test.YteakobbdgehlgaaGreatDoorKRq3D
import Derived.Test.YteakobbdgehlgaaGreatDoorKRd3D
import Derived.Test.YteakobbdgehlgaaGreatDoorKXMr2D
import Derived.Test.YteakobbdgehlgaaGreatDoorKMRunD
import Derived.Test.YteakobbdgehlgaaGreatDoorAbGloD
import Derived.Test.YteakobbdgehlgaaGreatDoorAbArgD
set_option linter.unusedSimpArgs false
set_option linter.unusedVariables false
set_option linter.unusedSectionVars false
namespace Go.Proofs.YteakobbdgehlgaaGreatDoor
open Go Go.Ab Go.Cod
set_option maxRecDepth 100000
structure RcM where
 ix:Int
 ck:Nat
 bd:Byt
 cd:Int
def rcC (r:RcM):List AV:=[I r.ix,UN r.ck,.sl 1 (byv r.bd),I r.cd]
def rcV (r:RcM):AV:=.agg (rcC r)
def cdB (c:Int):Bool:=c==0||(decide (4≤c)&&decide (c≤10))
def bdB (b:Byt):Bool:=(wholeO (bodyR b)).isSome
def rcIs (r:RcM):Bool:=decide (0≤r.ix)&&(decide (r.ix≤2147483647)&&(decide ((r.ck:Int)≤1099511627776)&&(bdB r.bd&&cdB r.cd)))
theorem z5F (o:Option ReM):∃x,z0Y o=.tup [reV x,Bo o.isSome]:=by
 cases o with
 |none=>exact⟨noRe,rfl⟩
 |some x=>exact⟨x,rfl⟩
theorem z6T {r:RcM} (h:rcIs r=true):0≤r.ix∧r.ix≤2147483647∧r.ck≤1099511627776∧0≤r.cd∧r.cd≤10:=by
 unfold rcIs cdB at h;simp only[Bool.and_eq_true,Bool.or_eq_true,decide_eq_true_eq,beq_iff_eq]at h;omega
section
variable (σ:St)
theorem z9s (r:RcM) (hb:r.bd.length≤50000):Ans Tryz.prog 45 [rcV r] σ (Bo (rcIs r)) σ:=by
 obtain⟨ix,ck,bd,cd⟩:=r;have k1:=z7K σ bd hb;obtain⟨x,hx⟩:=z5F (wholeO (bodyR bd));rw[hx]at k1;unfold rcV rcC rcIs bdB cdB;refine Ans.of_run t45 ?_;unfold reV reC at k1;generalize (wholeO (bodyR bd)).isSome=ok at k1⊢;simp only
 cases h0:decide (0≤ix) with
 |false =>
  have e0:=lt_of h0;simp -implicitDefEqProofs only[c45,r45,go_sem,e0];exact Fini.ret rfl
 |true =>
 have e0:=lt_of h0
 cases h1:decide (ix≤2147483647) with
 |false =>
  have e1:=gt_of h1;simp -implicitDefEqProofs only[c45,r45,go_sem,e0,e1];exact Fini.ret rfl
 |true =>
 have e1:=gt_of h1
 cases h2:decide ((ck:Int)≤1099511627776) with
 |false =>
  have e2:=gt_of h2;simp -implicitDefEqProofs only[c45,r45,go_sem,e0,e1,e2];exact Fini.ret rfl
 |true =>
 have e2:=gt_of h2;simp -implicitDefEqProofs only[c45,r45,go_sem,e0,e1,e2];refine CO.intro k1 ?_
 cases ok with
 |false =>
  simp -implicitDefEqProofs only[go_sem];exact Fini.ret rfl
 |true =>
 cases h3:(cd==0) with
 |true =>
  simp -implicitDefEqProofs only[go_sem,h3];exact Fini.ret rfl
 |false =>
 cases h4:decide (4≤cd) with
 |false =>
  simp -implicitDefEqProofs only[go_sem,h3,h4];exact Fini.ret rfl
 |true =>
 simp -implicitDefEqProofs only[go_sem,h3,h4];exact Fini.ret rfl
theorem z7N (r:RcM) (hb:r.bd.length≤50000):Ans Tryz.prog 48 [rcV r] σ (Bo (rcIs r)) σ:=by
 obtain⟨ix,ck,bd,cd⟩:=r;have k1:=z6S σ bd hb;obtain⟨x,hx⟩:=z5F (wholeO (bodyR bd));rw[hx]at k1;unfold rcV rcC rcIs bdB cdB;refine Ans.of_run t48 ?_;unfold reV reC at k1;generalize (wholeO (bodyR bd)).isSome=ok at k1⊢;simp only;simp -implicitDefEqProofs only[c48,r48,go_sem];refine CO.intro k1 ?_
 have e1:(decide (0≤ix)&&(decide (ix≤2147483647)&&(decide ((ck:Int)≤1099511627776)&&(ok&&(cd==0||decide (4≤cd)&&decide (cd≤10))))))=(ok&&(decide (0≤ix)&&(decide (ix≤2147483647)&&(decide ((ck:Int)≤1099511627776)&&(cd==0||decide (4≤cd)&&decide (cd≤10)))))):=by
  cases ok<;>simp
 rw[e1]
 cases ok with
 |false =>
  simp -implicitDefEqProofs only[go_sem];exact Fini.ret rfl
 |true =>
 cases h0:decide (0≤ix) with
 |false =>
  simp -implicitDefEqProofs only[go_sem,h0];exact Fini.ret rfl
 |true =>
 cases h1:decide (ix≤2147483647) with
 |false =>
  simp -implicitDefEqProofs only[go_sem,h0,h1];exact Fini.ret rfl
 |true =>
 cases h2:decide ((ck:Int)≤1099511627776) with
 |false =>
  simp -implicitDefEqProofs only[go_sem,h0,h1,h2];exact Fini.ret rfl
 |true =>
 cases h3:(cd==0) with
 |true =>
  simp -implicitDefEqProofs only[go_sem,h0,h1,h2,h3];exact Fini.ret rfl
 |false =>
 cases h4:decide (4≤cd) with
 |false =>
  simp -implicitDefEqProofs only[go_sem,h0,h1,h2,h3,h4];exact Fini.ret rfl
 |true =>
 simp -implicitDefEqProofs only[go_sem,h0,h1,h2,h3,h4];exact Fini.ret rfl
end
def cdC (c:Int):UInt8:=c.toNat.toUInt8
def putRc (r:RcM):Byt:=putN r.ix.toNat++(putN r.ck++(txtB ⟨r.bd.toArray⟩++[cdC r.cd]))
def z0X (r:RcM):Byt:=if rcIs r then putRc r else[]
theorem z9t {c:Int} (h:0≤c) (h1:c≤10):IntKind.u8.wrap c=(((cdC c).toNat:Nat):Int):=by
 obtain⟨n,rfl⟩:=Int.eq_ofNat_of_zero_le h;have:n<11:=by omega
 match n,this with
 |0,_|1,_|2,_|3,_|4,_|5,_|6,_|7,_|8,_|9,_|10,_=>rfl
theorem z20 (b:Byt):(⟨b.toArray⟩:ByteArray).size=b.length:=by simp[ByteArray.size]
theorem z9u (b:Byt):(⟨b.toArray⟩:ByteArray).data.toList=b:=by simp
section
variable (σ:St)
theorem z8p (r:RcM) (hb:r.bd.length≤50000):Ans Tryz.prog 30 [rcV r] σ (.sl 1 (byv (z0X r))) σ:=by
 have hi:=fun s=>z9s s r hb
 unfold z0X
 cases hR:rcIs r with
 |false =>
  have:Ans Tryz.prog 30 [rcV r] σ .nils σ:=by
   refine Ans.of_run t30 ?_;unfold rcV rcC at hi⊢;simp -implicitDefEqProofs only[c30,r30,go_sem];refine CO.intro (hi _) ?_;rw[hR];simp -implicitDefEqProofs only[go_sem];exact Fini.ret rfl
  exact this.subR (.nils 1)
 |true =>
  obtain⟨a1,a2,a3,a4,a5⟩:=z6T hR;obtain⟨ix,ck,bd,cd⟩:=r;simp only at a1 a2 a3 a4 a5 hb;have n1:=fun s=>ze9 s ix.toNat (by omega)
  have n2:=fun s=>ze9 s ck (by omega)
  have n3:=fun s=>z89 s ⟨bd.toArray⟩ (by rw[z20];omega)
  have w1:IntKind.u64.wrap ix=((ix.toNat:Nat):Int):=by
   rw[show ix=((ix.toNat:Nat):Int) from by omega,z1u (by omega)];rfl
  have w2:=z9t a4 a5;have l1:=z0J (n:=ix.toNat) (by omega)
  have l2:=z0J (n:=ck) (by omega)
  have l3:(txtB ⟨bd.toArray⟩).length≤60000:=by
   have:=z0J (n:=bd.length) (by omega)
   unfold txtB;rw[List.length_append,z9u,z20];omega
  have hc:=fun s=>zbq s [putN ix.toNat,putN ck,txtB ⟨bd.toArray⟩,[cdC cd]] (by simp) (by simp;omega) (by
   simp only[List.flatten_cons,List.flatten_nil,List.append_nil,List.length_append,List.length_singleton];omega)
  have e3:([putN ix.toNat,putN ck,txtB ⟨bd.toArray⟩,[cdC cd]]:List Byt).flatten=putRc ⟨ix,ck,bd,cd⟩:=by simp[putRc]
  rw[e3]at hc;refine Ans.of_run t30 ?_;unfold rcV rcC at hi⊢;simp -implicitDefEqProofs only[c30,r30,go_sem];refine CO.intro (hi _) ?_;rw[hR];simp -implicitDefEqProofs only[go_sem,w1];refine CD.intro (n1 _) ?_;simp -implicitDefEqProofs only[go_sem];refine CD.intro (n2 _) ?_;simp -implicitDefEqProofs only[go_sem,z1N,bc,z1W,z1R,AV.isStr];refine CD.intro (n3 _) ?_;simp -implicitDefEqProofs only[go_sem,w2];refine CD.intro (hc _) ?_;simp -implicitDefEqProofs only[go_sem];exact Fini.ret rfl
theorem z4D (r:RcM) (hb:r.bd.length≤50000):Ans Tryz.prog 54 [rcV r] σ (.sl 1 (byv (z0X r))) σ:=by
 have hi:=fun s=>z7N s r hb
 unfold z0X
 cases hR:rcIs r with
 |false =>
  have:Ans Tryz.prog 54 [rcV r] σ .nils σ:=by
   refine Ans.of_run t54 ?_;unfold rcV rcC at hi⊢;simp -implicitDefEqProofs only[c54,r54,go_sem];refine CO.intro (hi _) ?_;rw[hR];simp -implicitDefEqProofs only[go_sem];exact Fini.ret rfl
  exact this.subR (.nils 1)
 |true =>
  obtain⟨a1,a2,a3,a4,a5⟩:=z6T hR;obtain⟨ix,ck,bd,cd⟩:=r;simp only at a1 a2 a3 a4 a5 hb;have n1:=fun s=>z4P s ix.toNat (by omega)
  have n2:=fun s=>zeX s ck (by omega)
  have n3:=fun s=>z4w s ⟨bd.toArray⟩ (by rw[z20];omega)
  have w1:IntKind.u64.wrap ix=((ix.toNat:Nat):Int):=by
   rw[show ix=((ix.toNat:Nat):Int) from by omega,z1u (by omega)];rfl
  have w2:=z9t a4 a5;have l1:=z0J (n:=ix.toNat) (by omega)
  have l2:=z0J (n:=ck) (by omega)
  have l3:(txtB ⟨bd.toArray⟩).length≤60000:=by
   have:=z0J (n:=bd.length) (by omega)
   unfold txtB;rw[List.length_append,z9u,z20];omega
  have q1:(putN ix.toNat).length+(putN ck).length≤4294967296:=by omega
  have q2:(putN ix.toNat).length+(putN ck).length+(txtB ⟨bd.toArray⟩).length≤4294967296:=by omega
  have q3:(putN ix.toNat).length+(putN ck).length+(txtB ⟨bd.toArray⟩).length+1≤4294967296:=by omega
  have e3:byv (putN ix.toNat)++byv (putN ck)++byv (txtB ⟨bd.toArray⟩)++[bc (cdC cd)]=byv (putRc ⟨ix,ck,bd,cd⟩):=by
   unfold putRc;simp only[z1c,List.append_assoc];rfl
  have hbb:=fun n=>z1P n (putRc ⟨ix,ck,bd,cd⟩)
  rw[if_pos rfl];simp only[←e3]at hbb⊢;refine Ans.of_run' t54 (fun hbel _=>?_)
  unfold rcV rcC at hi⊢;simp -implicitDefEqProofs only[c54,r54,go_sem];refine CO.intro (hi _) ?_;rw[hR];simp -implicitDefEqProofs only[go_sem,w1];refine CD.intro (n1 _) ?_;simp -implicitDefEqProofs only[go_sem];refine CD.intro (n2 _) ?_;simp -implicitDefEqProofs only[go_sem,g0,s0,z02,z1N,bc,q1,List.length_append,z1W,z1R,AV.isStr];refine CD.intro (n3 _) ?_;simp -implicitDefEqProofs only[go_sem,w2,g0,s0,z02,z1N,bc,q1,q2,q3,List.length_append];exact Fini.trim2 (σ':=σ) (ex:=[_]) rfl rfl (Nat.le_refl _) (hbb _) hbel
end
def mkRc (p:Nat×Nat×ByteArray×UInt8):RcM:=⟨(p.1:Nat),p.2.1,p.2.2.1.data.toList,(p.2.2.2.toNat:Nat)⟩
def rcR (n:Nat):Rd RcM:=z0U (seqR (numR 2147483647) (seqR (numR 1099511627776) (seqR (textR n) byteR))) mkRc
def rcS (b:Byt):Nat×Bool→RcM×(Nat×Bool):=z1X (seqSt (runR (numR 2147483647) 0 b) (seqSt (runR (numR 1099511627776) 0 b) (seqSt (runR (textR b.length) ⟨#[]⟩ b) (runR byteR 0 b)))) mkRc
theorem zf9 (n:Nat):EndsR (rcR n):=z1p (z1w (ends_num _) (z1w (ends_num _) (z1w (z0I n) ends_byte))) _
theorem zdE (b:Byt):StepsR b (rcR b.length) (rcS b) :=
 z0W (z0u (z0h b _ _) (z0u (z0h b _ _) (z0u (z0h b _ _) (z0h b _ _) (z0I _)) (ends_num _)) (ends_num _)) _
def okRc (o:Option RcM):Option RcM:=o.bind fun r=>if rcIs r then some r else none
def rdRc (b:Byt):Option RcM:=okRc (wholeO (rcR b.length b))
def noRcV:AV:=.agg [I 0,UN 0,.nils,I 0]
def rcW (o:Option RcM):AV:=match o with
 |some x=>.tup [rcV x,Bo true]
 |none=>.tup [noRcV,Bo false]
theorem bel_rcV (n:Nat) (r:RcM):Bel n (rcV r):=.agg _ fun i hi=>by
 have:∀y∈rcC r,Bel n y:=by
  intro y hy;unfold rcC at hy;simp only[List.mem_cons,List.not_mem_nil,or_false]at hy;rcases hy with rfl|rfl|rfl|rfl
  all_goals first|exact .pl _|exact z1P _ _
 exact this _ (List.getElem_mem hi)
theorem z8q (n:Nat) (o:Option RcM):Bel n (rcW o):=by
 unfold rcW
 cases o with
 |some x=>exact z1k (bel_rcV _ _)
 |none =>
  refine z1k (.agg _ fun i hi=>?_)
  have:∀y∈([I 0,UN 0,.nils,I 0]:List AV),Bel n y:=by
   intro y hy;simp only[List.mem_cons,List.not_mem_nil,or_false]at hy;rcases hy with rfl|rfl|rfl|rfl
   all_goals first|exact .pl _|exact .nils
  exact this _ (List.getElem_mem hi)
theorem zfa {n:Nat} (hn:n<2^64) (b:Byt) (q:Nat×Bool):(runR (textR n) ⟨#[]⟩ b q).1.size≤n:=by
 unfold runR;split
 · exact Nat.zero_le _
 · split
   · exact Nat.zero_le _
   · rename_i p hp;exact((z0T hn).bwd _ p.1 p.2 hp).1
abbrev BzR:Ob:=.box [I 0,UN 0,.nils,I 0]
section
variable (σ:St)
theorem z6o (b:Byt) (hb:b.length≤50000):Ans Tryz.prog 61 [.sl 1 (byv b)] σ (rcW (rdRc b)) σ:=by
 have hbw:=z8q σ.length (rdRc b);unfold rdRc okRc at hbw⊢;rw[z4B (zdE b) (zf9 _)]at hbw⊢
 have hS:rcS b (0,false)=(mkRc ((runR (numR 2147483647) 0 b (0,false)).1,(runR (numR 1099511627776) 0 b (runR (numR 2147483647) 0 b (0,false)).2).1,
   (runR (textR b.length) ⟨#[]⟩ b (runR (numR 1099511627776) 0 b (runR (numR 2147483647) 0 b (0,false)).2).2).1,
   (runR byteR 0 b (runR (textR b.length) ⟨#[]⟩ b (runR (numR 1099511627776) 0 b (runR (numR 2147483647) 0 b (0,false)).2).2).2).1),
   (runR byteR 0 b (runR (textR b.length) ⟨#[]⟩ b (runR (numR 1099511627776) 0 b (runR (numR 2147483647) 0 b (0,false)).2).2).2).2):=rfl
 rw[hS]at hbw⊢;have k1:=z22 (σ++[BzR,rob b (0,false)]) (σ.length+1) b (0,false) 2147483647 (by decide) (g1 _ _ _ _) (Inb0 b) hb
 have i1:=z0f (numR 2147483647) 0 b (0,false) (Inb0 b);have le1:=z2x (most:=2147483647) b (0,false);rw[s1]at k1;generalize runR (numR 2147483647) 0 b (0,false)=w at k1 i1 le1 hbw⊢;obtain⟨u,q1⟩:=w;simp only at k1 i1 le1 hbw⊢;have k2:=z22 (σ++[BzR,rob b q1]) (σ.length+1) b q1 1099511627776 (by decide) (g1 _ _ _ _) i1 hb
 have i2:=z0f (numR 1099511627776) 0 b q1 i1;rw[s1]at k2;generalize runR (numR 1099511627776) 0 b q1=w at k2 i2 hbw⊢;obtain⟨ck,q2⟩:=w;simp only at k2 i2 hbw⊢;have k3:=z2F (σ++[BzR,rob b q2]) (σ.length+1) b q2 b.length (by omega) (g1 _ _ _ _) i2 hb
 have i3:=z0f (textR b.length) ⟨#[]⟩ b q2 i2;have le3:=zfa (n:=b.length) (by omega) b q2
 rw[s1]at k3;generalize runR (textR b.length) ⟨#[]⟩ b q2=w at k3 i3 le3 hbw⊢;obtain⟨s,q3⟩:=w;simp only at k3 i3 le3 hbw⊢;have k4:=z1f (σ++[BzR,rob b q3]) (σ.length+1) b q3 (g1 _ _ _ _) i3 hb;have i4:=z0f byteR 0 b q3 i3;rw[s1]at k4;generalize runR byteR 0 b q3=w at k4 i4 hbw⊢;obtain⟨c,a,bad⟩:=w;simp only at k4 i4 hbw⊢;have ke:=z2s (σ++[BzR,rob b (a,bad)]) (σ.length+1) b (a,bad) (g1 _ _ _ _);have ki:=z9s (σ++[BzR,rob b (a,bad)]) (mkRc (u,ck,s,c)) (by unfold mkRc;simp only;rw[z1m];omega)
 have w1:IntKind.i64.wrap (u:Int)=(u:Int):=wrapI (by omega)
 have wc:IntKind.i64.wrap (c.toNat:Int)=(c.toNat:Int):=wrapI (by have:=c.toNat_lt;omega)
 have e1:(((a:Nat):Int) != (b.length:Nat))= !decide (a=b.length):=by
  rw[bne];congr 1
  rw[Bool.eq_iff_iff];simp only[beq_iff_eq,decide_eq_true_eq];omega
 refine Ans.of_run' t61 (fun hbel _=>?_)
 simp -implicitDefEqProofs only[c61,r61,go_sem];refine CO.intro (new_ans _ b) ?_;simp -implicitDefEqProofs only[go_sem,List.append_assoc,List.length_append];refine CO.intro k1 ?_;simp -implicitDefEqProofs only[go_sem,w1];refine CO.intro k2 ?_;simp -implicitDefEqProofs only[go_sem,z02];refine CO.intro k3 ?_;simp -implicitDefEqProofs only[go_sem,z3s];refine CO.intro k4 ?_;simp -implicitDefEqProofs only[go_sem,bc,wc];refine CO.intro ke ?_;have hz:rcV (mkRc (u,ck,s,c))=.agg [I (u:Nat),UN ck,.sl 1 (byv s.data.toList),I (c.toNat:Nat)]:=rfl;rw[hz]at ki;unfold rcW noRcV at hbw⊢
 cases bad with
 |true =>
  simp -implicitDefEqProofs only[go_sem,g0,s0];exact Fini.trim2 (σ':=σ) (ex:=[_,_]) (by simp -implicitDefEqProofs only[go_sem,resA,z01,rvA,oneOf,g0]<;>rfl) rfl (Nat.le_refl _) hbw hbel
 |false =>
  by_cases he:a=b.length
  · rw[decide_eq_true he]at e1 hbw⊢
    cases hR:rcIs (mkRc (u,ck,s,c)) with
    |true =>
     rw[hR]at ki;simp -implicitDefEqProofs only[go_sem,z02,e1,Bool.not_true];refine CO.intro ki ?_;simp only[Bool.not_false,Bool.true_and,if_true,Option.bind_some,hR,hz]at hbw⊢;simp -implicitDefEqProofs only[go_sem,g0,s0];exact Fini.trim2 (σ':=σ) (ex:=[_,_]) (by simp -implicitDefEqProofs only[go_sem,resA,z01,rvA,oneOf,g0]<;>rfl) rfl (Nat.le_refl _) hbw hbel
    |false =>
     rw[hR]at ki;simp -implicitDefEqProofs only[go_sem,z02,e1,Bool.not_true];refine CO.intro ki ?_;simp only[Bool.not_false,Bool.true_and,if_true,Option.bind_some,hR,Bool.false_eq_true,if_false]at hbw⊢;simp -implicitDefEqProofs only[go_sem,g0,s0];exact Fini.trim2 (σ':=σ) (ex:=[_,_]) (by simp -implicitDefEqProofs only[go_sem,resA,z01,rvA,oneOf,g0]<;>rfl) rfl (Nat.le_refl _) hbw hbel
  · rw[decide_eq_false he]at e1 hbw⊢;simp -implicitDefEqProofs only[go_sem,z02,e1,Bool.not_false,g0,s0];exact Fini.trim2 (σ':=σ) (ex:=[_,_]) (by simp -implicitDefEqProofs only[go_sem,resA,z01,rvA,oneOf,g0]<;>rfl) rfl (Nat.le_refl _) hbw hbel
end
def rcOf (u ck:Nat) (s:ByteArray) (c:UInt8):RcM:=⟨(u:Nat),ck,s.data.toList,(c.toNat:Nat)⟩
def endRc (u ck:Nat) (s:ByteArray):Byt→Option RcM
 |[c]=>if rcIs (rcOf u ck s c) then some (rcOf u ck s c) else none
 |_=>none
theorem zfb (b:Byt):rdRc b=(numR 2147483647 b).bind fun p1=>(getN 0 p1.2).bind fun p2=>(textR b.length p2.2).bind fun p3=>endRc p1.1 p2.1 p3.1 p3.2:=by
 unfold rdRc okRc rcR;simp only[z0U,seqR]
 cases numR 2147483647 b with
 |none=>rfl
 |some p1 =>
 simp only[Option.bind_some];have hn:numR 1099511627776 p1.2=(getN 0 p1.2).bind fun p=>if p.1≤1099511627776 then some p else none:=rfl
 rw[hn]
 cases getN 0 p1.2 with
 |none=>rfl
 |some p2 =>
 simp only[Option.bind_some];by_cases h:p2.1≤1099511627776
 · rw[if_pos h];simp only[Option.bind_some]
   cases textR b.length p2.2 with
   |none=>rfl
   |some p3 =>
   simp only[Option.bind_some]
   match p3.2 with
   |[]=>rfl
   |[c]=>rfl
   |c::d::t=>rfl
 · rw[if_neg h]
   cases textR b.length p2.2 with
   |none=>rfl
   |some p3 =>
   simp only[Option.bind_some,Option.bind_none,Option.map_none]
   match p3.2 with
   |[]=>rfl
   |c::d::t=>rfl
   |[c] =>
    have:rcIs (rcOf p1.1 p2.1 p3.1 c)=false:=by
     unfold rcIs rcOf;have:decide ((p2.1:Int)≤1099511627776)=false:=decide_eq_false (by omega)
     simp[this]
    simp only[endRc,this,wholeO];rfl
section
variable (σ:St)
theorem z8r (b:Byt) (hb:b.length≤50000):Ans Tryz.prog 66 [.sl 1 (byv b)] σ (rcW (rdRc b)) σ:=by
 rw[zfb];have k1:=z19 (σ++[BzR]) b (by omega)
 have hNB:Bel σ.length (.tup [noRcV,Bo false]):=z8q σ.length none
 cases h1:getN 0 b with
 |none =>
  have e1:numR 2147483647 b=none:=by simp only[numR,h1,Option.bind_none]
  rw[z0A h1]at k1;rw[e1];refine Ans.of_run' t66 (fun hbel _=>?_)
  simp -implicitDefEqProofs only[c66,r66,go_sem];refine CO.intro k1 ?_;unfold rcW noRcV;simp -implicitDefEqProofs only[go_sem,g0,s0];exact Fini.trim2 (σ':=σ) (ex:=[_]) (by simp -implicitDefEqProofs only[go_sem,resA,z01,rvA,oneOf,g0]<;>rfl) rfl (Nat.le_refl _) hNB hbel
 |some p1 =>
 obtain⟨u,t1⟩:=p1;rw[z0G h1]at k1;by_cases hu:u≤2147483647
 case neg =>
  have e1:numR 2147483647 b=none:=by simp only[numR,h1,Option.bind_some,if_neg hu]
  have d1:decide ((2147483647:Int)<(u:Int))=true:=decide_eq_true (by omega)
  rw[e1];refine Ans.of_run' t66 (fun hbel _=>?_)
  simp -implicitDefEqProofs only[c66,r66,go_sem];refine CO.intro k1 ?_;unfold rcW noRcV;simp -implicitDefEqProofs only[go_sem,d1,g0,s0];exact Fini.trim2 (σ':=σ) (ex:=[_]) (by simp -implicitDefEqProofs only[go_sem,resA,z01,rvA,oneOf,g0]<;>rfl) rfl (Nat.le_refl _) hNB hbel
 have e1:numR 2147483647 b=some (u,t1):=by simp only[numR,h1,Option.bind_some,if_pos hu]
 have d1:decide ((2147483647:Int)<(u:Int))=false:=decide_eq_false (by omega)
 obtain⟨dr1,_,le1⟩:=(ends_num 2147483647).drop (b:=b) (a:=0) (by omega) e1
 rw[e1];simp only[Option.bind_some];have l1:(((b.length-t1.length:Nat):Int)≤(b.length:Nat))=True:=eq_true (by omega)
 have k2:=z19 (σ++[BzR]) t1 (by omega)
 cases h2:getN 0 t1 with
 |none =>
  rw[z0A h2]at k2;refine Ans.of_run' t66 (fun hbel _=>?_)
  simp -implicitDefEqProofs only[c66,r66,go_sem];refine CO.intro k1 ?_;simp -implicitDefEqProofs only[go_sem,d1,z02,z0q,z0r,List.take_length,Int.le_refl,l1,dr1,Int.toNat_natCast];refine CO.intro k2 ?_;unfold rcW noRcV;simp -implicitDefEqProofs only[go_sem,g0,s0];exact Fini.trim2 (σ':=σ) (ex:=[_]) (by simp -implicitDefEqProofs only[go_sem,resA,z01,rvA,oneOf,g0]<;>rfl) rfl (Nat.le_refl _) hNB hbel
 |some p2 =>
 obtain⟨ck,t2⟩:=p2;rw[z0G h2]at k2;simp only[Option.bind_some];have f2:numR ck t1=some (ck,t2):=by simp only[numR,h2,Option.bind_some,if_pos (Nat.le_refl ck)]
 obtain⟨dr2,lo2,le2⟩:=(ends_num ck).drop (b:=b) (a:=b.length-t1.length) (by omega) (by rw[dr1];exact f2)
 have a2:IntKind.i64.wrap (((b.length-t1.length:Nat):Int)+((t1.length-t2.length:Nat):Int))=((b.length-t2.length:Nat):Int):=by
  rw[wrapN (by omega) (by omega)];omega
 have l2:(((b.length-t2.length:Nat):Int)≤(b.length:Nat))=True:=eq_true (by omega)
 have k3:=z13 (σ++[BzR]) t2 b.length (by omega) (by omega)
 have hbp:0<b.length:=by
  cases b with
  |nil=>cases h1
  |cons _ _=>simp
 have ws:IntKind.i64.wrap (((b.length:Nat):Int)-1)=((b.length-1:Nat):Int):=by
  rw[show((b.length:Nat):Int)-1=((b.length-1:Nat):Int) by omega]
  exact wrapI (by omega)
 cases h3:textR b.length t2 with
 |none =>
  rw[z0C h3]at k3;simp only[Option.bind_none];refine Ans.of_run' t66 (fun hbel _=>?_)
  simp -implicitDefEqProofs only[c66,r66,go_sem];refine CO.intro k1 ?_;simp -implicitDefEqProofs only[go_sem,d1,z02,z0q,z0r,List.take_length,Int.le_refl,l1,dr1,Int.toNat_natCast];refine CO.intro k2 ?_;simp -implicitDefEqProofs only[go_sem,a2,z02,z0q,z0r,List.take_length,Int.le_refl,l2,dr2,Int.toNat_natCast];refine CO.intro k3 ?_
  have a3:IntKind.i64.wrap (((b.length-t2.length:Nat):Int)+0)=((b.length-t2.length:Nat):Int):=by
   rw[Int.add_zero];exact wrapI (by omega)
  unfold rcW noRcV;simp -implicitDefEqProofs only[go_sem,a3,g0,s0];exact Fini.trim2 (σ':=σ) (ex:=[_]) (by simp -implicitDefEqProofs only[go_sem,resA,z01,rvA,oneOf,g0]<;>rfl) rfl (Nat.le_refl _) hNB hbel
 |some p3 =>
 obtain⟨s,t3⟩:=p3;rw[z1e h3]at k3;simp only[Option.bind_some];obtain⟨dr3,lo3,le3⟩:=(z0I b.length).drop (b:=b) (a:=b.length-t2.length) (by omega) (by rw[dr2];exact h3)
 have hs3:=((z0T (most:=b.length) (by omega)).bwd _ s t3 h3).1
 have a3:IntKind.i64.wrap (((b.length-t2.length:Nat):Int)+((t2.length-t3.length:Nat):Int))=((b.length-t3.length:Nat):Int):=by
  rw[wrapN (by omega) (by omega)];omega
 have hq:t3.length≤t2.length:=by omega
 by_cases hl:t3.length=1
 · obtain⟨c,rfl⟩:∃c,t3=[c]:=by
    cases t3 with
    |nil=>cases hl
    |cons c t=>cases t with
     |nil=>exact⟨c,rfl⟩
     |cons _ _=>simp at hl
   have d3:(((b.length-[c].length:Nat):Int) != ((b.length-1:Nat):Int))=false:=by simp
   have hx:(byv b)[b.length-1]?=some (bc c):=by
    have:b[b.length-1]?=some c:=by
     have h:=congrArg (fun l=>l[0]?) dr3
     simp only[List.getElem?_drop,List.length_singleton,List.getElem?_cons_zero]at h;simpa using h
    simp only[byv,List.getElem?_map,this];rfl
   have hlt:(((b.length-1:Nat):Int)<(b.length:Nat))=True:=eq_true (by omega)
   have wu:IntKind.i64.wrap (u:Int)=(u:Int):=wrapI (by omega)
   have wc:IntKind.i64.wrap (c.toNat:Int)=(c.toNat:Int):=wrapI (by have:=c.toNat_lt;omega)
   have ki:=z7N (σ++[BzR]) (rcOf u ck s c) (by unfold rcOf;simp only;rw[z1m];omega)
   simp only[List.length_singleton]at a3 d3 k3;have hz:rcV (rcOf u ck s c)=.agg [I (u:Nat),UN ck,.sl 1 (byv s.data.toList),I (c.toNat:Nat)]:=rfl;have he:endRc u ck s [c]=if rcIs (rcOf u ck s c) then some (rcOf u ck s c) else none:=rfl
   rw[he];rw[hz]at ki;refine Ans.of_run' t66 (fun hbel _=>?_)
   simp -implicitDefEqProofs only[c66,r66,go_sem];refine CO.intro k1 ?_;simp -implicitDefEqProofs only[go_sem,d1,z02,z0q,z0r,List.take_length,Int.le_refl,l1,dr1,Int.toNat_natCast];refine CO.intro k2 ?_;simp -implicitDefEqProofs only[go_sem,a2,z02,z0q,z0r,List.take_length,Int.le_refl,l2,dr2,Int.toNat_natCast];refine CO.intro k3 ?_;simp -implicitDefEqProofs only[go_sem,a3,ws,d3,z02,z3s,hx,hlt,bc,wu,wc,List.length_singleton,Int.toNat_natCast];refine CO.intro ki ?_
   cases hR:rcIs (rcOf u ck s c) with
   |true =>
    have hbw:=z8q σ.length (some (rcOf u ck s c));unfold rcW at hbw⊢;simp only[if_true,hz]at hbw⊢;simp -implicitDefEqProofs only[go_sem,g0,s0];exact Fini.trim2 (σ':=σ) (ex:=[_]) (by simp -implicitDefEqProofs only[go_sem,resA,z01,rvA,oneOf,g0]<;>rfl) rfl (Nat.le_refl _) hbw hbel
   |false =>
    unfold rcW noRcV;simp only[Bool.false_eq_true,if_false];simp -implicitDefEqProofs only[go_sem,g0,s0];exact Fini.trim2 (σ':=σ) (ex:=[_]) (by simp -implicitDefEqProofs only[go_sem,resA,z01,rvA,oneOf,g0]<;>rfl) rfl (Nat.le_refl _) hNB hbel
 · have d3:(((b.length-t3.length:Nat):Int) != ((b.length-1:Nat):Int))=true:=by
    rw[bne,neI (by omega)];rfl
   have he:endRc u ck s t3=none:=by
    match t3,hl with
    |[],_=>rfl
    |[c],hl=>exact absurd rfl hl
    |c::d::t,_=>rfl
   rw[he];refine Ans.of_run' t66 (fun hbel _=>?_)
   simp -implicitDefEqProofs only[c66,r66,go_sem];refine CO.intro k1 ?_;simp -implicitDefEqProofs only[go_sem,d1,z02,z0q,z0r,List.take_length,Int.le_refl,l1,dr1,Int.toNat_natCast];refine CO.intro k2 ?_;simp -implicitDefEqProofs only[go_sem,a2,z02,z0q,z0r,List.take_length,Int.le_refl,l2,dr2,Int.toNat_natCast];refine CO.intro k3 ?_;unfold rcW noRcV;simp -implicitDefEqProofs only[go_sem,a3,ws,d3,z02,g0,s0];exact Fini.trim2 (σ':=σ) (ex:=[_]) (by simp -implicitDefEqProofs only[go_sem,resA,z01,rvA,oneOf,g0]<;>rfl) rfl (Nat.le_refl _) hNB hbel
end
structure RqSz (r:ReM):Prop where
 val:r.val<2^64∧bitsF r.val=r.val
 bd:r.lo<2^64∧r.hi<2^64
 ru:r.ru.lo<2^64∧r.ru.hi<2^64
def eqLb (x y:Lab):Bool:=x.1.toList==y.1.toList&&(x.2.toList==y.2.toList&&true)
def sameL (A B:List Lab):Bool:=decide (A.length=B.length)&&(List.range A.length).all fun i=>eqLb (A.getD i noLb) (B.getD i noLb)
structure SzA (r:ReM):Prop where
 val:r.val<2^64
 bd:r.lo<2^64∧r.hi<2^64
 ru:r.ru.lo<2^64∧r.ru.hi<2^64
theorem RqSz.a {x:ReM} (h:RqSz x):SzA x:=⟨h.val.1,h.bd,h.ru⟩
theorem z8s {α:Type} {o:Option (α×Byt)} {x:α} (h:wholeO o=some x):o=some (x,[]):=by
 unfold wholeO at h;split at h
 · simp only[Option.some.injEq]at h;rw[h]
 · cases h
structure RcOk (n:Nat) (r:RcM):Prop where
 i0:0≤r.ix
 i1:r.ix≤2147483647
 ck:r.ck≤1099511627776
 bd:r.bd.length≤n
 c0:0≤r.cd
 c1:r.cd<256
def toRc (r:RcM):Nat×Nat×ByteArray×UInt8:=(r.ix.toNat,r.ck,⟨r.bd.toArray⟩,cdC r.cd)
theorem zfc {n:Nat} (hn:n<2^64):Fits (rcR n) putRc (RcOk n):=by
 refine dress_fits (z1V (z2j (by decide)) (z1V (z2j (by decide)) (z1V (z0T hn) byte_fits))) (g:=toRc) ?_ ?_
 · rintro⟨a,b,s,c⟩ ⟨h1,h2,h3,_⟩;have h1:a≤2147483647:=h1;have h3:s.size≤n:=h3;have hc:=c.toNat_lt;refine⟨⟨Int.natCast_nonneg _,by show((a:Nat):Int)≤2147483647;omega,h2,by show s.data.toList.length≤n;rw[z1m];exact h3,Int.natCast_nonneg _,by show((c.toNat:Nat):Int)<256;omega⟩,?_⟩
   show putN a++(putN b++(txtB ⟨s.data.toList.toArray⟩++[c.toNat.toUInt8]))=_;rw[zaM,toUInt8_toNat]
 · rintro⟨i,k,b,c⟩ ⟨h0,h1,h2,h3,h4,h5⟩;simp only at h0 h1 h2 h3 h4 h5;obtain⟨i,rfl⟩:=Int.eq_ofNat_of_zero_le h0;obtain⟨c,rfl⟩:=Int.eq_ofNat_of_zero_le h4;refine⟨⟨by show i≤2147483647;omega,h2,by show(⟨b.toArray⟩:ByteArray).size≤n;rw[z20];exact h3,trivial⟩,?_⟩
   show(⟨(i:Nat),k,b.toArray.toList,((c.toUInt8.toNat:Nat):Int)⟩:RcM)=_;rw[toNat_toUInt8 (by omega)]
theorem zdF {b:Byt} {x:RcM} (hl:b.length<2^64) (h:rdRc b=some x):b=putRc x∧rcIs x=true:=by
 unfold rdRc okRc at h
 cases hw:wholeO (rcR b.length b) with
 |none=>rw[hw]at h;cases h
 |some y =>
  rw[hw]at h;simp only[Option.bind_some]at h;split at h
  · rename_i hi;simp only[Option.some.injEq]at h;subst h;have:=((zfc hl).bwd b y [] (z8s hw)).2;rw[List.append_nil]at this;exact⟨this,hi⟩
  · cases h
end Go.Proofs.YteakobbdgehlgaaGreatDoor
namespace Go.Proofs.YteakobbdgehlgaaGreatDoor.Sha
open Go Go.Ab Go.Cod
set_option maxRecDepth 100000
theorem bytesRc_le (r:RcM) (hb:r.bd.length≤40000):(z0X r).length≤50000:=by
 unfold z0X;split
 · rename_i h;have h1:=z6T h;have h2:(putN r.ix.toNat).length≤10:=z0J (by omega)
   have h3:(putN r.ck).length≤10:=z0J (by omega)
   have h4:=z9d ⟨r.bd.toArray⟩ (by rw[z20];omega)
   rw[z20]at h4;unfold putRc;simp only[List.length_append,List.length_cons,List.length_nil];omega
 · exact Nat.zero_le _
section
variable (σ:St)
theorem z8t (h r:List UInt8) (hh:h.length≤50000) (hr:r.length≤50000):Ans Tryz.prog 58 [.sl 1 [.sl 1 (bv [1]),.sl 1 (bv h),.sl 1 (bv r)]] σ (.sl 1 (bv (([[1],h,r]:List (List UInt8)).flatten))) σ :=
 z6k σ [[1],h,r] (by simp) (by simp) (by simp;omega)
end
def ownU (o:Int):Nat:=(IntKind.u64.wrap o).toNat
theorem zc5 (o:Int):IntKind.u64.wrap o=((ownU o:Nat):Int):=by
 unfold ownU;have:0≤IntKind.u64.wrap o:=by simp only[IntKind.wrap,IntKind.bits,IntKind.signed];simp;omega
 omega
def genB (o:Int):List UInt8:=0::wrdB (ownU o)
def linkB (h r:List UInt8):List UInt8:=([[1],h,r]:List (List UInt8)).flatten
theorem z2h (h r:List UInt8):(linkB h r).length=1+h.length+r.length:=by unfold linkB;simp;omega
structure ChM where
 most:Int
 L:List RcM
 head:List UInt8
def heldM (m:Int):Int:=if 200<(if 0>m then 0 else m) then 200 else(if 0>m then 0 else m)
def newCh (o m:Int):ChM:=⟨heldM m,[],shaB (genB o)⟩
def rowC (q:Nat) (L:List RcM):AV:=if L.isEmpty then .nils else .osl q L.length
def boxC (q:Nat) (c:ChM):Ob:=.box (I c.most::rowC q c.L::bv c.head)
section
variable (σ:St)
theorem genesis_ans (o:Int):Ans Tryz.prog 28 [I o] σ (.sl 1 (bv (genB o))) σ:=by
 have hu:=zc5 o;have hp:∀s,Ans Tryz.prog 57 [UN (ownU o)] s (.sl 1 (bv (wrdB (ownU o)))) s:=fun s=>z8k s (ownU o)
 have hl:=z0N (wrdB (ownU o));have hw:=wrdB_len (ownU o);have e:AV.pl (.int .u8 0)::bv (wrdB (ownU o))=bv (genB o):=rfl;have k1:((1:Nat)+8≤2^32)=True:=eq_true (by decide)
 refine Ans.of_run' t28 (fun hbel _=>?_)
 simp -implicitDefEqProofs only[c28,r28,go_sem,hu];refine CO.intro (hp _) ?_;have hgl:(bv (genB o)).length=9:=rfl;simp -implicitDefEqProofs only[go_sem,z3l,hl,hw,k1,G0,S0,List.cons_append,List.nil_append,e,hgl];exact Fini.trim2 (σ':=σ) (ex:=[_]) rfl rfl (Nat.le_refl _) (z4h _ _) hbel
theorem link_ans (h r:List UInt8) (hh:h.length=32) (hr:r.length≤50000):Ans Tryz.prog 29 [.agg (bv h),.sl 1 (bv r)] σ (.sl 1 (bv (linkB h r))) σ:=by
 have hl:=z0N h;have ha:=bv_all h;have htk:List.take 32 (bv h)=bv h:=List.take_of_length_le (by rw[hl,hh];exact Nat.le_refl _)
 have hc:∀s,Ans Tryz.prog 58 [.sl 1 [.sl 1 (bv [1]),.sl 1 (bv h),.sl 1 (bv r)]] s (.sl 1 (bv (linkB h r))) s:=fun s=>z8t s h r (by omega) (by omega)
 have h1:bv [1]=[.pl (.int .u8 1)]:=rfl;rw[h1]at hc;have hll:=z0N (linkB h r);generalize linkB h r=X at hc hll⊢;refine Ans.of_run' t29 (fun hbel _=>?_)
 simp -implicitDefEqProofs only[c29,r29,go_sem,hl,hh,ha,htk];refine CO.intro (hc _) ?_;simp -implicitDefEqProofs only[go_sem,hll];exact Fini.ret rfl
theorem new_ans (o m:Int) (hG:∀ex,gloA (σ++ex) 0=some kV):Ans Tryz.prog 11 [I o,I m] σ (.ptr σ.length 0) (σ++[boxC 0 (newCh o m)]):=by
 have hg:=fun s=>genesis_ans s o
 have hs:=fun ex=>sha_ans (σ++ex) (genB o) (show(9:Nat)≤100000 by decide) (fun ex2=>by rw[List.append_assoc];exact hG _)
 have hs0:=hs [];rw[List.append_nil]at hs0;have hsl:=z28 (genB o);have hl:=z0N (shaB (genB o));unfold newCh boxC rowC;simp only[List.isEmpty_nil,if_true];generalize shaB (genB o)=hd at hs0 hsl hl⊢;clear hs;have ha:=bv_all hd;have htk:List.take 32 (bv hd)=bv hd:=List.take_of_length_le (by rw[hl,hsl];exact Nat.le_refl _)
 unfold heldM;refine Ans.of_run' t11 (fun hbel _=>?_)
 simp -implicitDefEqProofs only[c11,r11,go_sem];refine CO.intro (hg _) ?_;simp -implicitDefEqProofs only[go_sem];refine CO.intro hs0 ?_;simp -implicitDefEqProofs only[go_sem,hl,hsl,ha,htk];exact Fini.ret rfl
end
theorem gloA_app {σ:St} {k:Nat} {v:List Value}:gloA σ k=some v→∀ex,gloA (σ++ex) k=some v:=by
 induction σ with
 |nil=>intro h;cases h
 |cons o s ih =>
  intro h ex
  cases o with
  |glo g vs =>
   simp only[List.cons_append,gloA]at h⊢;by_cases hg:g=k
   · rw[if_pos hg]at h⊢;exact h
   · rw[if_neg hg]at h⊢;exact ih h ex
  |_=>simp only[List.cons_append,gloA]at h⊢;exact ih h ex
section
variable (σ:St)
end
theorem bel_rcV (n:Nat) (r:RcM):Bel n (rcV r):=.agg _ fun i hi=>by
 have hm:(rcC r)[i]'hi∈rcC r:=List.getElem_mem hi;generalize (rcC r)[i]'hi=x at hm;unfold rcC at hm;simp only[List.mem_cons,List.not_mem_nil,or_false]at hm;rcases hm with rfl|rfl|rfl|rfl
 · exact .pl _
 · exact .pl _
 · exact z4h _ _
 · exact .pl _
section
variable (σ:St)
end
def oneR (i:Nat):RcM:=⟨i,i,[1],0⟩
def oneL (i:Nat):List RcM:=(List.range i).map oneR
def headF (o:Int):Nat→List UInt8
 |0=>shaB (genB o)
 |i+1=>shaB (linkB (headF o i) (z0X (oneR i)))
def chF (o m:Int) (i:Nat):ChM:=⟨heldM m,oneL i,headF o i⟩
def glo0:Ob:=.glo 0 kV
def glo1:Ob:=.glo 1 kV
abbrev GG:St:=[glo0,glo1]
def lay (m:Int):Nat→St
 |0=>[glo0,glo1,boxC 0 (chF 1 m 0)]
 |j+1=>[glo0,glo1,boxC 4 (chF 1 m (j+1)),.box (rcC (oneR 0)),.row 4 ((oneL (j+1)).map rcV)]
theorem gg0:gloA GG 0=some kV:=rfl
theorem gg1:gloA GG 1=some kV:=rfl
section
variable (σ:St)
end
end Go.Proofs.YteakobbdgehlgaaGreatDoor.Sha
