/- Which fields a request has not are zero, those that it has are right, at some of the field sets. Printed by a program. No condition. -/
import Derived.Test.YteakobbdgehlgaaGreatDoorKRq2cE3
import Derived.Test.YteakobbdgehlgaaGreatDoorKShA1E3
import Derived.Test.YteakobbdgehlgaaGreatDoorKXMr2E3
set_option linter.unusedSimpArgs false
set_option linter.unusedVariables false
set_option linter.unusedSectionVars false
set_option maxRecDepth 100000
set_option maxHeartbeats 8000000
namespace Go.Proofs.YteakobbdgehlgaaGreatDoor
open Go Go.Ab Go.Cod
section
variable (σ:St)
theorem zfG (r:ReM):Ans Tryz.prog 151 [reV r,I 768] σ (Bo (zeroB r 768)) σ:=by
 obtain⟨tok,op,id,y0,st,en,q0,mt,any,lo,hi,⟨src,u0,ra,rl,rh,eq⟩,ls,val⟩:=r;have b1:=z1n σ (any,lo,hi);have b2:=z1C σ ⟨src,u0,ra,rl,rh,eq⟩;have b3:=z1h σ val;unfold bandV at b1;unfold ruV at b2;refine Ans.of_run t151 ?_;unfold reV reC zeroB;simp only[hs_768,Bool.true_or,Bool.false_or,Bool.true_and];unfold emS;unfold emU;unfold emI
 cases h0:(id==0) with
 |false =>
  simp -implicitDefEqProofs only[c151,r151,go_sem,h0];exact Fini.ret rfl
 |true =>
 cases h1:(y0.toList==(⟨#[]⟩:ByteArray).toList) with
 |false =>
  simp -implicitDefEqProofs only[c151,r151,go_sem,h0,h1];exact Fini.ret rfl
 |true =>
 cases h2:(((st:Nat):Int)==0) with
 |false =>
  simp -implicitDefEqProofs only[c151,r151,go_sem,h0,h1,h2];exact Fini.ret rfl
 |true =>
 cases h3:(((en:Nat):Int)==0) with
 |false =>
  simp -implicitDefEqProofs only[c151,r151,go_sem,h0,h1,h2,h3];exact Fini.ret rfl
 |true =>
 cases h4:(q0==0) with
 |false =>
  simp -implicitDefEqProofs only[c151,r151,go_sem,h0,h1,h2,h3,h4];exact Fini.ret rfl
 |true =>
 cases h5:(((mt.length:Nat):Int)==0) with
 |false =>
  simp -implicitDefEqProofs only[c151,r151,go_sem,h0,h1,h2,h3,h4,h5];exact Fini.ret rfl
 |true =>
 simp -implicitDefEqProofs only[c151,r151,go_sem,h0,h1,h2,h3,h4,h5];refine CO.intro b1 ?_
 cases h6:noBd (any,lo,hi) with
 |false =>
  simp -implicitDefEqProofs only[go_sem];exact Fini.ret rfl
 |true =>
 simp -implicitDefEqProofs only[go_sem];refine CO.intro b2 ?_
 cases h7:noRl ⟨src,u0,ra,rl,rh,eq⟩ with
 |false =>
  simp -implicitDefEqProofs only[go_sem];exact Fini.ret rfl
 |true =>
 simp -implicitDefEqProofs only[go_sem];exact Fini.ret rfl
theorem zdJ (r:ReM):Ans Tryz.prog 152 [reV r,I 768] σ (Bo (z0c r 768)) σ:=by
 obtain⟨tok,op,id,y0,st,en,u0,mt,any,lo,hi,⟨src,q0,ra,rl,rh,eq⟩,ls,val⟩:=r;have b0:=z3s σ y0;have b1:=z1R σ mt;have b2:=z22 σ any lo hi;have b3:=z28 σ ⟨src,q0,ra,rl,rh,eq⟩;have b4:=z2b σ ls;unfold ruV at b3;refine Ans.of_run t152 ?_;unfold reV reC z0c idR staR clkB;simp only[hs_768,Bool.not_true,Bool.not_false,Bool.true_or,Bool.false_or,Bool.true_and,Bool.and_assoc]
 cases h0:decide (0≤id) with
 |false =>
  simp -implicitDefEqProofs only[c152,r152,go_sem,h0];exact Fini.ret rfl
 |true =>
 cases h1:decide (id≤2147483647) with
 |false =>
  simp -implicitDefEqProofs only[c152,r152,go_sem,h0,h1];exact Fini.ret rfl
 |true =>
 cases h2:decide (((st:Nat):Int)≤1099511627776) with
 |false =>
  simp -implicitDefEqProofs only[c152,r152,go_sem,h0,h1,h2];exact Fini.ret rfl
 |true =>
 cases h3:decide (((en:Nat):Int)≤1099511627776) with
 |false =>
  simp -implicitDefEqProofs only[c152,r152,go_sem,h0,h1,h2,h3];exact Fini.ret rfl
 |true =>
 cases h4:decide (0≤u0) with
 |false =>
  simp -implicitDefEqProofs only[c152,r152,go_sem,h0,h1,h2,h3,h4];exact Fini.ret rfl
 |true =>
 cases h5:decide (u0≤3) with
 |false =>
  simp -implicitDefEqProofs only[c152,r152,go_sem,h0,h1,h2,h3,h4,h5];exact Fini.ret rfl
 |true =>
 simp -implicitDefEqProofs only[c152,r152,go_sem,h0,h1,h2,h3,h4,h5];refine CO.intro b1 ?_
 cases h6:listB mt with
 |false =>
  simp -implicitDefEqProofs only[go_sem,];exact Fini.ret rfl
 |true =>
 simp -implicitDefEqProofs only[go_sem];refine CO.intro b4 ?_
 cases h7:setB ls with
 |false =>
  simp -implicitDefEqProofs only[go_sem,];exact Fini.ret rfl
 |true =>
 simp -implicitDefEqProofs only[go_sem];exact Fini.ret rfl
theorem zhV (r:ReM):Ans Tryz.prog 151 [reV r,I 16] σ (Bo (zeroB r 16)) σ:=by
 obtain⟨tok,op,id,y0,st,en,q0,mt,any,lo,hi,⟨src,u0,ra,rl,rh,eq⟩,ls,val⟩:=r;have b1:=z1n σ (any,lo,hi);have b2:=z1C σ ⟨src,u0,ra,rl,rh,eq⟩;have b3:=z1h σ val;unfold bandV at b1;unfold ruV at b2;refine Ans.of_run t151 ?_;unfold reV reC zeroB;simp only[hs_16,Bool.true_or,Bool.false_or,Bool.true_and];unfold emS;unfold emU;unfold emI
 cases h0:(id==0) with
 |false =>
  simp -implicitDefEqProofs only[c151,r151,go_sem,h0];exact Fini.ret rfl
 |true =>
 cases h1:(y0.toList==(⟨#[]⟩:ByteArray).toList) with
 |false =>
  simp -implicitDefEqProofs only[c151,r151,go_sem,h0,h1];exact Fini.ret rfl
 |true =>
 cases h2:(((st:Nat):Int)==0) with
 |false =>
  simp -implicitDefEqProofs only[c151,r151,go_sem,h0,h1,h2];exact Fini.ret rfl
 |true =>
 cases h3:(((en:Nat):Int)==0) with
 |false =>
  simp -implicitDefEqProofs only[c151,r151,go_sem,h0,h1,h2,h3];exact Fini.ret rfl
 |true =>
 cases h4:(q0==0) with
 |false =>
  simp -implicitDefEqProofs only[c151,r151,go_sem,h0,h1,h2,h3,h4];exact Fini.ret rfl
 |true =>
 simp -implicitDefEqProofs only[c151,r151,go_sem,h0,h1,h2,h3,h4];refine CO.intro b1 ?_
 cases h5:noBd (any,lo,hi) with
 |false =>
  simp -implicitDefEqProofs only[go_sem];exact Fini.ret rfl
 |true =>
 simp -implicitDefEqProofs only[go_sem];refine CO.intro b2 ?_
 cases h6:noRl ⟨src,u0,ra,rl,rh,eq⟩ with
 |false =>
  simp -implicitDefEqProofs only[go_sem];exact Fini.ret rfl
 |true =>
 cases h7:(((ls.length:Nat):Int)==0) with
 |false =>
  simp -implicitDefEqProofs only[go_sem,h7];exact Fini.ret rfl
 |true =>
 simp -implicitDefEqProofs only[go_sem,h7];refine CO.intro b3 ?_
 cases h8:zF val with
 |false =>
  simp -implicitDefEqProofs only[go_sem];exact Fini.ret rfl
 |true =>
 simp -implicitDefEqProofs only[go_sem];exact Fini.ret rfl
theorem zfH (r:ReM):Ans Tryz.prog 152 [reV r,I 16] σ (Bo (z0c r 16)) σ:=by
 obtain⟨tok,op,id,y0,st,en,u0,mt,any,lo,hi,⟨src,q0,ra,rl,rh,eq⟩,ls,val⟩:=r;have b0:=z3s σ y0;have b1:=z1R σ mt;have b2:=z22 σ any lo hi;have b3:=z28 σ ⟨src,q0,ra,rl,rh,eq⟩;have b4:=z2b σ ls;unfold ruV at b3;refine Ans.of_run t152 ?_;unfold reV reC z0c idR staR clkB;simp only[hs_16,Bool.not_true,Bool.not_false,Bool.true_or,Bool.false_or,Bool.true_and,Bool.and_assoc]
 cases h0:decide (0≤id) with
 |false =>
  simp -implicitDefEqProofs only[c152,r152,go_sem,h0];exact Fini.ret rfl
 |true =>
 cases h1:decide (id≤2147483647) with
 |false =>
  simp -implicitDefEqProofs only[c152,r152,go_sem,h0,h1];exact Fini.ret rfl
 |true =>
 cases h2:decide (((st:Nat):Int)≤1099511627776) with
 |false =>
  simp -implicitDefEqProofs only[c152,r152,go_sem,h0,h1,h2];exact Fini.ret rfl
 |true =>
 cases h3:decide (((en:Nat):Int)≤1099511627776) with
 |false =>
  simp -implicitDefEqProofs only[c152,r152,go_sem,h0,h1,h2,h3];exact Fini.ret rfl
 |true =>
 cases h4:decide (0≤u0) with
 |false =>
  simp -implicitDefEqProofs only[c152,r152,go_sem,h0,h1,h2,h3,h4];exact Fini.ret rfl
 |true =>
 cases h5:decide (u0≤3) with
 |false =>
  simp -implicitDefEqProofs only[c152,r152,go_sem,h0,h1,h2,h3,h4,h5];exact Fini.ret rfl
 |true =>
 simp -implicitDefEqProofs only[c152,r152,go_sem,h0,h1,h2,h3,h4,h5];refine CO.intro b1 ?_
 cases h6:listB mt with
 |false =>
  simp -implicitDefEqProofs only[go_sem,];exact Fini.ret rfl
 |true =>
 simp -implicitDefEqProofs only[go_sem];exact Fini.ret rfl
end
section
variable (σ:St)
theorem zdK (r:ReM) (op:Int):Ans Tryz.prog 151 [reV r,I (fOf op).1] σ (Bo (zeroB r (fOf op).1)) σ:=by
 have h:=z6m op;generalize (fOf op).1=f at h;simp only[List.mem_cons,List.not_mem_nil,or_false]at h;rcases h with rfl|rfl|rfl|rfl|rfl|rfl|rfl|rfl|rfl
 · exact zj7 σ r
 · exact zj8 σ r
 · exact zj9 σ r
 · exact zfD σ r
 · exact zfE σ r
 · exact zja σ r
 · exact zfF σ r
 · exact zfG σ r
 · exact zhV σ r
theorem zbU (r:ReM) (op:Int):Ans Tryz.prog 152 [reV r,I (fOf op).1] σ (Bo (z0c r (fOf op).1)) σ:=by
 have h:=z6m op;generalize (fOf op).1=f at h;simp only[List.mem_cons,List.not_mem_nil,or_false]at h;rcases h with rfl|rfl|rfl|rfl|rfl|rfl|rfl|rfl|rfl
 · exact zhR σ r
 · exact zhS σ r
 · exact zhT σ r
 · exact zdG σ r
 · exact zdH σ r
 · exact zhU σ r
 · exact zdI σ r
 · exact zdJ σ r
 · exact zfH σ r
theorem z2o (r:ReM):Ans Tryz.prog 131 [reV r] σ (Bo (mayR r)) σ:=by
 have h1:=z1m σ r.op;have h2:=zdK σ r r.op;have h3:=zbU σ r r.op;refine Ans.of_run t131 ?_;unfold mayR;unfold reV reC at *;simp -implicitDefEqProofs only[c131,r131,go_sem];refine CO.intro h1 ?_
 cases(fOf r.op).2 with
 |false =>
  simp -implicitDefEqProofs only[go_sem];exact Fini.ret rfl
 |true =>
  simp -implicitDefEqProofs only[go_sem];refine CO.intro h2 ?_
  cases zeroB r (fOf r.op).1 with
  |false =>
   simp -implicitDefEqProofs only[go_sem];exact Fini.ret rfl
  |true =>
   simp -implicitDefEqProofs only[go_sem];refine CO.intro h3 ?_;simp -implicitDefEqProofs only[go_sem];exact Fini.ret rfl
end
def x0 (op:Int):ReM:=⟨⟨#[]⟩,op,0,⟨#[]⟩,0,0,0,[],false,0,0,noRu,[],0⟩
def mk116 (op:Int) (p:Nat×Nat×List Mtr×Bnd):ReM:={ x0 op with st:=p.1,en:=p.2.1,mt:=p.2.2.1,any:=p.2.2.2.1,lo:=p.2.2.2.2.1,hi:=p.2.2.2.2.2 }
def mk117 (op:Int) (p:Nat×Nat×Nat×List Mtr×Bnd):ReM:={ mk116 op p.2 with id:=(p.1:Nat) }
def clR (f op:Int):Rd ReM :=
 if f=1 then z1K (numR 2147483647) fun n=>{ x0 op with id:=(n:Nat) }
 else if f=3 then z1K (seqR (numR 2147483647) (textR 16)) fun p=>{ x0 op with id:=(p.1:Nat),txt:=p.2 }
 else if f=116 then z1K (seqR (numR 1099511627776) (seqR (numR 1099511627776) (seqR listR bandR))) (mk116 op)
 else if f=117 then z1K (seqR (numR 2147483647) (seqR (numR 1099511627776) (seqR (numR 1099511627776) (seqR listR bandR)))) (mk117 op)
 else if f=8 then z1K byteR fun c=>{ x0 op with sta:=(c.toNat:Nat) }
 else if f=128 then z1K ruR fun r=>{ x0 op with ru:=r }
 else if f=768 then z1K (seqR setR valR) fun p=>{ x0 op with ls:=p.1,val:=p.2 }
 else if f=16 then z1K listR fun M=>{ x0 op with mt:=M }
 else fun b=>some (x0 op,b)
def clS (f op:Int) (b:Byt):Nat×Bool→ReM×(Nat×Bool) :=
 if f=1 then z1W (runR (numR 2147483647) 0 b) fun n=>{ x0 op with id:=(n:Nat) }
 else if f=3 then z1W (seqSt (runR (numR 2147483647) 0 b) (runR (textR 16) ⟨#[]⟩ b)) fun p=>{ x0 op with id:=(p.1:Nat),txt:=p.2 }
 else if f=116 then z1W (seqSt (runR (numR 1099511627776) 0 b) (seqSt (runR (numR 1099511627776) 0 b) (seqSt (runR listR [] b) (runR bandR (false,0,0) b)))) (mk116 op)
 else if f=117 then z1W (seqSt (runR (numR 2147483647) 0 b) (seqSt (runR (numR 1099511627776) 0 b) (seqSt (runR (numR 1099511627776) 0 b) (seqSt (runR listR [] b) (runR bandR (false,0,0) b))))) (mk117 op)
 else if f=8 then z1W (runR byteR 0 b) fun c=>{ x0 op with sta:=(c.toNat:Nat) }
 else if f=128 then z1W (runR ruR noRu b) fun r=>{ x0 op with ru:=r }
 else if f=768 then z1W (seqSt (runR setR [] b) (valS b)) fun p=>{ x0 op with ls:=p.1,val:=p.2 }
 else if f=16 then z1W (runR listR [] b) fun M=>{ x0 op with mt:=M }
 else fun q=>(x0 op,q)
theorem zbV {α:Type} (b:Byt) (x:α):StepsR b (fun b=>some (x,b)) (fun q=>(x,q)) where
 some_ a y t ha hr:=by
  simp only[Option.some.injEq,Prod.mk.injEq]at hr;obtain⟨rfl,rfl⟩:=hr;simp only[List.length_drop,Prod.mk.injEq,true_and];exact⟨by omega,trivial⟩
 none_ a ha hr:=by cases hr
 bad a:=rfl
 inb q hq:=hq
theorem zdL {α:Type} (x:α):EndsR (fun b=>some (x,b)):=fun b y t h=>by
 simp only[Option.some.injEq,Prod.mk.injEq]at h;exact⟨[],by rw[h.2];rfl⟩
theorem z3S (f op:Int) (b:Byt):StepsR b (clR f op) (clS f op b):=by
 unfold clR clS
 repeat' split
 · exact z0W (z0i _ _ _) _
 · exact z0W (z0C (z0i _ _ _) (z0i _ _ _) (ends_num _)) _
 · exact z0W (z0C (z0i _ _ _) (z0C (z0i _ _ _) (z0C (z0i _ _ _) (z0i _ _ _) ends_list) (ends_num _)) (ends_num _)) _
 · exact z0W (z0C (z0i _ _ _) (z0C (z0i _ _ _) (z0C (z0i _ _ _) (z0C (z0i _ _ _) (z0i _ _ _) ends_list) (ends_num _)) (ends_num _)) (ends_num _)) _
 · exact z0W (z0i _ _ _) _
 · exact z0W (z0i _ _ _) _
 · exact z0W (z0C (z0i _ _ _) (z0K b) ends_set) _
 · exact z0W (z0i _ _ _) _
 · exact zbV b _
theorem zhW (f op:Int):EndsR (clR f op):=by
 unfold clR
 repeat' split
 · exact z1l (ends_num _) _
 · exact z1l (z1s (ends_num _) (z1X _)) _
 · exact z1l (z1s (ends_num _) (z1s (ends_num _) (z1s ends_list ends_band))) _
 · exact z1l (z1s (ends_num _) (z1s (ends_num _) (z1s (ends_num _) (z1s ends_list ends_band)))) _
 · exact z1l ends_byte _
 · exact z1l ends_ru _
 · exact z1l (z1s ends_set z7z) _
 · exact z1l ends_list _
 · exact zdL _
def bodyR:Rd ReM
 |[]=>none
 |c::t=>onlyR (clR (fOf (c.toNat:Int)).1 (c.toNat:Int)) mayR t
def bodyS (b:Byt) (q:Nat×Bool):ReM×(Nat×Bool) :=
 z0P (fun q1=>clS (fOf ((runR byteR 0 b q).1.toNat:Int)).1 ((runR byteR 0 b q).1.toNat:Int) b (took q1 0 (fOf ((runR byteR 0 b q).1.toNat:Int)).2)) mayR (runR byteR 0 b q).2
theorem z8Q (q:Nat×Bool):took q 0 true=q:=by
 obtain⟨a,b⟩:=q;cases b<;>rfl
theorem zdM:EndsR bodyR:=fun b x t h=>by
 cases b with
 |nil=>cases h
 |cons c u =>
  obtain⟨w,hw⟩:=z8p (zhW _ _) mayR _ _ _ h;exact⟨c::w,by rw[hw];rfl⟩
theorem zhX {x:ReM} (h:mayR x=true):(fOf x.op).2=true:=by
 unfold mayR at h;simp only[Bool.and_eq_true]at h;exact h.1
theorem zgO {f op:Int} {b:Byt} {x:ReM} {t:Byt} (h:clR f op b=some (x,t)):x.op=op:=by
 unfold clR at h
 repeat' split at h
 all_goals first
  |(simp only[Option.some.injEq,Prod.mk.injEq]at h;rw[←h.1];rfl)
  |(simp only[z1K,Option.map_eq_some_iff]at h;obtain⟨p,_,hp⟩:=h;simp only[Prod.mk.injEq]at hp;rw[←hp.1];rfl)
theorem zbW (b:Byt):StepsR b bodyR (bodyS b) where
 some_ a x t ha hr:=by
  cases hd:b.drop a with
  |nil=>rw[hd]at hr;cases hr
  |cons c u =>
   have h1:byteR (b.drop a)=some (c,u):=by rw[hd];rfl
   obtain⟨e1,e2,e3⟩:=ends_byte.drop ha h1;rw[hd]at hr;have hr:onlyR (clR (fOf (c.toNat:Int)).1 (c.toNat:Int)) mayR u=some (x,t):=hr
   have u0:(fOf (c.toNat:Int)).2=true:=by
    simp only[onlyR]at hr
    cases h3:clR (fOf (c.toNat:Int)).1 (c.toNat:Int) u with
    |none=>simp[h3]at hr
    |some y =>
     simp only[h3,Option.bind_some]at hr;split at hr
     · rename_i hm;rw[←zgO h3];exact zhX hm
     · cases hr
   unfold bodyS;simp only[z0L h1,u0,z8Q];exact(z1d (z3S _ _ b) mayR).some_ (b.length-u.length) x t (by omega) (by rw[e1];exact hr)
 none_ a ha hr:=by
  cases hd:b.drop a with
  |nil =>
   have h1:byteR (b.drop a)=none:=by rw[hd];rfl
   unfold bodyS;simp only[z0V h1];exact z3i (z1d (z3S _ _ b) mayR).bad _ (by cases(fOf (((0:UInt8).toNat:Nat):Int)).2<;>rfl)
  |cons c u =>
   have h1:byteR (b.drop a)=some (c,u):=by rw[hd];rfl
   obtain⟨e1,e2,e3⟩:=ends_byte.drop ha h1;rw[hd]at hr;have hr:onlyR (clR (fOf (c.toNat:Int)).1 (c.toNat:Int)) mayR u=none:=hr;unfold bodyS;simp only[z0L h1]
   cases u0:(fOf (c.toNat:Int)).2 with
   |true =>
    simp only[z8Q];exact(z1d (z3S _ _ b) mayR).none_ (b.length-u.length) (by omega) (by rw[e1];exact hr)
   |false=>exact z3i (z1d (z3S _ _ b) mayR).bad _ rfl
 bad a:=by
  unfold bodyS;simp only[z0O];exact z3i (z1d (z3S _ _ b) mayR).bad _ (by cases(fOf (((0:UInt8).toNat:Nat):Int)).2<;>rfl)
 inb q hq:=by
  have h1:=z0h byteR 0 b q hq;unfold bodyS;exact(z1d (z3S _ _ b) mayR).inb _ (z1r b _ _ h1)
abbrev XC0 (c:UInt8):List AV:=[Sx ⟨#[]⟩,I (c.toNat:Nat),I 0,Sx ⟨#[]⟩,UN 0,UN 0,I 0,.nils,Bo false,Fl 0,Fl 0,.nils,.nils,Bo false,Fl 0,Fl 0,.nils,.nils,Fl 0]
abbrev XC1 (c:UInt8) (a2:AV):List AV:=[Sx ⟨#[]⟩,I (c.toNat:Nat),a2,Sx ⟨#[]⟩,UN 0,UN 0,I 0,.nils,Bo false,Fl 0,Fl 0,.nils,.nils,Bo false,Fl 0,Fl 0,.nils,.nils,Fl 0]
abbrev XC3 (c:UInt8) (a2 a3:AV):List AV:=[Sx ⟨#[]⟩,I (c.toNat:Nat),a2,a3,UN 0,UN 0,I 0,.nils,Bo false,Fl 0,Fl 0,.nils,.nils,Bo false,Fl 0,Fl 0,.nils,.nils,Fl 0]
abbrev XC116 (c:UInt8) (a4 a5 a7 a8 a9 a10:AV):List AV:=[Sx ⟨#[]⟩,I (c.toNat:Nat),I 0,Sx ⟨#[]⟩,a4,a5,I 0,a7,a8,a9,a10,.nils,.nils,Bo false,Fl 0,Fl 0,.nils,.nils,Fl 0]
abbrev XC117 (c:UInt8) (a2 a4 a5 a7 a8 a9 a10:AV):List AV:=[Sx ⟨#[]⟩,I (c.toNat:Nat),a2,Sx ⟨#[]⟩,a4,a5,I 0,a7,a8,a9,a10,.nils,.nils,Bo false,Fl 0,Fl 0,.nils,.nils,Fl 0]
abbrev XC8 (c:UInt8) (a6:AV):List AV:=[Sx ⟨#[]⟩,I (c.toNat:Nat),I 0,Sx ⟨#[]⟩,UN 0,UN 0,a6,.nils,Bo false,Fl 0,Fl 0,.nils,.nils,Bo false,Fl 0,Fl 0,.nils,.nils,Fl 0]
abbrev XC128 (c:UInt8) (a11 a12 a13 a14 a15 a16:AV):List AV:=[Sx ⟨#[]⟩,I (c.toNat:Nat),I 0,Sx ⟨#[]⟩,UN 0,UN 0,I 0,.nils,Bo false,Fl 0,Fl 0,a11,a12,a13,a14,a15,a16,.nils,Fl 0]
abbrev XC768 (c:UInt8) (a17 a18:AV):List AV:=[Sx ⟨#[]⟩,I (c.toNat:Nat),I 0,Sx ⟨#[]⟩,UN 0,UN 0,I 0,.nils,Bo false,Fl 0,Fl 0,.nils,.nils,Bo false,Fl 0,Fl 0,.nils,a17,a18]
abbrev XC16 (c:UInt8) (a7:AV):List AV:=[Sx ⟨#[]⟩,I (c.toNat:Nat),I 0,Sx ⟨#[]⟩,UN 0,UN 0,I 0,a7,Bo false,Fl 0,Fl 0,.nils,.nils,Bo false,Fl 0,Fl 0,.nils,.nils,Fl 0]
abbrev B19:Ob:=.box [Sx ⟨#[]⟩,I 0,I 0,Sx ⟨#[]⟩,UN 0,UN 0,I 0,.nils,Bo false,Fl 0,Fl 0,.nils,.nils,Bo false,Fl 0,Fl 0,.nils,.nils,Fl 0]
theorem ap4 {α:Type}:(∀a b c:List α,a++b++c=a++(b++c))∧(∀a b:List α,(a++b).length=a.length+b.length)∧(∀(x:α) a b,(x::a)++b=x::(a++b))∧∀a:List α,[]++a=a :=
 ⟨List.append_assoc,fun _ _=>List.length_append,fun _ _ _=>rfl,fun _=>rfl⟩
theorem rd_facts (A:Nat×Bool→St) (n p:Nat) (b:Byt) (hn:∀q,(A q).length=n) (hg:∀q,(A q)[p]?=some (rob b q)) (hs:∀q q',(A q).set p (rob b q')=A q') (q:Nat×Bool) :
  (∀q (ex:St),(A q++ex)[p]?=some (rob b q))∧(∀q q' (ex:St),(A q++ex).set p (rob b q')=A q'++ex) ∧
  (∀q (x:Ob) (ex:St),(A q++x::ex)[n]?=some x)∧(∀q (x y:Ob) (ex:St),(A q++x::y::ex)[n+1]?=some y) ∧
  (∀q (x u:Ob) (ex:St),(A q++x::ex).set n u=A q++u::ex)∧∀q (x y u:Ob) (ex:St),(A q++x::y::ex).set (n+1) u=A q++x::u::ex:=by
 have hp:p<n:=by have:=(List.getElem?_eq_some_iff.1 (hg q)).1;rw[hn]at this;exact this
 exact⟨fun q ex=>by rw[List.getElem?_append_left (by rw[hn];exact hp)];exact hg q,fun q q' ex=>by rw[List.set_append_left _ _ (by rw[hn];exact hp),hs],
  fun q x ex=>by rw[←hn q];exact g0 _ _ _,fun q x y ex=>by rw[←hn q];exact g1 _ _ _ _,
  fun q x u ex=>by rw[←hn q];exact s0 _ _ _ _,fun q x y u ex=>by rw[←hn q];exact s1 _ _ _ _ _⟩
theorem z3t (b:Byt) (q:Nat×Bool) {n:Nat}:∀c∈([.sl 1 (byv b),.pl (.int .i64 q.1),Bo q.2]:List AV),Bel n c:=by
 intro c hc;simp only[List.mem_cons,List.not_mem_nil,or_false]at hc;rcases hc with rfl|rfl|rfl
 · exact z1j _ _
 · exact .pl _
 · exact .pl _
section
variable (A:Nat×Bool→St) (n p:Nat) (b:Byt) (hn:∀q,(A q).length=n) (hg:∀q,(A q)[p]?=some (rob b q)) (hs:∀q q',(A q).set p (rob b q')=A q') (hb:b.length≤50000)
include hn hg hs hb
theorem zjb (q:Nat×Bool) (hq:Inb b q) (c:UInt8) (q1:Nat×Bool) (hc:runR byteR 0 b q=(c,q1)) (ok:Bool) (hf:fOf (c.toNat:Int)=(0,ok)) :
  Ans Tryz.prog 102 [.ptr p 0] (A q) (reV (bodyS b q).1) (A (bodyS b q).2):=by
 obtain⟨y0,q0,gs⟩:=rd_facts A n p b hn hg hs q;have k0:=z1e (A q++[B19]) p b q (y0 _ _) hq hb;have u0:=z0h byteR 0 b q hq
 have t0:bodyS b q=z0P (fun q1=>clS 0 (c.toNat:Int) b (took q1 0 ok)) mayR q1:=by
  unfold bodyS;rw[hc];simp only[hf]
 rw[hc]at k0 u0;rw[t0];simp only at k0 u0;rw[q0]at k0;have k1:=z1m (A q1++[B19,.box (XC0 c)]) (c.toNat:Int);rw[hf]at k1;have k2:=z0d (A q1++[B19,.box (XC0 c)]) p b q1 ok (y0 _ _) u0 hb;rw[q0]at k2;have n0:=z1r b q1 ok u0;unfold z0P;simp only;generalize took q1 0 ok=q2 at k2 n0⊢;have wc:IntKind.i64.wrap (c.toNat:Int)=(c.toNat:Int):=wrapI (by have:=c.toNat_lt;omega)
 have d0:clS 0 (c.toNat:Int) b q2=(x0 (c.toNat:Int),q2):=rfl;rw[d0];simp only;have j0:Sub (.agg (XC0 c)) (reV (x0 (c.toNat:Int))):=.agg (.cons (.refl _) <| .cons (.refl _) <| .cons (.refl _) <| .cons (.refl _) <| .cons (.refl _) <| .cons (.refl _) <| .cons (.refl _) <| .cons (.nils 3) <| .cons (.refl _) <| .cons (.refl _) <| .cons (.refl _) <| .cons (.nils 3) <| .cons (.nils 3) <| .cons (.refl _) <| .cons (.refl _) <| .cons (.refl _) <| .cons (.nils 1) <| .cons (.nils 2) <| .cons (.refl _) <| .nil);have km:=(z2o (A q2++[B19,.box (XC0 c)]) (x0 (c.toNat:Int))).subA (.cons j0 .nil);have ke:=z0d (A q2++[B19,.box (XC0 c)]) p b q2 (mayR (x0 (c.toNat:Int))) (y0 _ _) n0 hb;rw[q0]at ke;generalize mayR (x0 (c.toNat:Int))=okm at km ke⊢;generalize took q2 0 okm=qe at ke⊢;refine Ans.subR ?_ j0;refine Ans.of_run' t102 (fun m0 _=>?_)
 simp -implicitDefEqProofs only[c102,r102,go_sem,y0,q0,gs,hn,ap4];refine CO.intro k0 ?_;simp -implicitDefEqProofs only[go_sem,bc,wc,y0,q0,gs,hn,ap4];refine CO.intro k1 ?_;simp -implicitDefEqProofs only[go_sem];refine CO.intro k2 ?_;simp -implicitDefEqProofs only[go_sem,bc,y0,q0,gs,hn,ap4];refine CO.intro km ?_;simp -implicitDefEqProofs only[go_sem];refine CO.intro ke ?_;simp -implicitDefEqProofs only[go_sem,y0,q0,gs,hn,ap4]
 have r0:Bel (A qe).length (.agg (XC0 c)):=.agg _ (fun i hi=>by
  have:∀y∈(XC0 c:List AV),Bel (A qe).length y:=by
   intro y hy;simp only[List.mem_cons,List.not_mem_nil,or_false]at hy;rcases hy with rfl|rfl|rfl|rfl|rfl|rfl|rfl|rfl|rfl|rfl|rfl|rfl|rfl|rfl|rfl|rfl|rfl|rfl|rfl
   all_goals first|exact .pl _|exact .nils|exact z0u _ _|exact z0F _ _|exact z0w _ _
  exact this _ (List.getElem_mem hi))
 exact Fini.trim2 (σ':=A qe) (ex:=[_,_]) (by simp -implicitDefEqProofs only[go_sem,resA,z03,rvA,oneOf,gs]<;>rfl) rfl (Nat.le_of_eq (by simp only[hn])) r0 (fun o ho=>by
  rw[←hs q qe]at ho;rw[hn];rw[hn]at m0
  exact z1Z (o:=rob b qe) m0 (z3t _ _) o ho)
theorem zjc (q:Nat×Bool) (hq:Inb b q) (c:UInt8) (q1:Nat×Bool) (hc:runR byteR 0 b q=(c,q1)) (ok:Bool) (hf:fOf (c.toNat:Int)=(1,ok)) :
  Ans Tryz.prog 102 [.ptr p 0] (A q) (reV (bodyS b q).1) (A (bodyS b q).2):=by
 obtain⟨u0,q0,gs⟩:=rd_facts A n p b hn hg hs q;have k0:=z1e (A q++[B19]) p b q (u0 _ _) hq hb;have y0:=z0h byteR 0 b q hq
 have e0:bodyS b q=z0P (fun q1=>clS 1 (c.toNat:Int) b (took q1 0 ok)) mayR q1:=by
  unfold bodyS;rw[hc];simp only[hf]
 rw[hc]at k0 y0;rw[e0];simp only at k0 y0;rw[q0]at k0;have k1:=z1m (A q1++[B19,.box (XC1 c (I 0))]) (c.toNat:Int);rw[hf]at k1;have k2:=z0d (A q1++[B19,.box (XC1 c (I 0))]) p b q1 ok (u0 _ _) y0 hb;rw[q0]at k2;have m0:=z1r b q1 ok y0;unfold z0P;simp only;generalize took q1 0 ok=q2 at k2 m0⊢;have wc:IntKind.i64.wrap (c.toNat:Int)=(c.toNat:Int):=wrapI (by have:=c.toNat_lt;omega)
 have h0:clS 1 (c.toNat:Int) b q2=({ x0 (c.toNat:Int) with id:=(((runR (numR 2147483647) 0 b q2).1:Nat):Int) },(runR (numR 2147483647) 0 b q2).2):=rfl
 rw[h0];simp only;have k3:=z21 (A q2++[B19,.box (XC1 c (I 0))]) p b q2 2147483647 (by decide) (u0 _ _) m0 hb
 rw[q0]at k3;have j0:=z0h (numR 2147483647) 0 b q2 m0;have t0:=z2F (most:=2147483647) b q2;generalize runR (numR 2147483647) 0 b q2=w0 at k3 j0 t0⊢;obtain⟨v0,q3⟩:=w0;simp only at k3 j0 t0⊢;have f0:IntKind.i64.wrap (v0:Int)=(v0:Int):=wrapI (by omega)
 have n0:Sub (.agg (XC1 c (I (v0:Nat)))) (reV ({ x0 (c.toNat:Int) with id:=((v0:Nat):Int) })):=.agg (.cons (.refl _) <| .cons (.refl _) <| .cons (.refl _) <| .cons (.refl _) <| .cons (.refl _) <| .cons (.refl _) <| .cons (.refl _) <| .cons (.nils 3) <| .cons (.refl _) <| .cons (.refl _) <| .cons (.refl _) <| .cons (.nils 3) <| .cons (.nils 3) <| .cons (.refl _) <| .cons (.refl _) <| .cons (.refl _) <| .cons (.nils 1) <| .cons (.nils 2) <| .cons (.refl _) <| .nil)
 have km:=(z2o (A q3++[B19,.box (XC1 c (I (v0:Nat)))]) ({ x0 (c.toNat:Int) with id:=((v0:Nat):Int) })).subA (.cons n0 .nil)
 have ke:=z0d (A q3++[B19,.box (XC1 c (I (v0:Nat)))]) p b q3 (mayR ({ x0 (c.toNat:Int) with id:=((v0:Nat):Int) })) (u0 _ _) j0 hb
 rw[q0]at ke;generalize mayR ({ x0 (c.toNat:Int) with id:=((v0:Nat):Int) })=okm at km ke⊢
 generalize took q3 0 okm=qe at ke⊢;refine Ans.subR ?_ n0;refine Ans.of_run' t102 (fun r0 _=>?_)
 simp -implicitDefEqProofs only[c102,r102,go_sem,u0,q0,gs,hn,ap4];refine CO.intro k0 ?_;simp -implicitDefEqProofs only[go_sem,bc,wc,u0,q0,gs,hn,ap4];refine CO.intro k1 ?_;simp -implicitDefEqProofs only[go_sem];refine CO.intro k2 ?_;simp -implicitDefEqProofs only[go_sem,bc,u0,q0,gs,hn,ap4];refine CO.intro k3 ?_;simp -implicitDefEqProofs only[go_sem,bc,f0,u0,q0,gs,hn,ap4];refine CO.intro km ?_;simp -implicitDefEqProofs only[go_sem];refine CO.intro ke ?_;simp -implicitDefEqProofs only[go_sem,u0,q0,gs,hn,ap4]
 have d0:Bel (A qe).length (.agg (XC1 c (I (v0:Nat)))):=.agg _ (fun i hi=>by
  have:∀y∈(XC1 c (I (v0:Nat)):List AV),Bel (A qe).length y:=by
   intro y hy;simp only[List.mem_cons,List.not_mem_nil,or_false]at hy;rcases hy with rfl|rfl|rfl|rfl|rfl|rfl|rfl|rfl|rfl|rfl|rfl|rfl|rfl|rfl|rfl|rfl|rfl|rfl|rfl
   all_goals first|exact .pl _|exact .nils|exact z0u _ _|exact z0F _ _|exact z0w _ _
  exact this _ (List.getElem_mem hi))
 exact Fini.trim2 (σ':=A qe) (ex:=[_,_]) (by simp -implicitDefEqProofs only[go_sem,resA,z03,rvA,oneOf,gs]<;>rfl) rfl (Nat.le_of_eq (by simp only[hn])) d0 (fun o ho=>by
  rw[←hs q qe]at ho;rw[hn];rw[hn]at r0
  exact z1Z (o:=rob b qe) r0 (z3t _ _) o ho)
theorem zjd (q:Nat×Bool) (hq:Inb b q) (c:UInt8) (q1:Nat×Bool) (hc:runR byteR 0 b q=(c,q1)) (ok:Bool) (hf:fOf (c.toNat:Int)=(3,ok)) :
  Ans Tryz.prog 102 [.ptr p 0] (A q) (reV (bodyS b q).1) (A (bodyS b q).2):=by
 obtain⟨u0,y0,gs⟩:=rd_facts A n p b hn hg hs q;have k0:=z1e (A q++[B19]) p b q (u0 _ _) hq hb;have j0:=z0h byteR 0 b q hq
 have h0:bodyS b q=z0P (fun q1=>clS 3 (c.toNat:Int) b (took q1 0 ok)) mayR q1:=by
  unfold bodyS;rw[hc];simp only[hf]
 rw[hc]at k0 j0;rw[h0];simp only at k0 j0;rw[y0]at k0;have k1:=z1m (A q1++[B19,.box (XC3 c (I 0) (Sx ⟨#[]⟩))]) (c.toNat:Int);rw[hf]at k1;have k2:=z0d (A q1++[B19,.box (XC3 c (I 0) (Sx ⟨#[]⟩))]) p b q1 ok (u0 _ _) j0 hb;rw[y0]at k2;have n0:=z1r b q1 ok j0;unfold z0P;simp only;generalize took q1 0 ok=q2 at k2 n0⊢;have wc:IntKind.i64.wrap (c.toNat:Int)=(c.toNat:Int):=wrapI (by have:=c.toNat_lt;omega)
 have l0:clS 3 (c.toNat:Int) b q2=({ x0 (c.toNat:Int) with id:=(((runR (numR 2147483647) 0 b q2).1:Nat):Int),txt:=(runR (textR 16) ⟨#[]⟩ b (runR (numR 2147483647) 0 b q2).2).1 },(runR (textR 16) ⟨#[]⟩ b (runR (numR 2147483647) 0 b q2).2).2):=rfl
 rw[l0];simp only;have k3:=z21 (A q2++[B19,.box (XC3 c (I 0) (Sx ⟨#[]⟩))]) p b q2 2147483647 (by decide) (u0 _ _) n0 hb
 rw[y0]at k3;have q0:=z0h (numR 2147483647) 0 b q2 n0;have e0:=z2F (most:=2147483647) b q2;generalize runR (numR 2147483647) 0 b q2=w0 at k3 q0 e0⊢;obtain⟨v0,q3⟩:=w0;simp only at k3 q0 e0⊢;have d0:IntKind.i64.wrap (v0:Int)=(v0:Int):=wrapI (by omega)
 have k4:=z2L (A q3++[B19,.box (XC3 c (I (v0:Nat)) (Sx ⟨#[]⟩))]) p b q3 16 (by decide) (u0 _ _) q0 hb
 rw[y0]at k4;have m0:=z0h (textR 16) ⟨#[]⟩ b q3 q0;generalize runR (textR 16) ⟨#[]⟩ b q3=w1 at k4 m0⊢;obtain⟨v1,q4⟩:=w1;simp only at k4 m0⊢;have r0:Sub (.agg (XC3 c (I (v0:Nat)) (Sx v1))) (reV ({ x0 (c.toNat:Int) with id:=((v0:Nat):Int),txt:=v1 })):=.agg (.cons (.refl _) <| .cons (.refl _) <| .cons (.refl _) <| .cons (.refl _) <| .cons (.refl _) <| .cons (.refl _) <| .cons (.refl _) <| .cons (.nils 3) <| .cons (.refl _) <| .cons (.refl _) <| .cons (.refl _) <| .cons (.nils 3) <| .cons (.nils 3) <| .cons (.refl _) <| .cons (.refl _) <| .cons (.refl _) <| .cons (.nils 1) <| .cons (.nils 2) <| .cons (.refl _) <| .nil)
 have km:=(z2o (A q4++[B19,.box (XC3 c (I (v0:Nat)) (Sx v1))]) ({ x0 (c.toNat:Int) with id:=((v0:Nat):Int),txt:=v1 })).subA (.cons r0 .nil)
 have ke:=z0d (A q4++[B19,.box (XC3 c (I (v0:Nat)) (Sx v1))]) p b q4 (mayR ({ x0 (c.toNat:Int) with id:=((v0:Nat):Int),txt:=v1 })) (u0 _ _) m0 hb
 rw[y0]at ke;generalize mayR ({ x0 (c.toNat:Int) with id:=((v0:Nat):Int),txt:=v1 })=okm at km ke⊢
 generalize took q4 0 okm=qe at ke⊢;refine Ans.subR ?_ r0;refine Ans.of_run' t102 (fun t0 _=>?_)
 simp -implicitDefEqProofs only[c102,r102,go_sem,u0,y0,gs,hn,ap4];refine CO.intro k0 ?_;simp -implicitDefEqProofs only[go_sem,bc,wc,u0,y0,gs,hn,ap4];refine CO.intro k1 ?_;simp -implicitDefEqProofs only[go_sem];refine CO.intro k2 ?_;simp -implicitDefEqProofs only[go_sem,bc,u0,y0,gs,hn,ap4];refine CO.intro k3 ?_;simp -implicitDefEqProofs only[go_sem,bc,d0,u0,y0,gs,hn,ap4];refine CO.intro k4 ?_;simp -implicitDefEqProofs only[go_sem,bc,d0,u0,y0,gs,hn,ap4];refine CO.intro km ?_;simp -implicitDefEqProofs only[go_sem];refine CO.intro ke ?_;simp -implicitDefEqProofs only[go_sem,u0,y0,gs,hn,ap4]
 have f0:Bel (A qe).length (.agg (XC3 c (I (v0:Nat)) (Sx v1))):=.agg _ (fun i hi=>by
  have:∀y∈(XC3 c (I (v0:Nat)) (Sx v1):List AV),Bel (A qe).length y:=by
   intro y hy;simp only[List.mem_cons,List.not_mem_nil,or_false]at hy;rcases hy with rfl|rfl|rfl|rfl|rfl|rfl|rfl|rfl|rfl|rfl|rfl|rfl|rfl|rfl|rfl|rfl|rfl|rfl|rfl
   all_goals first|exact .pl _|exact .nils|exact z0u _ _|exact z0F _ _|exact z0w _ _
  exact this _ (List.getElem_mem hi))
 exact Fini.trim2 (σ':=A qe) (ex:=[_,_]) (by simp -implicitDefEqProofs only[go_sem,resA,z03,rvA,oneOf,gs]<;>rfl) rfl (Nat.le_of_eq (by simp only[hn])) f0 (fun o ho=>by
  rw[←hs q qe]at ho;rw[hn];rw[hn]at t0
  exact z1Z (o:=rob b qe) t0 (z3t _ _) o ho)
end
section
variable (A:Nat×Bool→St) (n p:Nat) (b:Byt) (hn:∀q,(A q).length=n) (hg:∀q,(A q)[p]?=some (rob b q)) (hs:∀q q',(A q).set p (rob b q')=A q') (hb:b.length≤50000)
include hn hg hs hb
theorem zfI (q:Nat×Bool) (hq:Inb b q) (c:UInt8) (q1:Nat×Bool) (hc:runR byteR 0 b q=(c,q1)) (ok:Bool) (hf:fOf (c.toNat:Int)=(116,ok)) :
  Ans Tryz.prog 102 [.ptr p 0] (A q) (reV (bodyS b q).1) (A (bodyS b q).2):=by
 obtain⟨u0,y0,gs⟩:=rd_facts A n p b hn hg hs q;have k0:=z1e (A q++[B19]) p b q (u0 _ _) hq hb;have n0:=z0h byteR 0 b q hq
 have o0:bodyS b q=z0P (fun q1=>clS 116 (c.toNat:Int) b (took q1 0 ok)) mayR q1:=by
  unfold bodyS;rw[hc];simp only[hf]
 rw[hc]at k0 n0;rw[o0];simp only at k0 n0;rw[y0]at k0;have k1:=z1m (A q1++[B19,.box (XC116 c (UN 0) (UN 0) .nils (Bo false) (Fl 0) (Fl 0))]) (c.toNat:Int);rw[hf]at k1;have k2:=z0d (A q1++[B19,.box (XC116 c (UN 0) (UN 0) .nils (Bo false) (Fl 0) (Fl 0))]) p b q1 ok (u0 _ _) n0 hb;rw[y0]at k2;have t0:=z1r b q1 ok n0;unfold z0P;simp only;generalize took q1 0 ok=q2 at k2 t0⊢;have wc:IntKind.i64.wrap (c.toNat:Int)=(c.toNat:Int):=wrapI (by have:=c.toNat_lt;omega)
 have u1:clS 116 (c.toNat:Int) b q2=(mk116 (c.toNat:Int) ((runR (numR 1099511627776) 0 b q2).1,(runR (numR 1099511627776) 0 b (runR (numR 1099511627776) 0 b q2).2).1,(runR listR [] b (runR (numR 1099511627776) 0 b (runR (numR 1099511627776) 0 b q2).2).2).1,(runR bandR (false,0,0) b (runR listR [] b (runR (numR 1099511627776) 0 b (runR (numR 1099511627776) 0 b q2).2).2).2).1),(runR bandR (false,0,0) b (runR listR [] b (runR (numR 1099511627776) 0 b (runR (numR 1099511627776) 0 b q2).2).2).2).2):=rfl;rw[u1];simp only;have k3:=z21 (A q2++[B19,.box (XC116 c (UN 0) (UN 0) .nils (Bo false) (Fl 0) (Fl 0))]) p b q2 1099511627776 (by decide) (u0 _ _) t0 hb
 rw[y0]at k3;have j0:=z0h (numR 1099511627776) 0 b q2 t0;have f0:=z2F (most:=1099511627776) b q2;generalize runR (numR 1099511627776) 0 b q2=w0 at k3 j0 f0⊢;obtain⟨v0,q3⟩:=w0;simp only at k3 j0 f0⊢;have k4:=z21 (A q3++[B19,.box (XC116 c (UN 0) (UN 0) .nils (Bo false) (Fl 0) (Fl 0))]) p b q3 1099511627776 (by decide) (u0 _ _) j0 hb
 rw[y0]at k4;have m0:=z0h (numR 1099511627776) 0 b q3 j0;have h0:=z2F (most:=1099511627776) b q3;generalize runR (numR 1099511627776) 0 b q3=w1 at k4 m0 h0⊢;obtain⟨v1,q4⟩:=w1;simp only at k4 m0 h0⊢;have k5:=z8M (A q4++[B19,.box (XC116 c (UN v0) (UN v1) .nils (Bo false) (Fl 0) (Fl 0))]) p b q4 (u0 _ _) m0 hb;rw[y0]at k5;have q0:=z0h listR [] b q4 m0;generalize runR listR [] b q4=w2 at k5 q0⊢;obtain⟨v2,q5⟩:=w2;simp only at k5 q0⊢;have k6:=zdx (A q5++[B19,.box (XC116 c (UN v0) (UN v1) (mlV v2) (Bo false) (Fl 0) (Fl 0))]) p b q5 (u0 _ _) q0 hb;rw[y0]at k6;have r0:=z0h bandR (false,0,0) b q5 q0;generalize runR bandR (false,0,0) b q5=w3 at k6 r0⊢;obtain⟨v3,q6⟩:=w3;simp only at k6 r0⊢;obtain⟨ba,bl,bh⟩:=v3;unfold bandV at k6;simp only at k6⊢;have d0:Sub (.agg (XC116 c (UN v0) (UN v1) (mlV v2) (Bo ba) (Fl bl) (Fl bh))) (reV (mk116 (c.toNat:Int) (v0,v1,v2,(ba,bl,bh)))):=.agg (.cons (.refl _) <| .cons (.refl _) <| .cons (.refl _) <| .cons (.refl _) <| .cons (.refl _) <| .cons (.refl _) <| .cons (.refl _) <| .cons (.refl _) <| .cons (.refl _) <| .cons (.refl _) <| .cons (.refl _) <| .cons (.nils 3) <| .cons (.nils 3) <| .cons (.refl _) <| .cons (.refl _) <| .cons (.refl _) <| .cons (.nils 1) <| .cons (.nils 2) <| .cons (.refl _) <| .nil);have km:=(z2o (A q6++[B19,.box (XC116 c (UN v0) (UN v1) (mlV v2) (Bo ba) (Fl bl) (Fl bh))]) (mk116 (c.toNat:Int) (v0,v1,v2,(ba,bl,bh)))).subA (.cons d0 .nil)
 have ke:=z0d (A q6++[B19,.box (XC116 c (UN v0) (UN v1) (mlV v2) (Bo ba) (Fl bl) (Fl bh))]) p b q6 (mayR (mk116 (c.toNat:Int) (v0,v1,v2,(ba,bl,bh)))) (u0 _ _) r0 hb;rw[y0]at ke;generalize mayR (mk116 (c.toNat:Int) (v0,v1,v2,(ba,bl,bh)))=okm at km ke⊢;generalize took q6 0 okm=qe at ke⊢;refine Ans.subR ?_ d0;refine Ans.of_run' t102 (fun e0 _=>?_)
 simp -implicitDefEqProofs only[c102,r102,go_sem,u0,y0,gs,hn,ap4];refine CO.intro k0 ?_;simp -implicitDefEqProofs only[go_sem,bc,wc,u0,y0,gs,hn,ap4];refine CO.intro k1 ?_;simp -implicitDefEqProofs only[go_sem];refine CO.intro k2 ?_;simp -implicitDefEqProofs only[go_sem,bc,u0,y0,gs,hn,ap4];refine CO.intro k3 ?_;simp -implicitDefEqProofs only[go_sem,bc,u0,y0,gs,hn,ap4];refine CO.intro k4 ?_;simp -implicitDefEqProofs only[go_sem,bc,u0,y0,gs,hn,ap4];refine CO.intro k5 ?_;simp -implicitDefEqProofs only[go_sem,bc,u0,y0,gs,hn,ap4];refine CO.intro k6 ?_;simp -implicitDefEqProofs only[go_sem,bc,u0,y0,gs,hn,ap4];refine CO.intro km ?_;simp -implicitDefEqProofs only[go_sem];refine CO.intro ke ?_;simp -implicitDefEqProofs only[go_sem,u0,y0,gs,hn,ap4]
 have l0:Bel (A qe).length (.agg (XC116 c (UN v0) (UN v1) (mlV v2) (Bo ba) (Fl bl) (Fl bh))):=.agg _ (fun i hi=>by
  have:∀y∈(XC116 c (UN v0) (UN v1) (mlV v2) (Bo ba) (Fl bl) (Fl bh):List AV),Bel (A qe).length y:=by
   intro y hy;simp only[List.mem_cons,List.not_mem_nil,or_false]at hy;rcases hy with rfl|rfl|rfl|rfl|rfl|rfl|rfl|rfl|rfl|rfl|rfl|rfl|rfl|rfl|rfl|rfl|rfl|rfl|rfl
   all_goals first|exact .pl _|exact .nils|exact z0u _ _|exact z0F _ _|exact z0w _ _
  exact this _ (List.getElem_mem hi))
 exact Fini.trim2 (σ':=A qe) (ex:=[_,_]) (by simp -implicitDefEqProofs only[go_sem,resA,z03,rvA,oneOf,gs]<;>rfl) rfl (Nat.le_of_eq (by simp only[hn])) l0 (fun o ho=>by
  rw[←hs q qe]at ho;rw[hn];rw[hn]at e0
  exact z1Z (o:=rob b qe) e0 (z3t _ _) o ho)
theorem zfJ (q:Nat×Bool) (hq:Inb b q) (c:UInt8) (q1:Nat×Bool) (hc:runR byteR 0 b q=(c,q1)) (ok:Bool) (hf:fOf (c.toNat:Int)=(117,ok)) :
  Ans Tryz.prog 102 [.ptr p 0] (A q) (reV (bodyS b q).1) (A (bodyS b q).2):=by
 obtain⟨u0,y0,gs⟩:=rd_facts A n p b hn hg hs q;have k0:=z1e (A q++[B19]) p b q (u0 _ _) hq hb;have r0:=z0h byteR 0 b q hq
 have y1:bodyS b q=z0P (fun q1=>clS 117 (c.toNat:Int) b (took q1 0 ok)) mayR q1:=by
  unfold bodyS;rw[hc];simp only[hf]
 rw[hc]at k0 r0;rw[y1];simp only at k0 r0;rw[y0]at k0;have k1:=z1m (A q1++[B19,.box (XC117 c (I 0) (UN 0) (UN 0) .nils (Bo false) (Fl 0) (Fl 0))]) (c.toNat:Int);rw[hf]at k1;have k2:=z0d (A q1++[B19,.box (XC117 c (I 0) (UN 0) (UN 0) .nils (Bo false) (Fl 0) (Fl 0))]) p b q1 ok (u0 _ _) r0 hb;rw[y0]at k2;have d0:=z1r b q1 ok r0;unfold z0P;simp only;generalize took q1 0 ok=q2 at k2 d0⊢;have wc:IntKind.i64.wrap (c.toNat:Int)=(c.toNat:Int):=wrapI (by have:=c.toNat_lt;omega)
 have j1:clS 117 (c.toNat:Int) b q2=(mk117 (c.toNat:Int) ((runR (numR 2147483647) 0 b q2).1,(runR (numR 1099511627776) 0 b (runR (numR 2147483647) 0 b q2).2).1,(runR (numR 1099511627776) 0 b (runR (numR 1099511627776) 0 b (runR (numR 2147483647) 0 b q2).2).2).1,(runR listR [] b (runR (numR 1099511627776) 0 b (runR (numR 1099511627776) 0 b (runR (numR 2147483647) 0 b q2).2).2).2).1,(runR bandR (false,0,0) b (runR listR [] b (runR (numR 1099511627776) 0 b (runR (numR 1099511627776) 0 b (runR (numR 2147483647) 0 b q2).2).2).2).2).1),(runR bandR (false,0,0) b (runR listR [] b (runR (numR 1099511627776) 0 b (runR (numR 1099511627776) 0 b (runR (numR 2147483647) 0 b q2).2).2).2).2).2):=rfl;rw[j1];simp only;have k3:=z21 (A q2++[B19,.box (XC117 c (I 0) (UN 0) (UN 0) .nils (Bo false) (Fl 0) (Fl 0))]) p b q2 2147483647 (by decide) (u0 _ _) d0 hb
 rw[y0]at k3;have j0:=z0h (numR 2147483647) 0 b q2 d0;have l0:=z2F (most:=2147483647) b q2;generalize runR (numR 2147483647) 0 b q2=w0 at k3 j0 l0⊢;obtain⟨v0,q3⟩:=w0;simp only at k3 j0 l0⊢;have e0:IntKind.i64.wrap (v0:Int)=(v0:Int):=wrapI (by omega)
 have k4:=z21 (A q3++[B19,.box (XC117 c (I (v0:Nat)) (UN 0) (UN 0) .nils (Bo false) (Fl 0) (Fl 0))]) p b q3 1099511627776 (by decide) (u0 _ _) j0 hb
 rw[y0]at k4;have n0:=z0h (numR 1099511627776) 0 b q3 j0;have u1:=z2F (most:=1099511627776) b q3;generalize runR (numR 1099511627776) 0 b q3=w1 at k4 n0 u1⊢;obtain⟨v1,q4⟩:=w1;simp only at k4 n0 u1⊢;have k5:=z21 (A q4++[B19,.box (XC117 c (I (v0:Nat)) (UN 0) (UN 0) .nils (Bo false) (Fl 0) (Fl 0))]) p b q4 1099511627776 (by decide) (u0 _ _) n0 hb
 rw[y0]at k5;have q0:=z0h (numR 1099511627776) 0 b q4 n0;have o0:=z2F (most:=1099511627776) b q4;generalize runR (numR 1099511627776) 0 b q4=w2 at k5 q0 o0⊢;obtain⟨v2,q5⟩:=w2;simp only at k5 q0 o0⊢;have k6:=z8M (A q5++[B19,.box (XC117 c (I (v0:Nat)) (UN v1) (UN v2) .nils (Bo false) (Fl 0) (Fl 0))]) p b q5 (u0 _ _) q0 hb;rw[y0]at k6;have m0:=z0h listR [] b q5 q0;generalize runR listR [] b q5=w3 at k6 m0⊢;obtain⟨v3,q6⟩:=w3;simp only at k6 m0⊢;have k7:=zdx (A q6++[B19,.box (XC117 c (I (v0:Nat)) (UN v1) (UN v2) (mlV v3) (Bo false) (Fl 0) (Fl 0))]) p b q6 (u0 _ _) m0 hb;rw[y0]at k7;have t0:=z0h bandR (false,0,0) b q6 m0;generalize runR bandR (false,0,0) b q6=w4 at k7 t0⊢;obtain⟨v4,q7⟩:=w4;simp only at k7 t0⊢;obtain⟨ba,bl,bh⟩:=v4;unfold bandV at k7;simp only at k7⊢;have f0:Sub (.agg (XC117 c (I (v0:Nat)) (UN v1) (UN v2) (mlV v3) (Bo ba) (Fl bl) (Fl bh))) (reV (mk117 (c.toNat:Int) (v0,v1,v2,v3,(ba,bl,bh)))):=.agg (.cons (.refl _) <| .cons (.refl _) <| .cons (.refl _) <| .cons (.refl _) <| .cons (.refl _) <| .cons (.refl _) <| .cons (.refl _) <| .cons (.refl _) <| .cons (.refl _) <| .cons (.refl _) <| .cons (.refl _) <| .cons (.nils 3) <| .cons (.nils 3) <| .cons (.refl _) <| .cons (.refl _) <| .cons (.refl _) <| .cons (.nils 1) <| .cons (.nils 2) <| .cons (.refl _) <| .nil);have km:=(z2o (A q7++[B19,.box (XC117 c (I (v0:Nat)) (UN v1) (UN v2) (mlV v3) (Bo ba) (Fl bl) (Fl bh))]) (mk117 (c.toNat:Int) (v0,v1,v2,v3,(ba,bl,bh)))).subA (.cons f0 .nil)
 have ke:=z0d (A q7++[B19,.box (XC117 c (I (v0:Nat)) (UN v1) (UN v2) (mlV v3) (Bo ba) (Fl bl) (Fl bh))]) p b q7 (mayR (mk117 (c.toNat:Int) (v0,v1,v2,v3,(ba,bl,bh)))) (u0 _ _) t0 hb;rw[y0]at ke;generalize mayR (mk117 (c.toNat:Int) (v0,v1,v2,v3,(ba,bl,bh)))=okm at km ke⊢;generalize took q7 0 okm=qe at ke⊢;refine Ans.subR ?_ f0;refine Ans.of_run' t102 (fun h0 _=>?_)
 simp -implicitDefEqProofs only[c102,r102,go_sem,u0,y0,gs,hn,ap4];refine CO.intro k0 ?_;simp -implicitDefEqProofs only[go_sem,bc,wc,u0,y0,gs,hn,ap4];refine CO.intro k1 ?_;simp -implicitDefEqProofs only[go_sem];refine CO.intro k2 ?_;simp -implicitDefEqProofs only[go_sem,bc,u0,y0,gs,hn,ap4];refine CO.intro k3 ?_;simp -implicitDefEqProofs only[go_sem,bc,e0,u0,y0,gs,hn,ap4];refine CO.intro k4 ?_;simp -implicitDefEqProofs only[go_sem,bc,e0,u0,y0,gs,hn,ap4];refine CO.intro k5 ?_;simp -implicitDefEqProofs only[go_sem,bc,e0,u0,y0,gs,hn,ap4];refine CO.intro k6 ?_;simp -implicitDefEqProofs only[go_sem,bc,e0,u0,y0,gs,hn,ap4];refine CO.intro k7 ?_;simp -implicitDefEqProofs only[go_sem,bc,e0,u0,y0,gs,hn,ap4];refine CO.intro km ?_;simp -implicitDefEqProofs only[go_sem];refine CO.intro ke ?_;simp -implicitDefEqProofs only[go_sem,u0,y0,gs,hn,ap4]
 have x1:Bel (A qe).length (.agg (XC117 c (I (v0:Nat)) (UN v1) (UN v2) (mlV v3) (Bo ba) (Fl bl) (Fl bh))):=.agg _ (fun i hi=>by
  have:∀y∈(XC117 c (I (v0:Nat)) (UN v1) (UN v2) (mlV v3) (Bo ba) (Fl bl) (Fl bh):List AV),Bel (A qe).length y:=by
   intro y hy;simp only[List.mem_cons,List.not_mem_nil,or_false]at hy;rcases hy with rfl|rfl|rfl|rfl|rfl|rfl|rfl|rfl|rfl|rfl|rfl|rfl|rfl|rfl|rfl|rfl|rfl|rfl|rfl
   all_goals first|exact .pl _|exact .nils|exact z0u _ _|exact z0F _ _|exact z0w _ _
  exact this _ (List.getElem_mem hi))
 exact Fini.trim2 (σ':=A qe) (ex:=[_,_]) (by simp -implicitDefEqProofs only[go_sem,resA,z03,rvA,oneOf,gs]<;>rfl) rfl (Nat.le_of_eq (by simp only[hn])) x1 (fun o ho=>by
  rw[←hs q qe]at ho;rw[hn];rw[hn]at h0
  exact z1Z (o:=rob b qe) h0 (z3t _ _) o ho)
end
section
variable (A:Nat×Bool→St) (n p:Nat) (b:Byt) (hn:∀q,(A q).length=n) (hg:∀q,(A q)[p]?=some (rob b q)) (hs:∀q q',(A q).set p (rob b q')=A q') (hb:b.length≤50000)
include hn hg hs hb
theorem zje (q:Nat×Bool) (hq:Inb b q) (c:UInt8) (q1:Nat×Bool) (hc:runR byteR 0 b q=(c,q1)) (ok:Bool) (hf:fOf (c.toNat:Int)=(8,ok)) :
  Ans Tryz.prog 102 [.ptr p 0] (A q) (reV (bodyS b q).1) (A (bodyS b q).2):=by
 obtain⟨u0,q0,gs⟩:=rd_facts A n p b hn hg hs q;have k0:=z1e (A q++[B19]) p b q (u0 _ _) hq hb;have y0:=z0h byteR 0 b q hq
 have d0:bodyS b q=z0P (fun q1=>clS 8 (c.toNat:Int) b (took q1 0 ok)) mayR q1:=by
  unfold bodyS;rw[hc];simp only[hf]
 rw[hc]at k0 y0;rw[d0];simp only at k0 y0;rw[q0]at k0;have k1:=z1m (A q1++[B19,.box (XC8 c (I 0))]) (c.toNat:Int);rw[hf]at k1;have k2:=z0d (A q1++[B19,.box (XC8 c (I 0))]) p b q1 ok (u0 _ _) y0 hb;rw[q0]at k2;have m0:=z1r b q1 ok y0;unfold z0P;simp only;generalize took q1 0 ok=q2 at k2 m0⊢;have wc:IntKind.i64.wrap (c.toNat:Int)=(c.toNat:Int):=wrapI (by have:=c.toNat_lt;omega)
 have f0:clS 8 (c.toNat:Int) b q2=({ x0 (c.toNat:Int) with sta:=((((runR byteR 0 b q2).1).toNat:Nat):Int) },(runR byteR 0 b q2).2):=rfl
 rw[f0];simp only;have k3:=z1e (A q2++[B19,.box (XC8 c (I 0))]) p b q2 (u0 _ _) m0 hb;rw[q0]at k3;have j0:=z0h byteR 0 b q2 m0;generalize runR byteR 0 b q2=w0 at k3 j0⊢;obtain⟨v0,q3⟩:=w0;simp only at k3 j0⊢;have e0:IntKind.i64.wrap (v0.toNat:Int)=(v0.toNat:Int):=wrapI (by have:=v0.toNat_lt;omega)
 have n0:Sub (.agg (XC8 c (I (v0.toNat:Nat)))) (reV ({ x0 (c.toNat:Int) with sta:=(((v0).toNat:Nat):Int) })):=.agg (.cons (.refl _) <| .cons (.refl _) <| .cons (.refl _) <| .cons (.refl _) <| .cons (.refl _) <| .cons (.refl _) <| .cons (.refl _) <| .cons (.nils 3) <| .cons (.refl _) <| .cons (.refl _) <| .cons (.refl _) <| .cons (.nils 3) <| .cons (.nils 3) <| .cons (.refl _) <| .cons (.refl _) <| .cons (.refl _) <| .cons (.nils 1) <| .cons (.nils 2) <| .cons (.refl _) <| .nil)
 have km:=(z2o (A q3++[B19,.box (XC8 c (I (v0.toNat:Nat)))]) ({ x0 (c.toNat:Int) with sta:=(((v0).toNat:Nat):Int) })).subA (.cons n0 .nil)
 have ke:=z0d (A q3++[B19,.box (XC8 c (I (v0.toNat:Nat)))]) p b q3 (mayR ({ x0 (c.toNat:Int) with sta:=(((v0).toNat:Nat):Int) })) (u0 _ _) j0 hb
 rw[q0]at ke;generalize mayR ({ x0 (c.toNat:Int) with sta:=(((v0).toNat:Nat):Int) })=okm at km ke⊢
 generalize took q3 0 okm=qe at ke⊢;refine Ans.subR ?_ n0;refine Ans.of_run' t102 (fun r0 _=>?_)
 simp -implicitDefEqProofs only[c102,r102,go_sem,u0,q0,gs,hn,ap4];refine CO.intro k0 ?_;simp -implicitDefEqProofs only[go_sem,bc,wc,u0,q0,gs,hn,ap4];refine CO.intro k1 ?_;simp -implicitDefEqProofs only[go_sem];refine CO.intro k2 ?_;simp -implicitDefEqProofs only[go_sem,bc,u0,q0,gs,hn,ap4];refine CO.intro k3 ?_;simp -implicitDefEqProofs only[go_sem,bc,e0,u0,q0,gs,hn,ap4];refine CO.intro km ?_;simp -implicitDefEqProofs only[go_sem];refine CO.intro ke ?_;simp -implicitDefEqProofs only[go_sem,u0,q0,gs,hn,ap4]
 have t0:Bel (A qe).length (.agg (XC8 c (I (v0.toNat:Nat)))):=.agg _ (fun i hi=>by
  have:∀y∈(XC8 c (I (v0.toNat:Nat)):List AV),Bel (A qe).length y:=by
   intro y hy;simp only[List.mem_cons,List.not_mem_nil,or_false]at hy;rcases hy with rfl|rfl|rfl|rfl|rfl|rfl|rfl|rfl|rfl|rfl|rfl|rfl|rfl|rfl|rfl|rfl|rfl|rfl|rfl
   all_goals first|exact .pl _|exact .nils|exact z0u _ _|exact z0F _ _|exact z0w _ _
  exact this _ (List.getElem_mem hi))
 exact Fini.trim2 (σ':=A qe) (ex:=[_,_]) (by simp -implicitDefEqProofs only[go_sem,resA,z03,rvA,oneOf,gs]<;>rfl) rfl (Nat.le_of_eq (by simp only[hn])) t0 (fun o ho=>by
  rw[←hs q qe]at ho;rw[hn];rw[hn]at r0
  exact z1Z (o:=rob b qe) r0 (z3t _ _) o ho)
theorem zfK (q:Nat×Bool) (hq:Inb b q) (c:UInt8) (q1:Nat×Bool) (hc:runR byteR 0 b q=(c,q1)) (ok:Bool) (hf:fOf (c.toNat:Int)=(128,ok)) :
  Ans Tryz.prog 102 [.ptr p 0] (A q) (reV (bodyS b q).1) (A (bodyS b q).2):=by
 obtain⟨u0,q0,gs⟩:=rd_facts A n p b hn hg hs q;have k0:=z1e (A q++[B19]) p b q (u0 _ _) hq hb;have y0:=z0h byteR 0 b q hq
 have d0:bodyS b q=z0P (fun q1=>clS 128 (c.toNat:Int) b (took q1 0 ok)) mayR q1:=by
  unfold bodyS;rw[hc];simp only[hf]
 rw[hc]at k0 y0;rw[d0];simp only at k0 y0;rw[q0]at k0;have k1:=z1m (A q1++[B19,.box (XC128 c .nils .nils (Bo false) (Fl 0) (Fl 0) .nils)]) (c.toNat:Int);rw[hf]at k1;have k2:=z0d (A q1++[B19,.box (XC128 c .nils .nils (Bo false) (Fl 0) (Fl 0) .nils)]) p b q1 ok (u0 _ _) y0 hb;rw[q0]at k2;have m0:=z1r b q1 ok y0;unfold z0P;simp only;generalize took q1 0 ok=q2 at k2 m0⊢;have wc:IntKind.i64.wrap (c.toNat:Int)=(c.toNat:Int):=wrapI (by have:=c.toNat_lt;omega)
 have e0:clS 128 (c.toNat:Int) b q2=({ x0 (c.toNat:Int) with ru:=(runR ruR noRu b q2).1 },(runR ruR noRu b q2).2):=rfl
 rw[e0];simp only;have k3:=zj2 (A q2++[B19,.box (XC128 c .nils .nils (Bo false) (Fl 0) (Fl 0) .nils)]) p b q2 (u0 _ _) m0 hb;rw[q0]at k3;have j0:=z0h ruR noRu b q2 m0;generalize runR ruR noRu b q2=w0 at k3 j0⊢;obtain⟨v0,q3⟩:=w0;simp only at k3 j0⊢;obtain⟨rs,rt,ra,rl,rh,re⟩:=v0;unfold ruV at k3;simp only at k3⊢;have n0:Sub (.agg (XC128 c (mlV rs) (mlV rt) (Bo ra) (Fl rl) (Fl rh) (.sl 1 (txs re)))) (reV ({ x0 (c.toNat:Int) with ru:=⟨rs,rt,ra,rl,rh,re⟩ })):=.agg (.cons (.refl _) <| .cons (.refl _) <| .cons (.refl _) <| .cons (.refl _) <| .cons (.refl _) <| .cons (.refl _) <| .cons (.refl _) <| .cons (.nils 3) <| .cons (.refl _) <| .cons (.refl _) <| .cons (.refl _) <| .cons (.refl _) <| .cons (.refl _) <| .cons (.refl _) <| .cons (.refl _) <| .cons (.refl _) <| .cons (.refl _) <| .cons (.nils 2) <| .cons (.refl _) <| .nil)
 have km:=(z2o (A q3++[B19,.box (XC128 c (mlV rs) (mlV rt) (Bo ra) (Fl rl) (Fl rh) (.sl 1 (txs re)))]) ({ x0 (c.toNat:Int) with ru:=⟨rs,rt,ra,rl,rh,re⟩ })).subA (.cons n0 .nil)
 have ke:=z0d (A q3++[B19,.box (XC128 c (mlV rs) (mlV rt) (Bo ra) (Fl rl) (Fl rh) (.sl 1 (txs re)))]) p b q3 (mayR ({ x0 (c.toNat:Int) with ru:=⟨rs,rt,ra,rl,rh,re⟩ })) (u0 _ _) j0 hb
 rw[q0]at ke;generalize mayR ({ x0 (c.toNat:Int) with ru:=⟨rs,rt,ra,rl,rh,re⟩ })=okm at km ke⊢
 generalize took q3 0 okm=qe at ke⊢;refine Ans.subR ?_ n0;refine Ans.of_run' t102 (fun r0 _=>?_)
 simp -implicitDefEqProofs only[c102,r102,go_sem,u0,q0,gs,hn,ap4];refine CO.intro k0 ?_;simp -implicitDefEqProofs only[go_sem,bc,wc,u0,q0,gs,hn,ap4];refine CO.intro k1 ?_;simp -implicitDefEqProofs only[go_sem];refine CO.intro k2 ?_;simp -implicitDefEqProofs only[go_sem,bc,u0,q0,gs,hn,ap4];refine CO.intro k3 ?_;simp -implicitDefEqProofs only[go_sem,bc,u0,q0,gs,hn,ap4];refine CO.intro km ?_;simp -implicitDefEqProofs only[go_sem];refine CO.intro ke ?_;simp -implicitDefEqProofs only[go_sem,u0,q0,gs,hn,ap4]
 have t0:Bel (A qe).length (.agg (XC128 c (mlV rs) (mlV rt) (Bo ra) (Fl rl) (Fl rh) (.sl 1 (txs re)))):=.agg _ (fun i hi=>by
  have:∀y∈(XC128 c (mlV rs) (mlV rt) (Bo ra) (Fl rl) (Fl rh) (.sl 1 (txs re)):List AV),Bel (A qe).length y:=by
   intro y hy;simp only[List.mem_cons,List.not_mem_nil,or_false]at hy;rcases hy with rfl|rfl|rfl|rfl|rfl|rfl|rfl|rfl|rfl|rfl|rfl|rfl|rfl|rfl|rfl|rfl|rfl|rfl|rfl
   all_goals first|exact .pl _|exact .nils|exact z0u _ _|exact z0F _ _|exact z0w _ _
  exact this _ (List.getElem_mem hi))
 exact Fini.trim2 (σ':=A qe) (ex:=[_,_]) (by simp -implicitDefEqProofs only[go_sem,resA,z03,rvA,oneOf,gs]<;>rfl) rfl (Nat.le_of_eq (by simp only[hn])) t0 (fun o ho=>by
  rw[←hs q qe]at ho;rw[hn];rw[hn]at r0
  exact z1Z (o:=rob b qe) r0 (z3t _ _) o ho)
end
section
variable (A:Nat×Bool→St) (n p:Nat) (b:Byt) (hn:∀q,(A q).length=n) (hg:∀q,(A q)[p]?=some (rob b q)) (hs:∀q q',(A q).set p (rob b q')=A q') (hb:b.length≤50000)
include hn hg hs hb
theorem zfL (q:Nat×Bool) (hq:Inb b q) (c:UInt8) (q1:Nat×Bool) (hc:runR byteR 0 b q=(c,q1)) (ok:Bool) (hf:fOf (c.toNat:Int)=(768,ok)) :
  Ans Tryz.prog 102 [.ptr p 0] (A q) (reV (bodyS b q).1) (A (bodyS b q).2):=by
 obtain⟨y0,q0,gs⟩:=rd_facts A n p b hn hg hs q;have k0:=z1e (A q++[B19]) p b q (y0 _ _) hq hb;have m0:=z0h byteR 0 b q hq
 have e0:bodyS b q=z0P (fun q1=>clS 768 (c.toNat:Int) b (took q1 0 ok)) mayR q1:=by
  unfold bodyS;rw[hc];simp only[hf]
 rw[hc]at k0 m0;rw[e0];simp only at k0 m0;rw[q0]at k0;have k1:=z1m (A q1++[B19,.box (XC768 c .nils (Fl 0))]) (c.toNat:Int);rw[hf]at k1;have k2:=z0d (A q1++[B19,.box (XC768 c .nils (Fl 0))]) p b q1 ok (y0 _ _) m0 hb;rw[q0]at k2;have n0:=z1r b q1 ok m0;unfold z0P;simp only;generalize took q1 0 ok=q2 at k2 n0⊢;have wc:IntKind.i64.wrap (c.toNat:Int)=(c.toNat:Int):=wrapI (by have:=c.toNat_lt;omega)
 have f0:clS 768 (c.toNat:Int) b q2=({ x0 (c.toNat:Int) with ls:=(runR setR [] b q2).1,val:=(valS b (runR setR [] b q2).2).1 },(valS b (runR setR [] b q2).2).2):=rfl
 rw[f0];simp only;have k3:=zj1 (A q2++[B19,.box (XC768 c .nils (Fl 0))]) p b q2 (y0 _ _) n0 hb;rw[q0]at k3;have j0:=z0h setR [] b q2 n0;generalize runR setR [] b q2=w0 at k3 j0⊢;obtain⟨v0,q3⟩:=w0;simp only at k3 j0⊢;have k4:=zaL (A q3++[B19,.box (XC768 c (lsV v0) (Fl 0))]) p b q3 (y0 _ _) j0 hb;rw[q0]at k4;have u0:=z0h wordR 0 b q3 j0;unfold valS;generalize runR wordR 0 b q3=w1 at k4 u0⊢;obtain⟨v1,qw⟩:=w1;simp only at k4 u0⊢;have kv:=zgM (A qw++[B19,.box (XC768 c (lsV v0) (Fl 0))]) v1;have kr:=z0d (A qw++[B19,.box (XC768 c (lsV v0) (Fl 0))]) p b qw (okV v1) (y0 _ _) u0 hb;rw[q0]at kr;have hinv:=z1r b qw (okV v1) u0;generalize (if okV v1=true then v1 else 0)=fv at kv⊢
 generalize okV v1=okv at kv kr hinv⊢;generalize took qw 0 okv=q4 at kr hinv⊢;clear u0;have u0:=hinv;have r0:Sub (.agg (XC768 c (lsV v0) (Fl fv))) (reV ({ x0 (c.toNat:Int) with ls:=v0,val:=fv })):=.agg (.cons (.refl _) <| .cons (.refl _) <| .cons (.refl _) <| .cons (.refl _) <| .cons (.refl _) <| .cons (.refl _) <| .cons (.refl _) <| .cons (.nils 3) <| .cons (.refl _) <| .cons (.refl _) <| .cons (.refl _) <| .cons (.nils 3) <| .cons (.nils 3) <| .cons (.refl _) <| .cons (.refl _) <| .cons (.refl _) <| .cons (.nils 1) <| .cons (.refl _) <| .cons (.refl _) <| .nil)
 have km:=(z2o (A q4++[B19,.box (XC768 c (lsV v0) (Fl fv))]) ({ x0 (c.toNat:Int) with ls:=v0,val:=fv })).subA (.cons r0 .nil)
 have ke:=z0d (A q4++[B19,.box (XC768 c (lsV v0) (Fl fv))]) p b q4 (mayR ({ x0 (c.toNat:Int) with ls:=v0,val:=fv })) (y0 _ _) u0 hb
 rw[q0]at ke;generalize mayR ({ x0 (c.toNat:Int) with ls:=v0,val:=fv })=okm at km ke⊢
 generalize took q4 0 okm=qe at ke⊢;refine Ans.subR ?_ r0;refine Ans.of_run' t102 (fun t0 _=>?_)
 simp -implicitDefEqProofs only[c102,r102,go_sem,y0,q0,gs,hn,ap4];refine CO.intro k0 ?_;simp -implicitDefEqProofs only[go_sem,bc,wc,y0,q0,gs,hn,ap4];refine CO.intro k1 ?_;simp -implicitDefEqProofs only[go_sem];refine CO.intro k2 ?_;simp -implicitDefEqProofs only[go_sem,bc,y0,q0,gs,hn,ap4];refine CO.intro k3 ?_;simp -implicitDefEqProofs only[go_sem,bc,y0,q0,gs,hn,ap4];refine CO.intro k4 ?_;simp -implicitDefEqProofs only[go_sem];refine CO.intro kv ?_;simp -implicitDefEqProofs only[go_sem];refine CO.intro kr ?_;simp -implicitDefEqProofs only[go_sem,bc,y0,q0,gs,hn,ap4];refine CO.intro km ?_;simp -implicitDefEqProofs only[go_sem];refine CO.intro ke ?_;simp -implicitDefEqProofs only[go_sem,y0,q0,gs,hn,ap4]
 have d0:Bel (A qe).length (.agg (XC768 c (lsV v0) (Fl fv))):=.agg _ (fun i hi=>by
  have:∀y∈(XC768 c (lsV v0) (Fl fv):List AV),Bel (A qe).length y:=by
   intro y hy;simp only[List.mem_cons,List.not_mem_nil,or_false]at hy;rcases hy with rfl|rfl|rfl|rfl|rfl|rfl|rfl|rfl|rfl|rfl|rfl|rfl|rfl|rfl|rfl|rfl|rfl|rfl|rfl
   all_goals first|exact .pl _|exact .nils|exact z0u _ _|exact z0F _ _|exact z0w _ _
  exact this _ (List.getElem_mem hi))
 exact Fini.trim2 (σ':=A qe) (ex:=[_,_]) (by simp -implicitDefEqProofs only[go_sem,resA,z03,rvA,oneOf,gs]<;>rfl) rfl (Nat.le_of_eq (by simp only[hn])) d0 (fun o ho=>by
  rw[←hs q qe]at ho;rw[hn];rw[hn]at t0
  exact z1Z (o:=rob b qe) t0 (z3t _ _) o ho)
theorem zhY (q:Nat×Bool) (hq:Inb b q) (c:UInt8) (q1:Nat×Bool) (hc:runR byteR 0 b q=(c,q1)) (ok:Bool) (hf:fOf (c.toNat:Int)=(16,ok)) :
  Ans Tryz.prog 102 [.ptr p 0] (A q) (reV (bodyS b q).1) (A (bodyS b q).2):=by
 obtain⟨u0,q0,gs⟩:=rd_facts A n p b hn hg hs q;have k0:=z1e (A q++[B19]) p b q (u0 _ _) hq hb;have y0:=z0h byteR 0 b q hq
 have d0:bodyS b q=z0P (fun q1=>clS 16 (c.toNat:Int) b (took q1 0 ok)) mayR q1:=by
  unfold bodyS;rw[hc];simp only[hf]
 rw[hc]at k0 y0;rw[d0];simp only at k0 y0;rw[q0]at k0;have k1:=z1m (A q1++[B19,.box (XC16 c .nils)]) (c.toNat:Int);rw[hf]at k1;have k2:=z0d (A q1++[B19,.box (XC16 c .nils)]) p b q1 ok (u0 _ _) y0 hb;rw[q0]at k2;have m0:=z1r b q1 ok y0;unfold z0P;simp only;generalize took q1 0 ok=q2 at k2 m0⊢;have wc:IntKind.i64.wrap (c.toNat:Int)=(c.toNat:Int):=wrapI (by have:=c.toNat_lt;omega)
 have e0:clS 16 (c.toNat:Int) b q2=({ x0 (c.toNat:Int) with mt:=(runR listR [] b q2).1 },(runR listR [] b q2).2):=rfl
 rw[e0];simp only;have k3:=z8M (A q2++[B19,.box (XC16 c .nils)]) p b q2 (u0 _ _) m0 hb;rw[q0]at k3;have j0:=z0h listR [] b q2 m0;generalize runR listR [] b q2=w0 at k3 j0⊢;obtain⟨v0,q3⟩:=w0;simp only at k3 j0⊢;have n0:Sub (.agg (XC16 c (mlV v0))) (reV ({ x0 (c.toNat:Int) with mt:=v0 })):=.agg (.cons (.refl _) <| .cons (.refl _) <| .cons (.refl _) <| .cons (.refl _) <| .cons (.refl _) <| .cons (.refl _) <| .cons (.refl _) <| .cons (.refl _) <| .cons (.refl _) <| .cons (.refl _) <| .cons (.refl _) <| .cons (.nils 3) <| .cons (.nils 3) <| .cons (.refl _) <| .cons (.refl _) <| .cons (.refl _) <| .cons (.nils 1) <| .cons (.nils 2) <| .cons (.refl _) <| .nil)
 have km:=(z2o (A q3++[B19,.box (XC16 c (mlV v0))]) ({ x0 (c.toNat:Int) with mt:=v0 })).subA (.cons n0 .nil)
 have ke:=z0d (A q3++[B19,.box (XC16 c (mlV v0))]) p b q3 (mayR ({ x0 (c.toNat:Int) with mt:=v0 })) (u0 _ _) j0 hb
 rw[q0]at ke;generalize mayR ({ x0 (c.toNat:Int) with mt:=v0 })=okm at km ke⊢
 generalize took q3 0 okm=qe at ke⊢;refine Ans.subR ?_ n0;refine Ans.of_run' t102 (fun r0 _=>?_)
 simp -implicitDefEqProofs only[c102,r102,go_sem,u0,q0,gs,hn,ap4];refine CO.intro k0 ?_;simp -implicitDefEqProofs only[go_sem,bc,wc,u0,q0,gs,hn,ap4];refine CO.intro k1 ?_;simp -implicitDefEqProofs only[go_sem];refine CO.intro k2 ?_;simp -implicitDefEqProofs only[go_sem,bc,u0,q0,gs,hn,ap4];refine CO.intro k3 ?_;simp -implicitDefEqProofs only[go_sem,bc,u0,q0,gs,hn,ap4];refine CO.intro km ?_;simp -implicitDefEqProofs only[go_sem];refine CO.intro ke ?_;simp -implicitDefEqProofs only[go_sem,u0,q0,gs,hn,ap4]
 have t0:Bel (A qe).length (.agg (XC16 c (mlV v0))):=.agg _ (fun i hi=>by
  have:∀y∈(XC16 c (mlV v0):List AV),Bel (A qe).length y:=by
   intro y hy;simp only[List.mem_cons,List.not_mem_nil,or_false]at hy;rcases hy with rfl|rfl|rfl|rfl|rfl|rfl|rfl|rfl|rfl|rfl|rfl|rfl|rfl|rfl|rfl|rfl|rfl|rfl|rfl
   all_goals first|exact .pl _|exact .nils|exact z0u _ _|exact z0F _ _|exact z0w _ _
  exact this _ (List.getElem_mem hi))
 exact Fini.trim2 (σ':=A qe) (ex:=[_,_]) (by simp -implicitDefEqProofs only[go_sem,resA,z03,rvA,oneOf,gs]<;>rfl) rfl (Nat.le_of_eq (by simp only[hn])) t0 (fun o ho=>by
  rw[←hs q qe]at ho;rw[hn];rw[hn]at r0
  exact z1Z (o:=rob b qe) r0 (z3t _ _) o ho)
end
theorem zfM (A:Nat×Bool→St) (n p:Nat) (b:Byt) (hn:∀q,(A q).length=n) (hg:∀q,(A q)[p]?=some (rob b q)) (hs:∀q q',(A q).set p (rob b q')=A q') (hb:b.length≤50000) (q:Nat×Bool) (hq:Inb b q) :
  Ans Tryz.prog 102 [.ptr p 0] (A q) (reV (bodyS b q).1) (A (bodyS b q).2):=by
 cases hc:runR byteR 0 b q with
 |mk c q1 =>
 have hm:=z6m (c.toNat:Int)
 cases hf:fOf (c.toNat:Int) with
 |mk f ok =>
 rw[hf]at hm;simp only[List.mem_cons,List.not_mem_nil,or_false]at hm;rcases hm with rfl|rfl|rfl|rfl|rfl|rfl|rfl|rfl|rfl
 · exact zjb A n p b hn hg hs hb q hq c q1 hc ok hf
 · exact zjc A n p b hn hg hs hb q hq c q1 hc ok hf
 · exact zjd A n p b hn hg hs hb q hq c q1 hc ok hf
 · exact zfI A n p b hn hg hs hb q hq c q1 hc ok hf
 · exact zfJ A n p b hn hg hs hb q hq c q1 hc ok hf
 · exact zje A n p b hn hg hs hb q hq c q1 hc ok hf
 · exact zfK A n p b hn hg hs hb q hq c q1 hc ok hf
 · exact zfL A n p b hn hg hs hb q hq c q1 hc ok hf
 · exact zhY A n p b hn hg hs hb q hq c q1 hc ok hf
def wholeO {α:Type} (o:Option (α×Byt)):Option α:=match o with
 |some (x,[])=>some x
 |_=>none
theorem z56 {α:Type} {b:Byt} {rd:Rd α} {st:Nat×Bool→α×(Nat×Bool)} (h:StepsR b rd st) (he:EndsR rd) :
  wholeO (rd b)=if !(st (0,false)).2.2&&decide ((st (0,false)).2.1=b.length) then some (st (0,false)).1 else none:=by
 cases hr:rd b with
 |none=>rw[h.top.2 hr];rfl
 |some p =>
  obtain⟨x,t⟩:=p;rw[h.top.1 x t hr];obtain⟨w,hw⟩:=he _ _ _ hr;have hl:b.length=w.length+t.length:=by rw[hw,List.length_append]
  cases t with
  |nil=>simp[wholeO]
  |cons c t =>
   have:¬(b.length-(c::t).length=b.length):=by simp only[List.length_cons]at hl⊢;omega
   simp only[wholeO,Bool.not_false,Bool.true_and,decide_eq_false this,Bool.false_eq_true,if_false]
abbrev noRe:ReM:=x0 0
def noReV:AV:=.agg [Sx ⟨#[]⟩,I 0,I 0,Sx ⟨#[]⟩,UN 0,UN 0,I 0,.nils,Bo false,Fl 0,Fl 0,.nils,.nils,Bo false,Fl 0,Fl 0,.nils,.nils,Fl 0]
theorem zfN:Sub noReV (reV noRe):=.agg (.cons (.refl _) (.cons (.refl _) (.cons (.refl _) (.cons (.refl _) (.cons (.refl _) (.cons (.refl _) (.cons (.refl _) (.cons (.nils 3) (.cons (.refl _) (.cons (.refl _) (.cons (.refl _) (.cons (.nils 3) (.cons (.nils 3) (.cons (.refl _) (.cons (.refl _) (.cons (.refl _) (.cons (.nils 1) (.cons (.nils 2) (.cons (.refl _) .nil)))))))))))))))))))
theorem z8R (n:Nat):Bel n noReV:=.agg _ fun i hi=>by
 have:∀y∈([Sx ⟨#[]⟩,I 0,I 0,Sx ⟨#[]⟩,UN 0,UN 0,I 0,.nils,Bo false,Fl 0,Fl 0,.nils,.nils,Bo false,Fl 0,Fl 0,.nils,.nils,Fl 0]:List AV),Bel n y:=by
  intro y hy;simp only[List.mem_cons,List.not_mem_nil,or_false]at hy;rcases hy with rfl|rfl|rfl|rfl|rfl|rfl|rfl|rfl|rfl|rfl|rfl|rfl|rfl|rfl|rfl|rfl|rfl|rfl|rfl
  all_goals first|exact .pl _|exact .nils
 exact this _ (List.getElem_mem hi)
theorem z9T (n:Nat) (r:ReM):Bel n (reV r):=.agg _ fun i hi=>by
 have:∀y∈reC r,Bel n y:=by
  intro y hy;unfold reC at hy;simp only[List.mem_cons,List.not_mem_nil,or_false]at hy;rcases hy with rfl|rfl|rfl|rfl|rfl|rfl|rfl|rfl|rfl|rfl|rfl|rfl|rfl|rfl|rfl|rfl|rfl|rfl|rfl
  all_goals first|exact .pl _|exact z0u _ _|exact z0F _ _|exact z0w _ _
 exact this _ (List.getElem_mem hi)
def z4A (o:Option ReM):AV:=match o with
 |some x=>.tup [reV x,Bo true]
 |none=>.tup [reV noRe,Bo false]
def zdN (o:Option ReM):AV:=match o with
 |some x=>.tup [reV x,Bo true]
 |none=>.tup [noReV,Bo false]
theorem zdO (o:Option ReM):Sub (zdN o) (z4A o):=by
 unfold zdN z4A
 cases o with
 |none=>exact .tup (.cons zfN (.refl _))
 |some x=>exact .refl _
theorem z2X {n:Nat} {x:AV} {c:Bool} (h:Bel n x):Bel n (.tup [x,Bo c]):=.tup _ fun j hj=>by
 have:∀y∈([x,Bo c]:List AV),Bel n y:=by
  intro y hy;simp only[List.mem_cons,List.not_mem_nil,or_false]at hy;rcases hy with rfl|rfl
  · exact h
  · exact .pl _
 exact this _ (List.getElem_mem hj)
def fitQ (b:Byt) (q:Nat×Bool) (x:ReM):Option ReM:=if !q.2&&decide (q.1=b.length) then some x else none
theorem zbX (n:Nat) (o:Option ReM):Bel n (z4A o):=by
 unfold z4A
 cases o with
 |none=>exact z2X (z9T _ _)
 |some x=>exact z2X (z9T _ _)
section
variable (σ:St)
theorem zdP (p:Nat) (b:Byt) (q:Nat×Bool) (x:ReM) (h:σ[p]?=some (rob b q)):Ans Tryz.prog 101 [reV x,.ptr p 0,.sl 1 (byv b)] σ (z4A (fitQ b q x)) σ:=by
 refine Ans.subR ?_ (zdO _);have hp:p<σ.length:=(List.getElem?_eq_some_iff.1 h).1;have hz:∀ob,(σ++[ob])[p]?=some (rob b q):=fun ob=>by rw[List.getElem?_append_left hp];exact h
 have h1:=z2z (σ++[B19]) p b q (hz _);have y0:=z9T σ.length x;obtain⟨a,bad⟩:=q;refine Ans.of_run' t101 (fun u0 _=>?_)
 unfold zdN fitQ;unfold reV reC at y0⊢
 cases bad with
 |true =>
  simp -implicitDefEqProofs only[c101,r101,go_sem,g0,s0];refine CO.intro h1 ?_;simp -implicitDefEqProofs only[go_sem,g0,s0];exact tr_ (σ':=σ) (ex:=[_]) rfl (z2X (z8R _)) u0
 |false =>
  have e1:(((a:Nat):Int) != (b.length:Nat))= !decide (a=b.length):=by
   rw[bne];congr 1
   rw[Bool.eq_iff_iff];simp only[beq_iff_eq,decide_eq_true_eq];omega
  by_cases he:a=b.length
  · have e2:(((a:Nat):Int) != (b.length:Nat))=false:=by rw[e1,decide_eq_true he];rfl
    have e3:(!(a,false).2&&decide ((a,false).1=b.length))=true:=by simp[he]
    rw[if_pos e3];simp -implicitDefEqProofs only[c101,r101,go_sem,g0,s0];refine CO.intro h1 ?_;simp -implicitDefEqProofs only[go_sem,z05,e2,g0,s0];exact tr_ (σ':=σ) (ex:=[_]) rfl (z2X y0) u0
  · have e2:(((a:Nat):Int) != (b.length:Nat))=true:=by rw[e1,decide_eq_false he];rfl
    have e3:¬(!(a,false).2&&decide ((a,false).1=b.length))=true:=by simp[he]
    rw[if_neg e3];simp -implicitDefEqProofs only[c101,r101,go_sem,g0,s0];refine CO.intro h1 ?_;simp -implicitDefEqProofs only[go_sem,z05,e2,g0,s0];exact tr_ (σ':=σ) (ex:=[_]) rfl (z2X (z8R _)) u0
theorem z8S (b:Byt) (hb:b.length≤50000):Ans Tryz.prog 75 [.sl 1 (byv b)] σ (z4A (wholeO (bodyR b))) σ:=by
 rw[z56 (zbW b) zdM];have h1:=zfM (fun q=>σ++[B19,rob b q]) (σ.length+2) (σ.length+1) b (fun q=>by simp) (fun q=>g1 _ _ _ _) (fun q q'=>s1 _ _ _ _ _) hb (0,false) (Inb0 b)
 generalize bodyS b (0,false)=w at h1⊢;obtain⟨x,q⟩:=w;simp only at h1⊢;have h2:=zdP (σ++[B19,rob b q]) (σ.length+1) b q x (g1 _ _ _ _);unfold fitQ at h2;generalize (if(!q.2&&decide (q.1=b.length))=true then some x else none)=o at h2⊢
 have y0:=zbX σ.length o
 have key:∃(y:ReM) (c:Bool),z4A o=.tup [reV y,Bo c]:=by
  unfold z4A
  cases o with
  |none=>exact⟨_,_,rfl⟩
  |some y=>exact⟨_,_,rfl⟩
 obtain⟨y,c,hy⟩:=key;rw[hy]at h2 y0⊢;refine Ans.of_run' t75 (fun u0 _=>?_)
 unfold reV reC at *;simp -implicitDefEqProofs only[c75,r75,go_sem];refine CO.intro (new_ans _ b) ?_;simp -implicitDefEqProofs only[go_sem,List.append_assoc,List.length_append];refine CO.intro h1 ?_;simp -implicitDefEqProofs only[go_sem];refine CO.intro h2 ?_;simp -implicitDefEqProofs only[go_sem,g0,s0];exact tr_ (σ':=σ) (ex:=[_,_]) rfl y0 u0
end
def dTab:List ByteArray:=[⟨#[45]⟩,⟨#[73]⟩,⟨#[73,84]⟩,⟨#[73,84]⟩,⟨#[83,69,77,66]⟩,⟨#[73,83,69,77,66]⟩,⟨#[73]⟩,⟨#[90]⟩,⟨#[82]⟩,⟨#[73]⟩,⟨#[76,86]⟩,⟨#[73]⟩,⟨#[77]⟩,⟨#[45]⟩,⟨#[73]⟩,⟨#[45]⟩,⟨#[45]⟩]
def dOf (op:Int):ByteArray:=if 1≤op∧op≤17 then dTab.getD (op.toNat-1) ⟨#[]⟩ else⟨#[]⟩
theorem zgP {op:Int} (h:op<1∨17<op):dOf op=⟨#[]⟩:=by unfold dOf;rw[if_neg (by omega)]
def hasC (s:ByteArray) (c:Nat):Bool:=!((List.range s.size).all fun i=>!((byteAt s i:Int)==(c:Int)))
section
variable (σ:St)
theorem z0X (op:Int):Ans Tryz.prog 77 [I op] σ (Sx (dOf op)) σ:=by
 refine Ans.of_run t77 ?_;rcases ops17 op with rfl|rfl|rfl|rfl|rfl|rfl|rfl|rfl|rfl|rfl|rfl|rfl|rfl|rfl|rfl|rfl|rfl|h
 all_goals first
  |(rw[zgP h]
    simp -implicitDefEqProofs only[c77,r77,go_sem,neI (op:=op) (k:=1) (by omega),neI (op:=op) (k:=2) (by omega),neI (op:=op) (k:=3) (by omega),neI (op:=op) (k:=4) (by omega),neI (op:=op) (k:=5) (by omega),neI (op:=op) (k:=6) (by omega),neI (op:=op) (k:=7) (by omega),neI (op:=op) (k:=8) (by omega),neI (op:=op) (k:=9) (by omega),neI (op:=op) (k:=10) (by omega),neI (op:=op) (k:=11) (by omega),neI (op:=op) (k:=12) (by omega),neI (op:=op) (k:=13) (by omega),neI (op:=op) (k:=14) (by omega),neI (op:=op) (k:=15) (by omega),neI (op:=op) (k:=16) (by omega),neI (op:=op) (k:=17) (by omega)]
    exact Fini.ret rfl)
  |(simp -implicitDefEqProofs only[c77,r77,go_sem]
    exact Fini.ret rfl)
theorem z2p (s:ByteArray):Ans Tryz.prog 104 [Sx s] σ (Bo (tokB s)) σ:=by
 have d1:decide ((4:Int)≤(s.size:Nat))=decide (4≤s.size):=intle 4 s.size;have d2:decide (((s.size:Nat):Int)≤16)=decide (s.size≤16):=intle s.size 16;refine Ans.of_run t104 ?_;unfold tokB
 cases h:decide (4≤s.size) with
 |false =>
  simp -implicitDefEqProofs only[c104,r104,go_sem,d1,h];exact Fini.ret rfl
 |true =>
  simp -implicitDefEqProofs only[c104,r104,go_sem,d1,d2,h];exact Fini.ret rfl
theorem z1o (x:Bnd):Ans Tryz.prog 106 [bandV x] σ (Bo (noBd x)) σ:=by
 obtain⟨a,lo,hi⟩:=x;refine Ans.of_run t106 ?_;unfold bandV noBd;simp only
 cases a with
 |true =>
  simp -implicitDefEqProofs only[c106,r106,go_sem];exact Fini.ret rfl
 |false =>
  simp -implicitDefEqProofs only[c106,r106,go_sem];refine CO.intro (z0Q σ lo) ?_;unfold zF
  cases h:(((bitsF lo:Nat):Int)==0) with
  |false =>
   simp -implicitDefEqProofs only[go_sem,h];exact Fini.ret rfl
  |true =>
   simp -implicitDefEqProofs only[go_sem,h];refine CO.intro (z0Q σ hi) ?_;simp -implicitDefEqProofs only[go_sem];exact Fini.ret rfl
theorem z1D (r:RuM):Ans Tryz.prog 109 [ruV r] σ (Bo (noRl r)) σ:=by
 have hb:=z1o σ (r.any,r.lo,r.hi)
 have e:noRl r=(emI r.src.length&&(emI r.tgt.length&&(noBd (r.any,r.lo,r.hi)&&emI r.eq.length))):=by
  unfold noRl;cases emI r.src.length<;>cases emI r.tgt.length<;>cases emI r.eq.length<;>cases noBd (r.any,r.lo,r.hi)<;>rfl
 rw[e];refine Ans.of_run t109 ?_;unfold ruV emI;unfold bandV at hb
 cases h1:(((r.src.length:Nat):Int)==0) with
 |false =>
  simp -implicitDefEqProofs only[c109,r109,go_sem,z0v,h1];exact Fini.ret rfl
 |true =>
 cases h2:(((r.tgt.length:Nat):Int)==0) with
 |false =>
  simp -implicitDefEqProofs only[c109,r109,go_sem,z0v,h1,h2];exact Fini.ret rfl
 |true =>
  simp -implicitDefEqProofs only[c109,r109,go_sem,z0v,z0M,h1,h2];refine CO.intro hb ?_
  cases noBd (r.any,r.lo,r.hi) with
  |false =>
   simp -implicitDefEqProofs only[go_sem];exact Fini.ret rfl
  |true =>
   simp -implicitDefEqProofs only[go_sem,z0M];exact Fini.ret rfl
theorem z2q (s:ByteArray) (c:Nat) (hs:s.size≤100000):Ans Tryz.prog 103 [Sx s,.pl (.int .u8 c)] σ (Bo (hasC s c)) σ:=by
 refine Ans.of_run t103 ?_;simp -implicitDefEqProofs only[c103,r103,go_sem];unfold hasC;refine Go.Ab.L.scan s.size (fun i=>!((byteAt s i:Int)==(c:Int))) (fun i=>mkE 17 [(0,Sx s),(1,.pl (.int .u8 c)),(5,I i)]) (fun _=>σ) ?_ ?_ rfl rfl
 · intro i hi hp J hJ;have u0:((i:Int)<s.size)=True:=by simp;omega
   have y0:=wrap_succ (i:=i) (by omega)
   have hF:(!((byteAt s i:Int)==(c:Int)))=false→((List.range s.size).all fun i=>!((byteAt s i:Int)==(c:Int)))=false:=fun h=>List.all_eq_false.2 ⟨i,List.mem_range.2 hi,by rw[h];decide⟩
   cases h:((byteAt s i:Int)==(c:Int)) with
   |true =>
    rw[hF (by rw[h];rfl)]
    simp -implicitDefEqProofs only[mkE,go_sem,u0,dec_lt hi,z07,h];exact Fini.ret rfl
   |false =>
    rw[h]at hJ;have q0:=hJ rfl;simp -implicitDefEqProofs only[mkE,go_sem,u0,dec_lt hi,z07,h,y0];exact q0
 · intro hp J;have hd:decide ((s.size:Int)<s.size)=false:=by simp
   simp -implicitDefEqProofs only[mkE,go_sem,hd];refine Fini.ret' rfl (z16 ?_);rw[List.all_eq_true.2 fun i hi=>hp i (List.mem_range.1 hi)];rfl
end
section
variable (σ:St)
theorem zfO (v:ByteArray):Ans Tryz.prog 135 [Sx v] σ (Bo (valB v)) σ:=by
 have d1:decide ((1:Int)≤(v.size:Nat))=decide (1≤v.size):=intle 1 v.size;have d2:decide (((v.size:Nat):Int)≤24)=decide (v.size≤24):=intle v.size 24;refine Ans.of_run t135 ?_;unfold valB
 cases h:decide (1≤v.size) with
 |false =>
  simp -implicitDefEqProofs only[c135,r135,go_sem,d1,h];exact Fini.ret rfl
 |true =>
  simp -implicitDefEqProofs only[c135,r135,go_sem,d1,d2,h];exact Fini.ret rfl
theorem z2c (L:List Lab) (hs:∀x∈L,x.1.size≤100000):Ans Tryz.prog 110 [.sl 2 (lvs L)] σ (Bo (setB L)) σ:=by
 have e1:decide ((L.length:Int)<1)= !decide (1≤L.length):=by
  by_cases h:1≤L.length
  · rw[decide_eq_true h,decide_eq_false (by omega)];rfl
  · rw[decide_eq_false h,decide_eq_true (by omega)];rfl
 have e2:decide ((6:Int)<L.length)= !decide (L.length≤6):=by
  by_cases h:L.length≤6
  · rw[decide_eq_true h,decide_eq_false (by omega)];rfl
  · rw[decide_eq_false h,decide_eq_true (by omega)];rfl
 refine Ans.of_run t110 ?_;unfold setB
 cases h1:decide (1≤L.length) with
 |false =>
  simp -implicitDefEqProofs only[c110,r110,go_sem,z0j,e1,h1];exact Fini.ret rfl
 |true =>
 cases h2:decide (L.length≤6) with
 |false =>
  simp -implicitDefEqProofs only[c110,r110,go_sem,z0j,e1,e2,h1,h2];exact Fini.ret rfl
 |true =>
 have hl6:L.length≤6:=of_decide_eq_true h2;simp -implicitDefEqProofs only[c110,r110,go_sem,z0j,e1,e2,h1,h2];refine Go.Ab.L.scan L.length (labOk L) (fun i=>mkE 52 [(0,.sl 2 (lvs L)),(3,I i)]) (fun _=>σ) ?_ ?_ rfl rfl
 · intro i hi hp J hJ;have hx:=lvs_D L i hi;have hF:labOk L i=false→(List.range L.length).all (labOk L)=false:=fun h=>List.all_eq_false.2 ⟨i,List.mem_range.2 hi,by rw[h];decide⟩
   have k0:=wrap_succ (i:=i) (by omega)
   have d0:decide ((0:Int)<i)=decide (0<i):=by rw[Bool.eq_iff_iff];simp
   have hO:labOk L i=(nameB (L.getD i noLb).1&&(valB (L.getD i noLb).2&& !(decide (0<i)&&leS (L.getD i noLb).1 (L.getD (i-1) noLb).1))):=rfl
   have hsz:(L.getD i noLb).1.size≤100000:=by
    rw[List.getD_eq_getElem?_getD,List.getElem?_eq_getElem hi];exact hs _ (List.getElem_mem hi)
   rw[hO]at hJ hF;generalize L.getD i noLb=x at hJ hF hx hsz;obtain⟨nm,v⟩:=x;simp only at hJ hF hx hsz;have n1:=fun s=>z69 s nm hsz
   have n2:=fun s=>zfO s v
   simp -implicitDefEqProofs only[mkE,go_sem,z01,z0j,z0e hi,dec_lt hi,hx]
   first|refine CD.intro (n1 _) ?_|refine CS.intro n1 ?_
   cases hb1:nameB nm with
   |false =>
    rw[hb1]at hF;rw[hF rfl];simp -implicitDefEqProofs only[go_sem,z01];exact Fini.ret rfl
   |true =>
    rw[hb1]at hF hJ;simp -implicitDefEqProofs only[go_sem,z01,z0j,z0e hi,hx]
    first|refine CD.intro (n2 _) ?_|refine CS.intro n2 ?_
    cases hb2:valB v with
    |false =>
     rw[hb2]at hF;rw[hF rfl];simp -implicitDefEqProofs only[go_sem,z01];exact Fini.ret rfl
    |true =>
     rw[hb2]at hF hJ;by_cases hz:i=0
     · subst hz;have j0:=hJ rfl;simp -implicitDefEqProofs only[go_sem,z01,d0,k0];exact j0
     · have u0:decide (0<i)=true:=decide_eq_true (by omega)
       have hx1:=lvs_D L (i-1) (by omega)
       have w1:IntKind.i64.wrap ((i:Int)-1)=((i-1:Nat):Int):=by rw[wrapN (by omega) (by omega)];omega
       have q0:(((i-1:Nat):Int)<L.length)=True:=by simp;omega
       rw[u0]at hJ hF;generalize L.getD (i-1) noLb=x1 at hJ hF hx1;obtain⟨y0,v1⟩:=x1;simp only at hJ hF hx1;have hle:(Op.bytesLess nm.toList y0.toList||nm.toList==y0.toList)=leS nm y0:=rfl;simp -implicitDefEqProofs only[go_sem,z01,d0,u0,w1,z0j,z0e hi,hx,q0,hx1,hle]
       cases h7:leS nm y0 with
       |true =>
        rw[h7]at hF;rw[hF rfl];simp -implicitDefEqProofs only[go_sem];exact Fini.ret rfl
       |false =>
        rw[h7]at hJ;have j0:=hJ rfl;simp -implicitDefEqProofs only[go_sem,k0];exact j0
 · intro hp J;have hd:decide ((L.length:Int)<L.length)=false:=by simp
   simp -implicitDefEqProofs only[mkE,go_sem,z0j,hd];refine Fini.ret' rfl (z16 ?_);exact(List.all_eq_true.2 fun i hi=>hp i (List.mem_range.1 hi)).symm
end
structure ReSm (r:ReM):Prop where
 mt:∀x∈r.mt,x.2.1.size≤100000
 ru:RSm r.ru
 ls:∀x∈r.ls,x.1.size≤100000
def docB (r:ReM) (s:ByteArray):Bool :=
 (hasC s 73||r.id==0)&&(decide (0≤r.id)&&(decide (r.id≤2147483647)&&((!hasC s 84||tokB r.txt)&&((hasC s 84||emS r.txt)&&((hasC s 83||emU r.st)&&((hasC s 83||emU r.en)&&(clkB r.st&&(clkB r.en&&((hasC s 90||r.sta==0)&&(decide (0≤r.sta)&&(decide (r.sta≤3)&&((hasC s 77||emI r.mt.length)&&((!hasC s 83|| !emI r.mt.length)&&(listB r.mt&&((hasC s 66||noBd (r.any,r.lo,r.hi))&&(mayB r.any r.lo r.hi&&((!hasC s 82||ruIs r.ru)&&((hasC s 82||noRl r.ru)&&(if hasC s 76 then setB r.ls else emI r.ls.length&&zF r.val)))))))))))))))))))
theorem ne_of {x:Int} {v:Bool} (h:(x==0)=v):(x != 0)= !v:=by rw[bne,h]
theorem lt_of {x:Int} {v:Bool} (h:decide (0≤x)=v):decide (x<0)= !v:=by
 rw[←h,Bool.eq_iff_iff];simp
theorem gt_of {x c:Int} {v:Bool} (h:decide (x≤c)=v):decide (c<x)= !v:=by
 rw[←h,Bool.eq_iff_iff];simp
abbrev S0:ByteArray:=⟨#[45]⟩
theorem hc_0:hasC S0 73=false∧hasC S0 84=false∧hasC S0 83=false∧hasC S0 90=false∧hasC S0 77=false∧hasC S0 66=false∧hasC S0 82=false∧hasC S0 76=false:=by decide +kernel
theorem hn_0:(S0.toList==(⟨#[]⟩:ByteArray).toList)=false:=by decide +kernel
abbrev S1:ByteArray:=⟨#[73]⟩
theorem hc_1:hasC S1 73=true∧hasC S1 84=false∧hasC S1 83=false∧hasC S1 90=false∧hasC S1 77=false∧hasC S1 66=false∧hasC S1 82=false∧hasC S1 76=false:=by decide +kernel
theorem hn_1:(S1.toList==(⟨#[]⟩:ByteArray).toList)=false:=by decide +kernel
abbrev S3:ByteArray:=⟨#[73,84]⟩
theorem hc_3:hasC S3 73=true∧hasC S3 84=true∧hasC S3 83=false∧hasC S3 90=false∧hasC S3 77=false∧hasC S3 66=false∧hasC S3 82=false∧hasC S3 76=false:=by decide +kernel
theorem hn_3:(S3.toList==(⟨#[]⟩:ByteArray).toList)=false:=by decide +kernel
abbrev S116:ByteArray:=⟨#[83,69,77,66]⟩
theorem zdQ:hasC S116 73=false∧hasC S116 84=false∧hasC S116 83=true∧hasC S116 90=false∧hasC S116 77=true∧hasC S116 66=true∧hasC S116 82=false∧hasC S116 76=false:=by decide +kernel
theorem zjf:(S116.toList==(⟨#[]⟩:ByteArray).toList)=false:=by decide +kernel
abbrev S117:ByteArray:=⟨#[73,83,69,77,66]⟩
theorem zdR:hasC S117 73=true∧hasC S117 84=false∧hasC S117 83=true∧hasC S117 90=false∧hasC S117 77=true∧hasC S117 66=true∧hasC S117 82=false∧hasC S117 76=false:=by decide +kernel
theorem zjg:(S117.toList==(⟨#[]⟩:ByteArray).toList)=false:=by decide +kernel
abbrev S8:ByteArray:=⟨#[90]⟩
theorem hc_8:hasC S8 73=false∧hasC S8 84=false∧hasC S8 83=false∧hasC S8 90=true∧hasC S8 77=false∧hasC S8 66=false∧hasC S8 82=false∧hasC S8 76=false:=by decide +kernel
theorem hn_8:(S8.toList==(⟨#[]⟩:ByteArray).toList)=false:=by decide +kernel
abbrev S128:ByteArray:=⟨#[82]⟩
theorem zdS:hasC S128 73=false∧hasC S128 84=false∧hasC S128 83=false∧hasC S128 90=false∧hasC S128 77=false∧hasC S128 66=false∧hasC S128 82=true∧hasC S128 76=false:=by decide +kernel
theorem zjh:(S128.toList==(⟨#[]⟩:ByteArray).toList)=false:=by decide +kernel
abbrev S768:ByteArray:=⟨#[76,86]⟩
theorem zdT:hasC S768 73=false∧hasC S768 84=false∧hasC S768 83=false∧hasC S768 90=false∧hasC S768 77=false∧hasC S768 66=false∧hasC S768 82=false∧hasC S768 76=true:=by decide +kernel
theorem zji:(S768.toList==(⟨#[]⟩:ByteArray).toList)=false:=by decide +kernel
abbrev S16:ByteArray:=⟨#[77]⟩
theorem hc_16:hasC S16 73=false∧hasC S16 84=false∧hasC S16 83=false∧hasC S16 90=false∧hasC S16 77=true∧hasC S16 66=false∧hasC S16 82=false∧hasC S16 76=false:=by decide +kernel
theorem hn_16:(S16.toList==(⟨#[]⟩:ByteArray).toList)=false:=by decide +kernel
attribute [go_sem] Bool.not_false Bool.not_true hn_0 hn_1 hn_3 zjf zjg hn_8 zjh zji hn_16
end Go.Proofs.YteakobbdgehlgaaGreatDoor
