/- Which fields a request has not are zero, those that it has are right (req.zero, req.right); may, Is. Printed by a program. No condition. -/
import Derived.Test.YteakobbdgehlgaaGreatDoorKRq1H
set_option linter.unusedSimpArgs false
set_option linter.unusedVariables false
set_option linter.unusedSectionVars false
namespace Go.Proofs.YteakobbdgehlgaaGreatDoor
open Go Go.Ab Go.Cod
set_option maxRecDepth 100000
def andI (a b:Int):Int:=IntKind.i64.wrap ((BitVec.ofInt 64 a &&& BitVec.ofInt 64 b).toNat:Int)
def hasF (f k:Int):Bool:=decide (0<andI f k)
def emS (s:ByteArray):Bool:=s.toList==(⟨#[]⟩:ByteArray).toList
def emU (n:Nat):Bool:=(n:Int)==0
def idR (n:Int):Bool:=decide (0≤n)&&decide (n≤2147483647)
def clkB (n:Nat):Bool:=decide ((n:Int)≤1099511627776)
def staR (n:Int):Bool:=decide (0≤n)&&decide (n≤3)
def zeroB (r:ReM) (f:Int):Bool :=
 (hasF f 1||r.id==0)&&((hasF f 2||emS r.txt)&&((hasF f 4||(emU r.st&&emU r.en))&&((hasF f 8||r.sta==0)&&((hasF f 16||emI r.mt.length)&&((hasF f 64||noBd (r.any,r.lo,r.hi))&&((hasF f 128||noRl r.ru)&&((hasF f 256||emI r.ls.length)&&(hasF f 512||zF r.val))))))))
def z0i (r:ReM) (f:Int):Bool :=
 idR r.id&&((!hasF f 2||tokB r.txt)&&(clkB r.st&&(clkB r.en&&(staR r.sta&&(listB r.mt&&((!hasF f 32|| !emI r.mt.length)&&((!hasF f 64||mayB r.any r.lo r.hi)&&((!hasF f 128||ruIs r.ru)&&(!hasF f 256||setB r.ls)))))))))
def mayR (r:ReM):Bool:=(fOf r.op).2&&(zeroB r (fOf r.op).1&&z0i r (fOf r.op).1)
theorem z4P (n:Nat):decide ((0:Int)<n)= !emI n:=by
 unfold emI;rw[Bool.eq_iff_iff];simp only[decide_eq_true_eq,Bool.not_eq_true',beq_eq_false_iff_ne];omega
theorem z9x (op:Int):(fOf op).1∈[0,1,3,116,117,8,128,768,16]:=by
 rcases ops17 op with rfl|rfl|rfl|rfl|rfl|rfl|rfl|rfl|rfl|rfl|rfl|rfl|rfl|rfl|rfl|rfl|rfl|h
 all_goals first|(rw[zdc h];decide)|decide
abbrev aI (f k:Int):Int:=IntKind.i64.wrap (((@HAnd.hAnd (BitVec 64) (BitVec 64) (BitVec 64) (@instHAndOfAndOp (BitVec IntKind.i64.bits) (@BitVec.instAndOp IntKind.i64.bits)) (BitVec.ofInt 64 f) (BitVec.ofInt 64 k)).toNat:Nat):Int)
theorem an_0:aI 0 1=0∧aI 0 2=0∧aI 0 4=0∧aI 0 8=0∧aI 0 16=0∧aI 0 32=0∧aI 0 64=0∧aI 0 128=0∧aI 0 256=0∧aI 0 512=0:=by decide +kernel
theorem hs_0:hasF 0 1=false∧hasF 0 2=false∧hasF 0 4=false∧hasF 0 8=false∧hasF 0 16=false∧hasF 0 32=false∧hasF 0 64=false∧hasF 0 128=false∧hasF 0 256=false∧hasF 0 512=false:=by decide +kernel
theorem an_1:aI 1 1=1∧aI 1 2=0∧aI 1 4=0∧aI 1 8=0∧aI 1 16=0∧aI 1 32=0∧aI 1 64=0∧aI 1 128=0∧aI 1 256=0∧aI 1 512=0:=by decide +kernel
theorem hs_1:hasF 1 1=true∧hasF 1 2=false∧hasF 1 4=false∧hasF 1 8=false∧hasF 1 16=false∧hasF 1 32=false∧hasF 1 64=false∧hasF 1 128=false∧hasF 1 256=false∧hasF 1 512=false:=by decide +kernel
theorem an_3:aI 3 1=1∧aI 3 2=2∧aI 3 4=0∧aI 3 8=0∧aI 3 16=0∧aI 3 32=0∧aI 3 64=0∧aI 3 128=0∧aI 3 256=0∧aI 3 512=0:=by decide +kernel
theorem hs_3:hasF 3 1=true∧hasF 3 2=true∧hasF 3 4=false∧hasF 3 8=false∧hasF 3 16=false∧hasF 3 32=false∧hasF 3 64=false∧hasF 3 128=false∧hasF 3 256=false∧hasF 3 512=false:=by decide +kernel
theorem zhx:aI 116 1=0∧aI 116 2=0∧aI 116 4=4∧aI 116 8=0∧aI 116 16=16∧aI 116 32=32∧aI 116 64=64∧aI 116 128=0∧aI 116 256=0∧aI 116 512=0:=by decide +kernel
theorem z8q:hasF 116 1=false∧hasF 116 2=false∧hasF 116 4=true∧hasF 116 8=false∧hasF 116 16=true∧hasF 116 32=true∧hasF 116 64=true∧hasF 116 128=false∧hasF 116 256=false∧hasF 116 512=false:=by decide +kernel
theorem zhy:aI 117 1=1∧aI 117 2=0∧aI 117 4=4∧aI 117 8=0∧aI 117 16=16∧aI 117 32=32∧aI 117 64=64∧aI 117 128=0∧aI 117 256=0∧aI 117 512=0:=by decide +kernel
theorem z8r:hasF 117 1=true∧hasF 117 2=false∧hasF 117 4=true∧hasF 117 8=false∧hasF 117 16=true∧hasF 117 32=true∧hasF 117 64=true∧hasF 117 128=false∧hasF 117 256=false∧hasF 117 512=false:=by decide +kernel
theorem an_8:aI 8 1=0∧aI 8 2=0∧aI 8 4=0∧aI 8 8=8∧aI 8 16=0∧aI 8 32=0∧aI 8 64=0∧aI 8 128=0∧aI 8 256=0∧aI 8 512=0:=by decide +kernel
theorem hs_8:hasF 8 1=false∧hasF 8 2=false∧hasF 8 4=false∧hasF 8 8=true∧hasF 8 16=false∧hasF 8 32=false∧hasF 8 64=false∧hasF 8 128=false∧hasF 8 256=false∧hasF 8 512=false:=by decide +kernel
theorem zhz:aI 128 1=0∧aI 128 2=0∧aI 128 4=0∧aI 128 8=0∧aI 128 16=0∧aI 128 32=0∧aI 128 64=0∧aI 128 128=128∧aI 128 256=0∧aI 128 512=0:=by decide +kernel
theorem z8s:hasF 128 1=false∧hasF 128 2=false∧hasF 128 4=false∧hasF 128 8=false∧hasF 128 16=false∧hasF 128 32=false∧hasF 128 64=false∧hasF 128 128=true∧hasF 128 256=false∧hasF 128 512=false:=by decide +kernel
theorem zhA:aI 768 1=0∧aI 768 2=0∧aI 768 4=0∧aI 768 8=0∧aI 768 16=0∧aI 768 32=0∧aI 768 64=0∧aI 768 128=0∧aI 768 256=256∧aI 768 512=512:=by decide +kernel
theorem z8t:hasF 768 1=false∧hasF 768 2=false∧hasF 768 4=false∧hasF 768 8=false∧hasF 768 16=false∧hasF 768 32=false∧hasF 768 64=false∧hasF 768 128=false∧hasF 768 256=true∧hasF 768 512=true:=by decide +kernel
theorem an_16:aI 16 1=0∧aI 16 2=0∧aI 16 4=0∧aI 16 8=0∧aI 16 16=16∧aI 16 32=0∧aI 16 64=0∧aI 16 128=0∧aI 16 256=0∧aI 16 512=0:=by decide +kernel
theorem hs_16:hasF 16 1=false∧hasF 16 2=false∧hasF 16 4=false∧hasF 16 8=false∧hasF 16 16=true∧hasF 16 32=false∧hasF 16 64=false∧hasF 16 128=false∧hasF 16 256=false∧hasF 16 512=false:=by decide +kernel
attribute [go_sem] z0r z0g z0L an_0 an_1 an_3 zhx zhy an_8 zhz zhA an_16
section
variable (σ:St)
set_option maxHeartbeats 4000000 in
theorem zhB (r:ReM):Ans Tryz.prog 151 [reV r,I 0] σ (Bo (zeroB r 0)) σ:=by
 obtain⟨tok,op,id,txt,st,en,sta,mt,any,lo,hi,⟨src,tgt,ra,rl,rh,eq⟩,ls,val⟩:=r;have b1:=z1i σ (any,lo,hi);have b2:=z1t σ ⟨src,tgt,ra,rl,rh,eq⟩;have b3:=z1f σ val;unfold bandV at b1;unfold ruV at b2;refine Ans.of_run t151 ?_;unfold reV reC zeroB;simp only[hs_0,Bool.true_or,Bool.false_or,Bool.true_and];unfold emS;unfold emU;unfold emI
 cases h0:(id==0) with
 |false =>
  simp -implicitDefEqProofs only[c151,r151,go_sem,h0];exact Fini.ret rfl
 |true =>
 cases h1:(txt.toList==(⟨#[]⟩:ByteArray).toList) with
 |false =>
  simp -implicitDefEqProofs only[c151,r151,go_sem,h0,h1];exact Fini.ret rfl
 |true =>
 cases h2:(((st:Nat):Int)==0) with
 |false =>
  simp -implicitDefEqProofs only[c151,r151,go_sem,h0,h1,h2];exact Fini.ret rfl
 |true =>
 cases h3:(((en:Nat):Int)==0) with
 |false =>
  simp -implicitDefEqProofs only[c151,r151,go_sem,h0,h1,h2,h3];exact Fini.ret rfl
 |true =>
 cases h4:(sta==0) with
 |false =>
  simp -implicitDefEqProofs only[c151,r151,go_sem,h0,h1,h2,h3,h4];exact Fini.ret rfl
 |true =>
 cases h5:(((mt.length:Nat):Int)==0) with
 |false =>
  simp -implicitDefEqProofs only[c151,r151,go_sem,h0,h1,h2,h3,h4,h5];exact Fini.ret rfl
 |true =>
 simp -implicitDefEqProofs only[c151,r151,go_sem,h0,h1,h2,h3,h4,h5];refine CO.intro b1 ?_
 cases h6:noBd (any,lo,hi) with
 |false =>
  simp -implicitDefEqProofs only[go_sem];exact Fini.ret rfl
 |true =>
 simp -implicitDefEqProofs only[go_sem];refine CO.intro b2 ?_
 cases h7:noRl ⟨src,tgt,ra,rl,rh,eq⟩ with
 |false =>
  simp -implicitDefEqProofs only[go_sem];exact Fini.ret rfl
 |true =>
 cases h8:(((ls.length:Nat):Int)==0) with
 |false =>
  simp -implicitDefEqProofs only[go_sem,h8];exact Fini.ret rfl
 |true =>
 simp -implicitDefEqProofs only[go_sem,h8];refine CO.intro b3 ?_
 cases h9:zF val with
 |false =>
  simp -implicitDefEqProofs only[go_sem];exact Fini.ret rfl
 |true =>
 simp -implicitDefEqProofs only[go_sem];exact Fini.ret rfl
set_option maxHeartbeats 4000000 in
theorem zgw (r:ReM):Ans Tryz.prog 152 [reV r,I 0] σ (Bo (z0i r 0)) σ:=by
 obtain⟨tok,op,id,txt,st,en,sta,mt,any,lo,hi,⟨src,tgt,ra,rl,rh,eq⟩,ls,val⟩:=r;have b0:=z3e σ txt;have b1:=z1F σ mt;have b2:=z1T σ any lo hi;have b3:=z1X σ ⟨src,tgt,ra,rl,rh,eq⟩;have b4:=z20 σ ls;unfold ruV at b3;refine Ans.of_run t152 ?_;unfold reV reC z0i idR staR clkB;simp only[hs_0,Bool.not_true,Bool.not_false,Bool.true_or,Bool.false_or,Bool.true_and,Bool.and_assoc]
 cases h0:decide (0≤id) with
 |false =>
  simp -implicitDefEqProofs only[c152,r152,go_sem,h0];exact Fini.ret rfl
 |true =>
 cases h1:decide (id≤2147483647) with
 |false =>
  simp -implicitDefEqProofs only[c152,r152,go_sem,h0,h1];exact Fini.ret rfl
 |true =>
 cases h2:decide (((st:Nat):Int)≤1099511627776) with
 |false =>
  simp -implicitDefEqProofs only[c152,r152,go_sem,h0,h1,h2];exact Fini.ret rfl
 |true =>
 cases h3:decide (((en:Nat):Int)≤1099511627776) with
 |false =>
  simp -implicitDefEqProofs only[c152,r152,go_sem,h0,h1,h2,h3];exact Fini.ret rfl
 |true =>
 cases h4:decide (0≤sta) with
 |false =>
  simp -implicitDefEqProofs only[c152,r152,go_sem,h0,h1,h2,h3,h4];exact Fini.ret rfl
 |true =>
 cases h5:decide (sta≤3) with
 |false =>
  simp -implicitDefEqProofs only[c152,r152,go_sem,h0,h1,h2,h3,h4,h5];exact Fini.ret rfl
 |true =>
 simp -implicitDefEqProofs only[c152,r152,go_sem,h0,h1,h2,h3,h4,h5];refine CO.intro b1 ?_
 cases h6:listB mt with
 |false =>
  simp -implicitDefEqProofs only[go_sem,];exact Fini.ret rfl
 |true =>
 simp -implicitDefEqProofs only[go_sem];exact Fini.ret rfl
set_option maxHeartbeats 4000000 in
theorem zhC (r:ReM):Ans Tryz.prog 151 [reV r,I 1] σ (Bo (zeroB r 1)) σ:=by
 obtain⟨tok,op,id,txt,st,en,sta,mt,any,lo,hi,⟨src,tgt,ra,rl,rh,eq⟩,ls,val⟩:=r;have b1:=z1i σ (any,lo,hi);have b2:=z1t σ ⟨src,tgt,ra,rl,rh,eq⟩;have b3:=z1f σ val;unfold bandV at b1;unfold ruV at b2;refine Ans.of_run t151 ?_;unfold reV reC zeroB;simp only[hs_1,Bool.true_or,Bool.false_or,Bool.true_and];unfold emS;unfold emU;unfold emI
 cases h0:(txt.toList==(⟨#[]⟩:ByteArray).toList) with
 |false =>
  simp -implicitDefEqProofs only[c151,r151,go_sem,h0];exact Fini.ret rfl
 |true =>
 cases h1:(((st:Nat):Int)==0) with
 |false =>
  simp -implicitDefEqProofs only[c151,r151,go_sem,h0,h1];exact Fini.ret rfl
 |true =>
 cases h2:(((en:Nat):Int)==0) with
 |false =>
  simp -implicitDefEqProofs only[c151,r151,go_sem,h0,h1,h2];exact Fini.ret rfl
 |true =>
 cases h3:(sta==0) with
 |false =>
  simp -implicitDefEqProofs only[c151,r151,go_sem,h0,h1,h2,h3];exact Fini.ret rfl
 |true =>
 cases h4:(((mt.length:Nat):Int)==0) with
 |false =>
  simp -implicitDefEqProofs only[c151,r151,go_sem,h0,h1,h2,h3,h4];exact Fini.ret rfl
 |true =>
 simp -implicitDefEqProofs only[c151,r151,go_sem,h0,h1,h2,h3,h4];refine CO.intro b1 ?_
 cases h5:noBd (any,lo,hi) with
 |false =>
  simp -implicitDefEqProofs only[go_sem];exact Fini.ret rfl
 |true =>
 simp -implicitDefEqProofs only[go_sem];refine CO.intro b2 ?_
 cases h6:noRl ⟨src,tgt,ra,rl,rh,eq⟩ with
 |false =>
  simp -implicitDefEqProofs only[go_sem];exact Fini.ret rfl
 |true =>
 cases h7:(((ls.length:Nat):Int)==0) with
 |false =>
  simp -implicitDefEqProofs only[go_sem,h7];exact Fini.ret rfl
 |true =>
 simp -implicitDefEqProofs only[go_sem,h7];refine CO.intro b3 ?_
 cases h8:zF val with
 |false =>
  simp -implicitDefEqProofs only[go_sem];exact Fini.ret rfl
 |true =>
 simp -implicitDefEqProofs only[go_sem];exact Fini.ret rfl
set_option maxHeartbeats 4000000 in
theorem zgx (r:ReM):Ans Tryz.prog 152 [reV r,I 1] σ (Bo (z0i r 1)) σ:=by
 obtain⟨tok,op,id,txt,st,en,sta,mt,any,lo,hi,⟨src,tgt,ra,rl,rh,eq⟩,ls,val⟩:=r;have b0:=z3e σ txt;have b1:=z1F σ mt;have b2:=z1T σ any lo hi;have b3:=z1X σ ⟨src,tgt,ra,rl,rh,eq⟩;have b4:=z20 σ ls;unfold ruV at b3;refine Ans.of_run t152 ?_;unfold reV reC z0i idR staR clkB;simp only[hs_1,Bool.not_true,Bool.not_false,Bool.true_or,Bool.false_or,Bool.true_and,Bool.and_assoc]
 cases h0:decide (0≤id) with
 |false =>
  simp -implicitDefEqProofs only[c152,r152,go_sem,h0];exact Fini.ret rfl
 |true =>
 cases h1:decide (id≤2147483647) with
 |false =>
  simp -implicitDefEqProofs only[c152,r152,go_sem,h0,h1];exact Fini.ret rfl
 |true =>
 cases h2:decide (((st:Nat):Int)≤1099511627776) with
 |false =>
  simp -implicitDefEqProofs only[c152,r152,go_sem,h0,h1,h2];exact Fini.ret rfl
 |true =>
 cases h3:decide (((en:Nat):Int)≤1099511627776) with
 |false =>
  simp -implicitDefEqProofs only[c152,r152,go_sem,h0,h1,h2,h3];exact Fini.ret rfl
 |true =>
 cases h4:decide (0≤sta) with
 |false =>
  simp -implicitDefEqProofs only[c152,r152,go_sem,h0,h1,h2,h3,h4];exact Fini.ret rfl
 |true =>
 cases h5:decide (sta≤3) with
 |false =>
  simp -implicitDefEqProofs only[c152,r152,go_sem,h0,h1,h2,h3,h4,h5];exact Fini.ret rfl
 |true =>
 simp -implicitDefEqProofs only[c152,r152,go_sem,h0,h1,h2,h3,h4,h5];refine CO.intro b1 ?_
 cases h6:listB mt with
 |false =>
  simp -implicitDefEqProofs only[go_sem,];exact Fini.ret rfl
 |true =>
 simp -implicitDefEqProofs only[go_sem];exact Fini.ret rfl
set_option maxHeartbeats 4000000 in
theorem zhD (r:ReM):Ans Tryz.prog 151 [reV r,I 3] σ (Bo (zeroB r 3)) σ:=by
 obtain⟨tok,op,id,txt,st,en,sta,mt,any,lo,hi,⟨src,tgt,ra,rl,rh,eq⟩,ls,val⟩:=r;have b1:=z1i σ (any,lo,hi);have b2:=z1t σ ⟨src,tgt,ra,rl,rh,eq⟩;have b3:=z1f σ val;unfold bandV at b1;unfold ruV at b2;refine Ans.of_run t151 ?_;unfold reV reC zeroB;simp only[hs_3,Bool.true_or,Bool.false_or,Bool.true_and];unfold emU;unfold emI
 cases h0:(((st:Nat):Int)==0) with
 |false =>
  simp -implicitDefEqProofs only[c151,r151,go_sem,h0];exact Fini.ret rfl
 |true =>
 cases h1:(((en:Nat):Int)==0) with
 |false =>
  simp -implicitDefEqProofs only[c151,r151,go_sem,h0,h1];exact Fini.ret rfl
 |true =>
 cases h2:(sta==0) with
 |false =>
  simp -implicitDefEqProofs only[c151,r151,go_sem,h0,h1,h2];exact Fini.ret rfl
 |true =>
 cases h3:(((mt.length:Nat):Int)==0) with
 |false =>
  simp -implicitDefEqProofs only[c151,r151,go_sem,h0,h1,h2,h3];exact Fini.ret rfl
 |true =>
 simp -implicitDefEqProofs only[c151,r151,go_sem,h0,h1,h2,h3];refine CO.intro b1 ?_
 cases h4:noBd (any,lo,hi) with
 |false =>
  simp -implicitDefEqProofs only[go_sem];exact Fini.ret rfl
 |true =>
 simp -implicitDefEqProofs only[go_sem];refine CO.intro b2 ?_
 cases h5:noRl ⟨src,tgt,ra,rl,rh,eq⟩ with
 |false =>
  simp -implicitDefEqProofs only[go_sem];exact Fini.ret rfl
 |true =>
 cases h6:(((ls.length:Nat):Int)==0) with
 |false =>
  simp -implicitDefEqProofs only[go_sem,h6];exact Fini.ret rfl
 |true =>
 simp -implicitDefEqProofs only[go_sem,h6];refine CO.intro b3 ?_
 cases h7:zF val with
 |false =>
  simp -implicitDefEqProofs only[go_sem];exact Fini.ret rfl
 |true =>
 simp -implicitDefEqProofs only[go_sem];exact Fini.ret rfl
set_option maxHeartbeats 4000000 in
theorem zgy (r:ReM):Ans Tryz.prog 152 [reV r,I 3] σ (Bo (z0i r 3)) σ:=by
 obtain⟨tok,op,id,txt,st,en,sta,mt,any,lo,hi,⟨src,tgt,ra,rl,rh,eq⟩,ls,val⟩:=r;have b0:=z3e σ txt;have b1:=z1F σ mt;have b2:=z1T σ any lo hi;have b3:=z1X σ ⟨src,tgt,ra,rl,rh,eq⟩;have b4:=z20 σ ls;unfold ruV at b3;refine Ans.of_run t152 ?_;unfold reV reC z0i idR staR clkB;simp only[hs_3,Bool.not_true,Bool.not_false,Bool.true_or,Bool.false_or,Bool.true_and,Bool.and_assoc]
 cases h0:decide (0≤id) with
 |false =>
  simp -implicitDefEqProofs only[c152,r152,go_sem,h0];exact Fini.ret rfl
 |true =>
 cases h1:decide (id≤2147483647) with
 |false =>
  simp -implicitDefEqProofs only[c152,r152,go_sem,h0,h1];exact Fini.ret rfl
 |true =>
 simp -implicitDefEqProofs only[c152,r152,go_sem,h0,h1];refine CO.intro b0 ?_
 cases h2:tokB txt with
 |false =>
  simp -implicitDefEqProofs only[go_sem,];exact Fini.ret rfl
 |true =>
 cases h3:decide (((st:Nat):Int)≤1099511627776) with
 |false =>
  simp -implicitDefEqProofs only[go_sem,h3];exact Fini.ret rfl
 |true =>
 cases h4:decide (((en:Nat):Int)≤1099511627776) with
 |false =>
  simp -implicitDefEqProofs only[go_sem,h3,h4];exact Fini.ret rfl
 |true =>
 cases h5:decide (0≤sta) with
 |false =>
  simp -implicitDefEqProofs only[go_sem,h3,h4,h5];exact Fini.ret rfl
 |true =>
 cases h6:decide (sta≤3) with
 |false =>
  simp -implicitDefEqProofs only[go_sem,h3,h4,h5,h6];exact Fini.ret rfl
 |true =>
 simp -implicitDefEqProofs only[go_sem,h3,h4,h5,h6];refine CO.intro b1 ?_
 cases h7:listB mt with
 |false =>
  simp -implicitDefEqProofs only[go_sem,];exact Fini.ret rfl
 |true =>
 simp -implicitDefEqProofs only[go_sem];exact Fini.ret rfl
end
section
variable (σ:St)
set_option maxHeartbeats 4000000 in
theorem zeJ (r:ReM):Ans Tryz.prog 151 [reV r,I 116] σ (Bo (zeroB r 116)) σ:=by
 obtain⟨tok,op,id,txt,st,en,sta,mt,any,lo,hi,⟨src,tgt,ra,rl,rh,eq⟩,ls,val⟩:=r;have b1:=z1i σ (any,lo,hi);have b2:=z1t σ ⟨src,tgt,ra,rl,rh,eq⟩;have b3:=z1f σ val;unfold bandV at b1;unfold ruV at b2;refine Ans.of_run t151 ?_;unfold reV reC zeroB;simp only[z8q,Bool.true_or,Bool.false_or,Bool.true_and];unfold emS;unfold emI
 cases h0:(id==0) with
 |false =>
  simp -implicitDefEqProofs only[c151,r151,go_sem,h0];exact Fini.ret rfl
 |true =>
 cases h1:(txt.toList==(⟨#[]⟩:ByteArray).toList) with
 |false =>
  simp -implicitDefEqProofs only[c151,r151,go_sem,h0,h1];exact Fini.ret rfl
 |true =>
 cases h2:(sta==0) with
 |false =>
  simp -implicitDefEqProofs only[c151,r151,go_sem,h0,h1,h2];exact Fini.ret rfl
 |true =>
 simp -implicitDefEqProofs only[c151,r151,go_sem,h0,h1,h2];refine CO.intro b2 ?_
 cases h3:noRl ⟨src,tgt,ra,rl,rh,eq⟩ with
 |false =>
  simp -implicitDefEqProofs only[go_sem];exact Fini.ret rfl
 |true =>
 cases h4:(((ls.length:Nat):Int)==0) with
 |false =>
  simp -implicitDefEqProofs only[go_sem,h4];exact Fini.ret rfl
 |true =>
 simp -implicitDefEqProofs only[go_sem,h4];refine CO.intro b3 ?_
 cases h5:zF val with
 |false =>
  simp -implicitDefEqProofs only[go_sem];exact Fini.ret rfl
 |true =>
 simp -implicitDefEqProofs only[go_sem];exact Fini.ret rfl
set_option maxHeartbeats 4000000 in
theorem zdd (r:ReM):Ans Tryz.prog 152 [reV r,I 116] σ (Bo (z0i r 116)) σ:=by
 obtain⟨tok,op,id,txt,st,en,sta,mt,any,lo,hi,⟨src,tgt,ra,rl,rh,eq⟩,ls,val⟩:=r;have b0:=z3e σ txt;have b1:=z1F σ mt;have b2:=z1T σ any lo hi;have b3:=z1X σ ⟨src,tgt,ra,rl,rh,eq⟩;have b4:=z20 σ ls;unfold ruV at b3;refine Ans.of_run t152 ?_;unfold reV reC z0i idR staR clkB;simp only[z8q,Bool.not_true,Bool.not_false,Bool.true_or,Bool.false_or,Bool.true_and,Bool.and_assoc]
 cases h0:decide (0≤id) with
 |false =>
  simp -implicitDefEqProofs only[c152,r152,go_sem,h0];exact Fini.ret rfl
 |true =>
 cases h1:decide (id≤2147483647) with
 |false =>
  simp -implicitDefEqProofs only[c152,r152,go_sem,h0,h1];exact Fini.ret rfl
 |true =>
 cases h2:decide (((st:Nat):Int)≤1099511627776) with
 |false =>
  simp -implicitDefEqProofs only[c152,r152,go_sem,h0,h1,h2];exact Fini.ret rfl
 |true =>
 cases h3:decide (((en:Nat):Int)≤1099511627776) with
 |false =>
  simp -implicitDefEqProofs only[c152,r152,go_sem,h0,h1,h2,h3];exact Fini.ret rfl
 |true =>
 cases h4:decide (0≤sta) with
 |false =>
  simp -implicitDefEqProofs only[c152,r152,go_sem,h0,h1,h2,h3,h4];exact Fini.ret rfl
 |true =>
 cases h5:decide (sta≤3) with
 |false =>
  simp -implicitDefEqProofs only[c152,r152,go_sem,h0,h1,h2,h3,h4,h5];exact Fini.ret rfl
 |true =>
 simp -implicitDefEqProofs only[c152,r152,go_sem,h0,h1,h2,h3,h4,h5];refine CO.intro b1 ?_
 cases h6:listB mt with
 |false =>
  simp -implicitDefEqProofs only[go_sem,];exact Fini.ret rfl
 |true =>
 have hl:=z4P mt.length
 cases h7:(!emI mt.length) with
 |false =>
  rw[h7]at hl;simp -implicitDefEqProofs only[go_sem,hl];exact Fini.ret rfl
 |true =>
 rw[h7]at hl;simp -implicitDefEqProofs only[go_sem,hl];refine CO.intro b2 ?_
 cases h8:mayB any lo hi with
 |false =>
  simp -implicitDefEqProofs only[go_sem,];exact Fini.ret rfl
 |true =>
 simp -implicitDefEqProofs only[go_sem];exact Fini.ret rfl
set_option maxHeartbeats 4000000 in
theorem zeK (r:ReM):Ans Tryz.prog 151 [reV r,I 117] σ (Bo (zeroB r 117)) σ:=by
 obtain⟨tok,op,id,txt,st,en,sta,mt,any,lo,hi,⟨src,tgt,ra,rl,rh,eq⟩,ls,val⟩:=r;have b1:=z1i σ (any,lo,hi);have b2:=z1t σ ⟨src,tgt,ra,rl,rh,eq⟩;have b3:=z1f σ val;unfold bandV at b1;unfold ruV at b2;refine Ans.of_run t151 ?_;unfold reV reC zeroB;simp only[z8r,Bool.true_or,Bool.false_or,Bool.true_and];unfold emS;unfold emI
 cases h0:(txt.toList==(⟨#[]⟩:ByteArray).toList) with
 |false =>
  simp -implicitDefEqProofs only[c151,r151,go_sem,h0];exact Fini.ret rfl
 |true =>
 cases h1:(sta==0) with
 |false =>
  simp -implicitDefEqProofs only[c151,r151,go_sem,h0,h1];exact Fini.ret rfl
 |true =>
 simp -implicitDefEqProofs only[c151,r151,go_sem,h0,h1];refine CO.intro b2 ?_
 cases h2:noRl ⟨src,tgt,ra,rl,rh,eq⟩ with
 |false =>
  simp -implicitDefEqProofs only[go_sem];exact Fini.ret rfl
 |true =>
 cases h3:(((ls.length:Nat):Int)==0) with
 |false =>
  simp -implicitDefEqProofs only[go_sem,h3];exact Fini.ret rfl
 |true =>
 simp -implicitDefEqProofs only[go_sem,h3];refine CO.intro b3 ?_
 cases h4:zF val with
 |false =>
  simp -implicitDefEqProofs only[go_sem];exact Fini.ret rfl
 |true =>
 simp -implicitDefEqProofs only[go_sem];exact Fini.ret rfl
set_option maxHeartbeats 4000000 in
theorem zde (r:ReM):Ans Tryz.prog 152 [reV r,I 117] σ (Bo (z0i r 117)) σ:=by
 obtain⟨tok,op,id,txt,st,en,sta,mt,any,lo,hi,⟨src,tgt,ra,rl,rh,eq⟩,ls,val⟩:=r;have b0:=z3e σ txt;have b1:=z1F σ mt;have b2:=z1T σ any lo hi;have b3:=z1X σ ⟨src,tgt,ra,rl,rh,eq⟩;have b4:=z20 σ ls;unfold ruV at b3;refine Ans.of_run t152 ?_;unfold reV reC z0i idR staR clkB;simp only[z8r,Bool.not_true,Bool.not_false,Bool.true_or,Bool.false_or,Bool.true_and,Bool.and_assoc]
 cases h0:decide (0≤id) with
 |false =>
  simp -implicitDefEqProofs only[c152,r152,go_sem,h0];exact Fini.ret rfl
 |true =>
 cases h1:decide (id≤2147483647) with
 |false =>
  simp -implicitDefEqProofs only[c152,r152,go_sem,h0,h1];exact Fini.ret rfl
 |true =>
 cases h2:decide (((st:Nat):Int)≤1099511627776) with
 |false =>
  simp -implicitDefEqProofs only[c152,r152,go_sem,h0,h1,h2];exact Fini.ret rfl
 |true =>
 cases h3:decide (((en:Nat):Int)≤1099511627776) with
 |false =>
  simp -implicitDefEqProofs only[c152,r152,go_sem,h0,h1,h2,h3];exact Fini.ret rfl
 |true =>
 cases h4:decide (0≤sta) with
 |false =>
  simp -implicitDefEqProofs only[c152,r152,go_sem,h0,h1,h2,h3,h4];exact Fini.ret rfl
 |true =>
 cases h5:decide (sta≤3) with
 |false =>
  simp -implicitDefEqProofs only[c152,r152,go_sem,h0,h1,h2,h3,h4,h5];exact Fini.ret rfl
 |true =>
 simp -implicitDefEqProofs only[c152,r152,go_sem,h0,h1,h2,h3,h4,h5];refine CO.intro b1 ?_
 cases h6:listB mt with
 |false =>
  simp -implicitDefEqProofs only[go_sem,];exact Fini.ret rfl
 |true =>
 have hl:=z4P mt.length
 cases h7:(!emI mt.length) with
 |false =>
  rw[h7]at hl;simp -implicitDefEqProofs only[go_sem,hl];exact Fini.ret rfl
 |true =>
 rw[h7]at hl;simp -implicitDefEqProofs only[go_sem,hl];refine CO.intro b2 ?_
 cases h8:mayB any lo hi with
 |false =>
  simp -implicitDefEqProofs only[go_sem,];exact Fini.ret rfl
 |true =>
 simp -implicitDefEqProofs only[go_sem];exact Fini.ret rfl
end
section
variable (σ:St)
set_option maxHeartbeats 4000000 in
theorem zhE (r:ReM):Ans Tryz.prog 151 [reV r,I 8] σ (Bo (zeroB r 8)) σ:=by
 obtain⟨tok,op,id,txt,st,en,sta,mt,any,lo,hi,⟨src,tgt,ra,rl,rh,eq⟩,ls,val⟩:=r;have b1:=z1i σ (any,lo,hi);have b2:=z1t σ ⟨src,tgt,ra,rl,rh,eq⟩;have b3:=z1f σ val;unfold bandV at b1;unfold ruV at b2;refine Ans.of_run t151 ?_;unfold reV reC zeroB;simp only[hs_8,Bool.true_or,Bool.false_or,Bool.true_and];unfold emS;unfold emU;unfold emI
 cases h0:(id==0) with
 |false =>
  simp -implicitDefEqProofs only[c151,r151,go_sem,h0];exact Fini.ret rfl
 |true =>
 cases h1:(txt.toList==(⟨#[]⟩:ByteArray).toList) with
 |false =>
  simp -implicitDefEqProofs only[c151,r151,go_sem,h0,h1];exact Fini.ret rfl
 |true =>
 cases h2:(((st:Nat):Int)==0) with
 |false =>
  simp -implicitDefEqProofs only[c151,r151,go_sem,h0,h1,h2];exact Fini.ret rfl
 |true =>
 cases h3:(((en:Nat):Int)==0) with
 |false =>
  simp -implicitDefEqProofs only[c151,r151,go_sem,h0,h1,h2,h3];exact Fini.ret rfl
 |true =>
 cases h4:(((mt.length:Nat):Int)==0) with
 |false =>
  simp -implicitDefEqProofs only[c151,r151,go_sem,h0,h1,h2,h3,h4];exact Fini.ret rfl
 |true =>
 simp -implicitDefEqProofs only[c151,r151,go_sem,h0,h1,h2,h3,h4];refine CO.intro b1 ?_
 cases h5:noBd (any,lo,hi) with
 |false =>
  simp -implicitDefEqProofs only[go_sem];exact Fini.ret rfl
 |true =>
 simp -implicitDefEqProofs only[go_sem];refine CO.intro b2 ?_
 cases h6:noRl ⟨src,tgt,ra,rl,rh,eq⟩ with
 |false =>
  simp -implicitDefEqProofs only[go_sem];exact Fini.ret rfl
 |true =>
 cases h7:(((ls.length:Nat):Int)==0) with
 |false =>
  simp -implicitDefEqProofs only[go_sem,h7];exact Fini.ret rfl
 |true =>
 simp -implicitDefEqProofs only[go_sem,h7];refine CO.intro b3 ?_
 cases h8:zF val with
 |false =>
  simp -implicitDefEqProofs only[go_sem];exact Fini.ret rfl
 |true =>
 simp -implicitDefEqProofs only[go_sem];exact Fini.ret rfl
set_option maxHeartbeats 4000000 in
theorem zgz (r:ReM):Ans Tryz.prog 152 [reV r,I 8] σ (Bo (z0i r 8)) σ:=by
 obtain⟨tok,op,id,txt,st,en,sta,mt,any,lo,hi,⟨src,tgt,ra,rl,rh,eq⟩,ls,val⟩:=r;have b0:=z3e σ txt;have b1:=z1F σ mt;have b2:=z1T σ any lo hi;have b3:=z1X σ ⟨src,tgt,ra,rl,rh,eq⟩;have b4:=z20 σ ls;unfold ruV at b3;refine Ans.of_run t152 ?_;unfold reV reC z0i idR staR clkB;simp only[hs_8,Bool.not_true,Bool.not_false,Bool.true_or,Bool.false_or,Bool.true_and,Bool.and_assoc]
 cases h0:decide (0≤id) with
 |false =>
  simp -implicitDefEqProofs only[c152,r152,go_sem,h0];exact Fini.ret rfl
 |true =>
 cases h1:decide (id≤2147483647) with
 |false =>
  simp -implicitDefEqProofs only[c152,r152,go_sem,h0,h1];exact Fini.ret rfl
 |true =>
 cases h2:decide (((st:Nat):Int)≤1099511627776) with
 |false =>
  simp -implicitDefEqProofs only[c152,r152,go_sem,h0,h1,h2];exact Fini.ret rfl
 |true =>
 cases h3:decide (((en:Nat):Int)≤1099511627776) with
 |false =>
  simp -implicitDefEqProofs only[c152,r152,go_sem,h0,h1,h2,h3];exact Fini.ret rfl
 |true =>
 cases h4:decide (0≤sta) with
 |false =>
  simp -implicitDefEqProofs only[c152,r152,go_sem,h0,h1,h2,h3,h4];exact Fini.ret rfl
 |true =>
 cases h5:decide (sta≤3) with
 |false =>
  simp -implicitDefEqProofs only[c152,r152,go_sem,h0,h1,h2,h3,h4,h5];exact Fini.ret rfl
 |true =>
 simp -implicitDefEqProofs only[c152,r152,go_sem,h0,h1,h2,h3,h4,h5];refine CO.intro b1 ?_
 cases h6:listB mt with
 |false =>
  simp -implicitDefEqProofs only[go_sem,];exact Fini.ret rfl
 |true =>
 simp -implicitDefEqProofs only[go_sem];exact Fini.ret rfl
set_option maxHeartbeats 4000000 in
theorem zeL (r:ReM):Ans Tryz.prog 151 [reV r,I 128] σ (Bo (zeroB r 128)) σ:=by
 obtain⟨tok,op,id,txt,st,en,sta,mt,any,lo,hi,⟨src,tgt,ra,rl,rh,eq⟩,ls,val⟩:=r;have b1:=z1i σ (any,lo,hi);have b2:=z1t σ ⟨src,tgt,ra,rl,rh,eq⟩;have b3:=z1f σ val;unfold bandV at b1;unfold ruV at b2;refine Ans.of_run t151 ?_;unfold reV reC zeroB;simp only[z8s,Bool.true_or,Bool.false_or,Bool.true_and];unfold emS;unfold emU;unfold emI
 cases h0:(id==0) with
 |false =>
  simp -implicitDefEqProofs only[c151,r151,go_sem,h0];exact Fini.ret rfl
 |true =>
 cases h1:(txt.toList==(⟨#[]⟩:ByteArray).toList) with
 |false =>
  simp -implicitDefEqProofs only[c151,r151,go_sem,h0,h1];exact Fini.ret rfl
 |true =>
 cases h2:(((st:Nat):Int)==0) with
 |false =>
  simp -implicitDefEqProofs only[c151,r151,go_sem,h0,h1,h2];exact Fini.ret rfl
 |true =>
 cases h3:(((en:Nat):Int)==0) with
 |false =>
  simp -implicitDefEqProofs only[c151,r151,go_sem,h0,h1,h2,h3];exact Fini.ret rfl
 |true =>
 cases h4:(sta==0) with
 |false =>
  simp -implicitDefEqProofs only[c151,r151,go_sem,h0,h1,h2,h3,h4];exact Fini.ret rfl
 |true =>
 cases h5:(((mt.length:Nat):Int)==0) with
 |false =>
  simp -implicitDefEqProofs only[c151,r151,go_sem,h0,h1,h2,h3,h4,h5];exact Fini.ret rfl
 |true =>
 simp -implicitDefEqProofs only[c151,r151,go_sem,h0,h1,h2,h3,h4,h5];refine CO.intro b1 ?_
 cases h6:noBd (any,lo,hi) with
 |false =>
  simp -implicitDefEqProofs only[go_sem];exact Fini.ret rfl
 |true =>
 cases h7:(((ls.length:Nat):Int)==0) with
 |false =>
  simp -implicitDefEqProofs only[go_sem,h7];exact Fini.ret rfl
 |true =>
 simp -implicitDefEqProofs only[go_sem,h7];refine CO.intro b3 ?_
 cases h8:zF val with
 |false =>
  simp -implicitDefEqProofs only[go_sem];exact Fini.ret rfl
 |true =>
 simp -implicitDefEqProofs only[go_sem];exact Fini.ret rfl
set_option maxHeartbeats 4000000 in
theorem zdf (r:ReM):Ans Tryz.prog 152 [reV r,I 128] σ (Bo (z0i r 128)) σ:=by
 obtain⟨tok,op,id,txt,st,en,sta,mt,any,lo,hi,⟨src,tgt,ra,rl,rh,eq⟩,ls,val⟩:=r;have b0:=z3e σ txt;have b1:=z1F σ mt;have b2:=z1T σ any lo hi;have b3:=z1X σ ⟨src,tgt,ra,rl,rh,eq⟩;have b4:=z20 σ ls;unfold ruV at b3;refine Ans.of_run t152 ?_;unfold reV reC z0i idR staR clkB;simp only[z8s,Bool.not_true,Bool.not_false,Bool.true_or,Bool.false_or,Bool.true_and,Bool.and_assoc]
 cases h0:decide (0≤id) with
 |false =>
  simp -implicitDefEqProofs only[c152,r152,go_sem,h0];exact Fini.ret rfl
 |true =>
 cases h1:decide (id≤2147483647) with
 |false =>
  simp -implicitDefEqProofs only[c152,r152,go_sem,h0,h1];exact Fini.ret rfl
 |true =>
 cases h2:decide (((st:Nat):Int)≤1099511627776) with
 |false =>
  simp -implicitDefEqProofs only[c152,r152,go_sem,h0,h1,h2];exact Fini.ret rfl
 |true =>
 cases h3:decide (((en:Nat):Int)≤1099511627776) with
 |false =>
  simp -implicitDefEqProofs only[c152,r152,go_sem,h0,h1,h2,h3];exact Fini.ret rfl
 |true =>
 cases h4:decide (0≤sta) with
 |false =>
  simp -implicitDefEqProofs only[c152,r152,go_sem,h0,h1,h2,h3,h4];exact Fini.ret rfl
 |true =>
 cases h5:decide (sta≤3) with
 |false =>
  simp -implicitDefEqProofs only[c152,r152,go_sem,h0,h1,h2,h3,h4,h5];exact Fini.ret rfl
 |true =>
 simp -implicitDefEqProofs only[c152,r152,go_sem,h0,h1,h2,h3,h4,h5];refine CO.intro b1 ?_
 cases h6:listB mt with
 |false =>
  simp -implicitDefEqProofs only[go_sem,];exact Fini.ret rfl
 |true =>
 simp -implicitDefEqProofs only[go_sem];refine CO.intro b3 ?_
 cases h7:ruIs ⟨src,tgt,ra,rl,rh,eq⟩ with
 |false =>
  simp -implicitDefEqProofs only[go_sem,];exact Fini.ret rfl
 |true =>
 simp -implicitDefEqProofs only[go_sem];exact Fini.ret rfl
end
section
variable (σ:St)
set_option maxHeartbeats 4000000 in
theorem zeM (r:ReM):Ans Tryz.prog 151 [reV r,I 768] σ (Bo (zeroB r 768)) σ:=by
 obtain⟨tok,op,id,txt,st,en,sta,mt,any,lo,hi,⟨src,tgt,ra,rl,rh,eq⟩,ls,val⟩:=r;have b1:=z1i σ (any,lo,hi);have b2:=z1t σ ⟨src,tgt,ra,rl,rh,eq⟩;have b3:=z1f σ val;unfold bandV at b1;unfold ruV at b2;refine Ans.of_run t151 ?_;unfold reV reC zeroB;simp only[z8t,Bool.true_or,Bool.false_or,Bool.true_and];unfold emS;unfold emU;unfold emI
 cases h0:(id==0) with
 |false =>
  simp -implicitDefEqProofs only[c151,r151,go_sem,h0];exact Fini.ret rfl
 |true =>
 cases h1:(txt.toList==(⟨#[]⟩:ByteArray).toList) with
 |false =>
  simp -implicitDefEqProofs only[c151,r151,go_sem,h0,h1];exact Fini.ret rfl
 |true =>
 cases h2:(((st:Nat):Int)==0) with
 |false =>
  simp -implicitDefEqProofs only[c151,r151,go_sem,h0,h1,h2];exact Fini.ret rfl
 |true =>
 cases h3:(((en:Nat):Int)==0) with
 |false =>
  simp -implicitDefEqProofs only[c151,r151,go_sem,h0,h1,h2,h3];exact Fini.ret rfl
 |true =>
 cases h4:(sta==0) with
 |false =>
  simp -implicitDefEqProofs only[c151,r151,go_sem,h0,h1,h2,h3,h4];exact Fini.ret rfl
 |true =>
 cases h5:(((mt.length:Nat):Int)==0) with
 |false =>
  simp -implicitDefEqProofs only[c151,r151,go_sem,h0,h1,h2,h3,h4,h5];exact Fini.ret rfl
 |true =>
 simp -implicitDefEqProofs only[c151,r151,go_sem,h0,h1,h2,h3,h4,h5];refine CO.intro b1 ?_
 cases h6:noBd (any,lo,hi) with
 |false =>
  simp -implicitDefEqProofs only[go_sem];exact Fini.ret rfl
 |true =>
 simp -implicitDefEqProofs only[go_sem];refine CO.intro b2 ?_
 cases h7:noRl ⟨src,tgt,ra,rl,rh,eq⟩ with
 |false =>
  simp -implicitDefEqProofs only[go_sem];exact Fini.ret rfl
 |true =>
 simp -implicitDefEqProofs only[go_sem];exact Fini.ret rfl
set_option maxHeartbeats 4000000 in
theorem zdg (r:ReM):Ans Tryz.prog 152 [reV r,I 768] σ (Bo (z0i r 768)) σ:=by
 obtain⟨tok,op,id,txt,st,en,sta,mt,any,lo,hi,⟨src,tgt,ra,rl,rh,eq⟩,ls,val⟩:=r;have b0:=z3e σ txt;have b1:=z1F σ mt;have b2:=z1T σ any lo hi;have b3:=z1X σ ⟨src,tgt,ra,rl,rh,eq⟩;have b4:=z20 σ ls;unfold ruV at b3;refine Ans.of_run t152 ?_;unfold reV reC z0i idR staR clkB;simp only[z8t,Bool.not_true,Bool.not_false,Bool.true_or,Bool.false_or,Bool.true_and,Bool.and_assoc]
 cases h0:decide (0≤id) with
 |false =>
  simp -implicitDefEqProofs only[c152,r152,go_sem,h0];exact Fini.ret rfl
 |true =>
 cases h1:decide (id≤2147483647) with
 |false =>
  simp -implicitDefEqProofs only[c152,r152,go_sem,h0,h1];exact Fini.ret rfl
 |true =>
 cases h2:decide (((st:Nat):Int)≤1099511627776) with
 |false =>
  simp -implicitDefEqProofs only[c152,r152,go_sem,h0,h1,h2];exact Fini.ret rfl
 |true =>
 cases h3:decide (((en:Nat):Int)≤1099511627776) with
 |false =>
  simp -implicitDefEqProofs only[c152,r152,go_sem,h0,h1,h2,h3];exact Fini.ret rfl
 |true =>
 cases h4:decide (0≤sta) with
 |false =>
  simp -implicitDefEqProofs only[c152,r152,go_sem,h0,h1,h2,h3,h4];exact Fini.ret rfl
 |true =>
 cases h5:decide (sta≤3) with
 |false =>
  simp -implicitDefEqProofs only[c152,r152,go_sem,h0,h1,h2,h3,h4,h5];exact Fini.ret rfl
 |true =>
 simp -implicitDefEqProofs only[c152,r152,go_sem,h0,h1,h2,h3,h4,h5];refine CO.intro b1 ?_
 cases h6:listB mt with
 |false =>
  simp -implicitDefEqProofs only[go_sem,];exact Fini.ret rfl
 |true =>
 simp -implicitDefEqProofs only[go_sem];refine CO.intro b4 ?_
 cases h7:setB ls with
 |false =>
  simp -implicitDefEqProofs only[go_sem,];exact Fini.ret rfl
 |true =>
 simp -implicitDefEqProofs only[go_sem];exact Fini.ret rfl
set_option maxHeartbeats 4000000 in
theorem zgA (r:ReM):Ans Tryz.prog 151 [reV r,I 16] σ (Bo (zeroB r 16)) σ:=by
 obtain⟨tok,op,id,txt,st,en,sta,mt,any,lo,hi,⟨src,tgt,ra,rl,rh,eq⟩,ls,val⟩:=r;have b1:=z1i σ (any,lo,hi);have b2:=z1t σ ⟨src,tgt,ra,rl,rh,eq⟩;have b3:=z1f σ val;unfold bandV at b1;unfold ruV at b2;refine Ans.of_run t151 ?_;unfold reV reC zeroB;simp only[hs_16,Bool.true_or,Bool.false_or,Bool.true_and];unfold emS;unfold emU;unfold emI
 cases h0:(id==0) with
 |false =>
  simp -implicitDefEqProofs only[c151,r151,go_sem,h0];exact Fini.ret rfl
 |true =>
 cases h1:(txt.toList==(⟨#[]⟩:ByteArray).toList) with
 |false =>
  simp -implicitDefEqProofs only[c151,r151,go_sem,h0,h1];exact Fini.ret rfl
 |true =>
 cases h2:(((st:Nat):Int)==0) with
 |false =>
  simp -implicitDefEqProofs only[c151,r151,go_sem,h0,h1,h2];exact Fini.ret rfl
 |true =>
 cases h3:(((en:Nat):Int)==0) with
 |false =>
  simp -implicitDefEqProofs only[c151,r151,go_sem,h0,h1,h2,h3];exact Fini.ret rfl
 |true =>
 cases h4:(sta==0) with
 |false =>
  simp -implicitDefEqProofs only[c151,r151,go_sem,h0,h1,h2,h3,h4];exact Fini.ret rfl
 |true =>
 simp -implicitDefEqProofs only[c151,r151,go_sem,h0,h1,h2,h3,h4];refine CO.intro b1 ?_
 cases h5:noBd (any,lo,hi) with
 |false =>
  simp -implicitDefEqProofs only[go_sem];exact Fini.ret rfl
 |true =>
 simp -implicitDefEqProofs only[go_sem];refine CO.intro b2 ?_
 cases h6:noRl ⟨src,tgt,ra,rl,rh,eq⟩ with
 |false =>
  simp -implicitDefEqProofs only[go_sem];exact Fini.ret rfl
 |true =>
 cases h7:(((ls.length:Nat):Int)==0) with
 |false =>
  simp -implicitDefEqProofs only[go_sem,h7];exact Fini.ret rfl
 |true =>
 simp -implicitDefEqProofs only[go_sem,h7];refine CO.intro b3 ?_
 cases h8:zF val with
 |false =>
  simp -implicitDefEqProofs only[go_sem];exact Fini.ret rfl
 |true =>
 simp -implicitDefEqProofs only[go_sem];exact Fini.ret rfl
set_option maxHeartbeats 4000000 in
theorem zeN (r:ReM):Ans Tryz.prog 152 [reV r,I 16] σ (Bo (z0i r 16)) σ:=by
 obtain⟨tok,op,id,txt,st,en,sta,mt,any,lo,hi,⟨src,tgt,ra,rl,rh,eq⟩,ls,val⟩:=r;have b0:=z3e σ txt;have b1:=z1F σ mt;have b2:=z1T σ any lo hi;have b3:=z1X σ ⟨src,tgt,ra,rl,rh,eq⟩;have b4:=z20 σ ls;unfold ruV at b3;refine Ans.of_run t152 ?_;unfold reV reC z0i idR staR clkB;simp only[hs_16,Bool.not_true,Bool.not_false,Bool.true_or,Bool.false_or,Bool.true_and,Bool.and_assoc]
 cases h0:decide (0≤id) with
 |false =>
  simp -implicitDefEqProofs only[c152,r152,go_sem,h0];exact Fini.ret rfl
 |true =>
 cases h1:decide (id≤2147483647) with
 |false =>
  simp -implicitDefEqProofs only[c152,r152,go_sem,h0,h1];exact Fini.ret rfl
 |true =>
 cases h2:decide (((st:Nat):Int)≤1099511627776) with
 |false =>
  simp -implicitDefEqProofs only[c152,r152,go_sem,h0,h1,h2];exact Fini.ret rfl
 |true =>
 cases h3:decide (((en:Nat):Int)≤1099511627776) with
 |false =>
  simp -implicitDefEqProofs only[c152,r152,go_sem,h0,h1,h2,h3];exact Fini.ret rfl
 |true =>
 cases h4:decide (0≤sta) with
 |false =>
  simp -implicitDefEqProofs only[c152,r152,go_sem,h0,h1,h2,h3,h4];exact Fini.ret rfl
 |true =>
 cases h5:decide (sta≤3) with
 |false =>
  simp -implicitDefEqProofs only[c152,r152,go_sem,h0,h1,h2,h3,h4,h5];exact Fini.ret rfl
 |true =>
 simp -implicitDefEqProofs only[c152,r152,go_sem,h0,h1,h2,h3,h4,h5];refine CO.intro b1 ?_
 cases h6:listB mt with
 |false =>
  simp -implicitDefEqProofs only[go_sem,];exact Fini.ret rfl
 |true =>
 simp -implicitDefEqProofs only[go_sem];exact Fini.ret rfl
end
section
variable (σ:St)
theorem zdh (r:ReM) (op:Int):Ans Tryz.prog 151 [reV r,I (fOf op).1] σ (Bo (zeroB r (fOf op).1)) σ:=by
 have h:=z9x op;generalize (fOf op).1=f at h;simp only[List.mem_cons,List.not_mem_nil,or_false]at h;rcases h with rfl|rfl|rfl|rfl|rfl|rfl|rfl|rfl|rfl
 · exact zhB σ r
 · exact zhC σ r
 · exact zhD σ r
 · exact zeJ σ r
 · exact zeK σ r
 · exact zhE σ r
 · exact zeL σ r
 · exact zeM σ r
 · exact zgA σ r
theorem zbt (r:ReM) (op:Int):Ans Tryz.prog 152 [reV r,I (fOf op).1] σ (Bo (z0i r (fOf op).1)) σ:=by
 have h:=z9x op;generalize (fOf op).1=f at h;simp only[List.mem_cons,List.not_mem_nil,or_false]at h;rcases h with rfl|rfl|rfl|rfl|rfl|rfl|rfl|rfl|rfl
 · exact zgw σ r
 · exact zgx σ r
 · exact zgy σ r
 · exact zdd σ r
 · exact zde σ r
 · exact zgz σ r
 · exact zdf σ r
 · exact zdg σ r
 · exact zeN σ r
theorem z2d (r:ReM):Ans Tryz.prog 131 [reV r] σ (Bo (mayR r)) σ:=by
 have h1:=z1h σ r.op;have h2:=zdh σ r r.op;have h3:=zbt σ r r.op;refine Ans.of_run t131 ?_;unfold mayR;unfold reV reC at *;simp -implicitDefEqProofs only[c131,r131,go_sem];refine CO.intro h1 ?_
 cases(fOf r.op).2 with
 |false =>
  simp -implicitDefEqProofs only[go_sem];exact Fini.ret rfl
 |true =>
  simp -implicitDefEqProofs only[go_sem];refine CO.intro h2 ?_
  cases zeroB r (fOf r.op).1 with
  |false =>
   simp -implicitDefEqProofs only[go_sem];exact Fini.ret rfl
  |true =>
   simp -implicitDefEqProofs only[go_sem];refine CO.intro h3 ?_;simp -implicitDefEqProofs only[go_sem];exact Fini.ret rfl
end
def x0 (op:Int):ReM:=⟨⟨#[]⟩,op,0,⟨#[]⟩,0,0,0,[],false,0,0,noRu,[],0⟩
def mk116 (op:Int) (p:Nat×Nat×List Mtr×Bnd):ReM:={ x0 op with st:=p.1,en:=p.2.1,mt:=p.2.2.1,any:=p.2.2.2.1,lo:=p.2.2.2.2.1,hi:=p.2.2.2.2.2 }
def mk117 (op:Int) (p:Nat×Nat×Nat×List Mtr×Bnd):ReM:={ mk116 op p.2 with id:=(p.1:Nat) }
def clR (f op:Int):Rd ReM :=
 if f=1 then z1K (numR 2147483647) fun n=>{ x0 op with id:=(n:Nat) }
 else if f=3 then z1K (seqR (numR 2147483647) (textR 16)) fun p=>{ x0 op with id:=(p.1:Nat),txt:=p.2 }
 else if f=116 then z1K (seqR (numR 1099511627776) (seqR (numR 1099511627776) (seqR listR bandR))) (mk116 op)
 else if f=117 then z1K (seqR (numR 2147483647) (seqR (numR 1099511627776) (seqR (numR 1099511627776) (seqR listR bandR)))) (mk117 op)
 else if f=8 then z1K byteR fun c=>{ x0 op with sta:=(c.toNat:Nat) }
 else if f=128 then z1K ruR fun r=>{ x0 op with ru:=r }
 else if f=768 then z1K (seqR setR valR) fun p=>{ x0 op with ls:=p.1,val:=p.2 }
 else if f=16 then z1K listR fun M=>{ x0 op with mt:=M }
 else fun b=>some (x0 op,b)
def clS (f op:Int) (b:Byt):Nat×Bool→ReM×(Nat×Bool) :=
 if f=1 then z1S (runR (numR 2147483647) 0 b) fun n=>{ x0 op with id:=(n:Nat) }
 else if f=3 then z1S (seqSt (runR (numR 2147483647) 0 b) (runR (textR 16) ⟨#[]⟩ b)) fun p=>{ x0 op with id:=(p.1:Nat),txt:=p.2 }
 else if f=116 then z1S (seqSt (runR (numR 1099511627776) 0 b) (seqSt (runR (numR 1099511627776) 0 b) (seqSt (runR listR [] b) (runR bandR (false,0,0) b)))) (mk116 op)
 else if f=117 then z1S (seqSt (runR (numR 2147483647) 0 b) (seqSt (runR (numR 1099511627776) 0 b) (seqSt (runR (numR 1099511627776) 0 b) (seqSt (runR listR [] b) (runR bandR (false,0,0) b))))) (mk117 op)
 else if f=8 then z1S (runR byteR 0 b) fun c=>{ x0 op with sta:=(c.toNat:Nat) }
 else if f=128 then z1S (runR ruR noRu b) fun r=>{ x0 op with ru:=r }
 else if f=768 then z1S (seqSt (runR setR [] b) (valS b)) fun p=>{ x0 op with ls:=p.1,val:=p.2 }
 else if f=16 then z1S (runR listR [] b) fun M=>{ x0 op with mt:=M }
 else fun q=>(x0 op,q)
theorem zbu {α:Type} (b:Byt) (x:α):StepsR b (fun b=>some (x,b)) (fun q=>(x,q)) where
 some_ a y t ha hr:=by
  simp only[Option.some.injEq,Prod.mk.injEq]at hr;obtain⟨rfl,rfl⟩:=hr;simp only[List.length_drop,Prod.mk.injEq,true_and];exact⟨by omega,trivial⟩
 none_ a ha hr:=by cases hr
 bad a:=rfl
 inb q hq:=hq
theorem zdi {α:Type} (x:α):EndsR (fun b=>some (x,b)):=fun b y t h=>by
 simp only[Option.some.injEq,Prod.mk.injEq]at h;exact⟨[],by rw[h.2];rfl⟩
theorem z3C (f op:Int) (b:Byt):StepsR b (clR f op) (clS f op b):=by
 unfold clR clS
 repeat' split
 · exact z14 (z0o _ _ _) _
 · exact z14 (z0K (z0o _ _ _) (z0o _ _ _) (ends_num _)) _
 · exact z14 (z0K (z0o _ _ _) (z0K (z0o _ _ _) (z0K (z0o _ _ _) (z0o _ _ _) ends_list) (ends_num _)) (ends_num _)) _
 · exact z14 (z0K (z0o _ _ _) (z0K (z0o _ _ _) (z0K (z0o _ _ _) (z0K (z0o _ _ _) (z0o _ _ _) ends_list) (ends_num _)) (ends_num _)) (ends_num _)) _
 · exact z14 (z0o _ _ _) _
 · exact z14 (z0o _ _ _) _
 · exact z14 (z0K (z0o _ _ _) (z0J b) ends_set) _
 · exact z14 (z0o _ _ _) _
 · exact zbu b _
theorem zgB (f op:Int):EndsR (clR f op):=by
 unfold clR
 repeat' split
 · exact z1s (ends_num _) _
 · exact z1s (z1L (ends_num _) (z2Q _)) _
 · exact z1s (z1L (ends_num _) (z1L (ends_num _) (z1L ends_list ends_band))) _
 · exact z1s (z1L (ends_num _) (z1L (ends_num _) (z1L (ends_num _) (z1L ends_list ends_band)))) _
 · exact z1s ends_byte _
 · exact z1s ends_ru _
 · exact z1s (z1L ends_set z7d) _
 · exact z1s ends_list _
 · exact zdi _
def bodyR:Rd ReM
 |[]=>none
 |c::t=>onlyR (clR (fOf (c.toNat:Int)).1 (c.toNat:Int)) mayR t
def bodyS (b:Byt) (q:Nat×Bool):ReM×(Nat×Bool) :=
 z0N (fun q1=>clS (fOf ((runR byteR 0 b q).1.toNat:Int)).1 ((runR byteR 0 b q).1.toNat:Int) b (took q1 0 (fOf ((runR byteR 0 b q).1.toNat:Int)).2)) mayR (runR byteR 0 b q).2
theorem z8u (q:Nat×Bool):took q 0 true=q:=by
 obtain⟨a,b⟩:=q;cases b<;>rfl
theorem zdj:EndsR bodyR:=fun b x t h=>by
 cases b with
 |nil=>cases h
 |cons c u =>
  obtain⟨w,hw⟩:=z7W (zgB _ _) mayR _ _ _ h;exact⟨c::w,by rw[hw];rfl⟩
theorem zgC {x:ReM} (h:mayR x=true):(fOf x.op).2=true:=by
 unfold mayR at h;simp only[Bool.and_eq_true]at h;exact h.1
theorem zhF {f op:Int} {b:Byt} {x:ReM} {t:Byt} (h:clR f op b=some (x,t)):x.op=op:=by
 unfold clR at h
 repeat' split at h
 all_goals first
  |(simp only[Option.some.injEq,Prod.mk.injEq]at h;rw[←h.1];rfl)
  |(simp only[z1K,Option.map_eq_some_iff]at h;obtain⟨p,_,hp⟩:=h;simp only[Prod.mk.injEq]at hp;rw[←hp.1];rfl)
theorem zbv (b:Byt):StepsR b bodyR (bodyS b) where
 some_ a x t ha hr:=by
  cases hd:b.drop a with
  |nil=>rw[hd]at hr;cases hr
  |cons c u =>
   have h1:byteR (b.drop a)=some (c,u):=by rw[hd];rfl
   obtain⟨e1,e2,e3⟩:=ends_byte.drop ha h1;rw[hd]at hr;have hr:onlyR (clR (fOf (c.toNat:Int)).1 (c.toNat:Int)) mayR u=some (x,t):=hr
   have hop:(fOf (c.toNat:Int)).2=true:=by
    simp only[onlyR]at hr
    cases h3:clR (fOf (c.toNat:Int)).1 (c.toNat:Int) u with
    |none=>simp[h3]at hr
    |some y =>
     simp only[h3,Option.bind_some]at hr;split at hr
     · rename_i hm;rw[←zhF h3];exact zgC hm
     · cases hr
   unfold bodyS;simp only[z0U h1,hop,z8u];exact(z1c (z3C _ _ b) mayR).some_ (b.length-u.length) x t (by omega) (by rw[e1];exact hr)
 none_ a ha hr:=by
  cases hd:b.drop a with
  |nil =>
   have h1:byteR (b.drop a)=none:=by rw[hd];rfl
   unfold bodyS;simp only[z1b h1];exact z34 (z1c (z3C _ _ b) mayR).bad _ (by cases(fOf (((0:UInt8).toNat:Nat):Int)).2<;>rfl)
  |cons c u =>
   have h1:byteR (b.drop a)=some (c,u):=by rw[hd];rfl
   obtain⟨e1,e2,e3⟩:=ends_byte.drop ha h1;rw[hd]at hr;have hr:onlyR (clR (fOf (c.toNat:Int)).1 (c.toNat:Int)) mayR u=none:=hr;unfold bodyS;simp only[z0U h1]
   cases hop:(fOf (c.toNat:Int)).2 with
   |true =>
    simp only[z8u];exact(z1c (z3C _ _ b) mayR).none_ (b.length-u.length) (by omega) (by rw[e1];exact hr)
   |false=>exact z34 (z1c (z3C _ _ b) mayR).bad _ rfl
 bad a:=by
  unfold bodyS;simp only[z0M];exact z34 (z1c (z3C _ _ b) mayR).bad _ (by cases(fOf (((0:UInt8).toNat:Nat):Int)).2<;>rfl)
 inb q hq:=by
  have h1:=z0h byteR 0 b q hq;unfold bodyS;exact(z1c (z3C _ _ b) mayR).inb _ (z1l b _ _ h1)
abbrev XC0 (c:UInt8):List AV:=[Sx ⟨#[]⟩,I (c.toNat:Nat),I 0,Sx ⟨#[]⟩,UN 0,UN 0,I 0,.nils,Bo false,Fl 0,Fl 0,.nils,.nils,Bo false,Fl 0,Fl 0,.nils,.nils,Fl 0]
abbrev XC1 (c:UInt8) (a2:AV):List AV:=[Sx ⟨#[]⟩,I (c.toNat:Nat),a2,Sx ⟨#[]⟩,UN 0,UN 0,I 0,.nils,Bo false,Fl 0,Fl 0,.nils,.nils,Bo false,Fl 0,Fl 0,.nils,.nils,Fl 0]
abbrev XC3 (c:UInt8) (a2 a3:AV):List AV:=[Sx ⟨#[]⟩,I (c.toNat:Nat),a2,a3,UN 0,UN 0,I 0,.nils,Bo false,Fl 0,Fl 0,.nils,.nils,Bo false,Fl 0,Fl 0,.nils,.nils,Fl 0]
abbrev XC116 (c:UInt8) (a4 a5 a7 a8 a9 a10:AV):List AV:=[Sx ⟨#[]⟩,I (c.toNat:Nat),I 0,Sx ⟨#[]⟩,a4,a5,I 0,a7,a8,a9,a10,.nils,.nils,Bo false,Fl 0,Fl 0,.nils,.nils,Fl 0]
abbrev XC117 (c:UInt8) (a2 a4 a5 a7 a8 a9 a10:AV):List AV:=[Sx ⟨#[]⟩,I (c.toNat:Nat),a2,Sx ⟨#[]⟩,a4,a5,I 0,a7,a8,a9,a10,.nils,.nils,Bo false,Fl 0,Fl 0,.nils,.nils,Fl 0]
abbrev XC8 (c:UInt8) (a6:AV):List AV:=[Sx ⟨#[]⟩,I (c.toNat:Nat),I 0,Sx ⟨#[]⟩,UN 0,UN 0,a6,.nils,Bo false,Fl 0,Fl 0,.nils,.nils,Bo false,Fl 0,Fl 0,.nils,.nils,Fl 0]
abbrev XC128 (c:UInt8) (a11 a12 a13 a14 a15 a16:AV):List AV:=[Sx ⟨#[]⟩,I (c.toNat:Nat),I 0,Sx ⟨#[]⟩,UN 0,UN 0,I 0,.nils,Bo false,Fl 0,Fl 0,a11,a12,a13,a14,a15,a16,.nils,Fl 0]
abbrev XC768 (c:UInt8) (a17 a18:AV):List AV:=[Sx ⟨#[]⟩,I (c.toNat:Nat),I 0,Sx ⟨#[]⟩,UN 0,UN 0,I 0,.nils,Bo false,Fl 0,Fl 0,.nils,.nils,Bo false,Fl 0,Fl 0,.nils,a17,a18]
abbrev XC16 (c:UInt8) (a7:AV):List AV:=[Sx ⟨#[]⟩,I (c.toNat:Nat),I 0,Sx ⟨#[]⟩,UN 0,UN 0,I 0,a7,Bo false,Fl 0,Fl 0,.nils,.nils,Bo false,Fl 0,Fl 0,.nils,.nils,Fl 0]
abbrev B19:Ob:=.box [Sx ⟨#[]⟩,I 0,I 0,Sx ⟨#[]⟩,UN 0,UN 0,I 0,.nils,Bo false,Fl 0,Fl 0,.nils,.nils,Bo false,Fl 0,Fl 0,.nils,.nils,Fl 0]
theorem ap4 {α:Type}:(∀a b c:List α,a++b++c=a++(b++c))∧(∀a b:List α,(a++b).length=a.length+b.length)∧(∀(x:α) a b,(x::a)++b=x::(a++b))∧∀a:List α,[]++a=a :=
 ⟨List.append_assoc,fun _ _=>List.length_append,fun _ _ _=>rfl,fun _=>rfl⟩
theorem rd_facts (A:Nat×Bool→St) (n p:Nat) (b:Byt) (hn:∀q,(A q).length=n) (hg:∀q,(A q)[p]?=some (rob b q)) (hs:∀q q',(A q).set p (rob b q')=A q') (q:Nat×Bool) :
  (∀q (ex:St),(A q++ex)[p]?=some (rob b q))∧(∀q q' (ex:St),(A q++ex).set p (rob b q')=A q'++ex) ∧
  (∀q (x:Ob) (ex:St),(A q++x::ex)[n]?=some x)∧(∀q (x y:Ob) (ex:St),(A q++x::y::ex)[n+1]?=some y) ∧
  (∀q (x u:Ob) (ex:St),(A q++x::ex).set n u=A q++u::ex)∧∀q (x y u:Ob) (ex:St),(A q++x::y::ex).set (n+1) u=A q++x::u::ex:=by
 have hp:p<n:=by have:=(List.getElem?_eq_some_iff.1 (hg q)).1;rw[hn]at this;exact this
 exact⟨fun q ex=>by rw[List.getElem?_append_left (by rw[hn];exact hp)];exact hg q,fun q q' ex=>by rw[List.set_append_left _ _ (by rw[hn];exact hp),hs],
  fun q x ex=>by rw[←hn q];exact g0 _ _ _,fun q x y ex=>by rw[←hn q];exact g1 _ _ _ _,
  fun q x u ex=>by rw[←hn q];exact s0 _ _ _ _,fun q x y u ex=>by rw[←hn q];exact s1 _ _ _ _ _⟩
theorem z3f (b:Byt) (q:Nat×Bool) {n:Nat}:∀c∈([.sl 1 (byv b),.pl (.int .i64 q.1),Bo q.2]:List AV),Bel n c:=by
 intro c hc;simp only[List.mem_cons,List.not_mem_nil,or_false]at hc;rcases hc with rfl|rfl|rfl
 · exact z1x _ _
 · exact .pl _
 · exact .pl _
section
variable (A:Nat×Bool→St) (n p:Nat) (b:Byt) (hn:∀q,(A q).length=n) (hg:∀q,(A q)[p]?=some (rob b q)) (hs:∀q q',(A q).set p (rob b q')=A q') (hb:b.length≤50000)
include hn hg hs hb
set_option maxHeartbeats 8000000 in
theorem zhG (q:Nat×Bool) (hq:Inb b q) (c:UInt8) (q1:Nat×Bool) (hc:runR byteR 0 b q=(c,q1)) (ok:Bool) (hf:fOf (c.toNat:Int)=(0,ok)) :
  Ans Tryz.prog 102 [.ptr p 0] (A q) (reV (bodyS b q).1) (A (bodyS b q).2):=by
 obtain⟨hgA,hsA,gs⟩:=rd_facts A n p b hn hg hs q;have k0:=z1g (A q++[B19]) p b q (hgA _ _) hq hb;have hin1:=z0h byteR 0 b q hq
 have hbS:bodyS b q=z0N (fun q1=>clS 0 (c.toNat:Int) b (took q1 0 ok)) mayR q1:=by
  unfold bodyS;rw[hc];simp only[hf]
 rw[hc]at k0 hin1;rw[hbS];simp only at k0 hin1;rw[hsA]at k0;have k1:=z1h (A q1++[B19,.box (XC0 c)]) (c.toNat:Int);rw[hf]at k1;have k2:=z0a (A q1++[B19,.box (XC0 c)]) p b q1 ok (hgA _ _) hin1 hb;rw[hsA]at k2;have hin2:=z1l b q1 ok hin1;unfold z0N;simp only;generalize took q1 0 ok=q2 at k2 hin2⊢;have wc:IntKind.i64.wrap (c.toNat:Int)=(c.toNat:Int):=wrapI (by have:=c.toNat_lt;omega)
 have hcl:clS 0 (c.toNat:Int) b q2=(x0 (c.toNat:Int),q2):=rfl;rw[hcl];simp only;have hsub:Sub (.agg (XC0 c)) (reV (x0 (c.toNat:Int))):=.agg (.cons (.refl _) <| .cons (.refl _) <| .cons (.refl _) <| .cons (.refl _) <| .cons (.refl _) <| .cons (.refl _) <| .cons (.refl _) <| .cons (.nils 3) <| .cons (.refl _) <| .cons (.refl _) <| .cons (.refl _) <| .cons (.nils 3) <| .cons (.nils 3) <| .cons (.refl _) <| .cons (.refl _) <| .cons (.refl _) <| .cons (.nils 1) <| .cons (.nils 2) <| .cons (.refl _) <| .nil);have km:=(z2d (A q2++[B19,.box (XC0 c)]) (x0 (c.toNat:Int))).subA (.cons hsub .nil);have ke:=z0a (A q2++[B19,.box (XC0 c)]) p b q2 (mayR (x0 (c.toNat:Int))) (hgA _ _) hin2 hb;rw[hsA]at ke;generalize mayR (x0 (c.toNat:Int))=okm at km ke⊢;generalize took q2 0 okm=qe at ke⊢;refine Ans.subR ?_ hsub;refine Ans.of_run' t102 (fun hbel _=>?_)
 simp -implicitDefEqProofs only[c102,r102,go_sem,hgA,hsA,gs,hn,ap4];refine CO.intro k0 ?_;simp -implicitDefEqProofs only[go_sem,bc,wc,hgA,hsA,gs,hn,ap4];refine CO.intro k1 ?_;simp -implicitDefEqProofs only[go_sem];refine CO.intro k2 ?_;simp -implicitDefEqProofs only[go_sem,bc,hgA,hsA,gs,hn,ap4];refine CO.intro km ?_;simp -implicitDefEqProofs only[go_sem];refine CO.intro ke ?_;simp -implicitDefEqProofs only[go_sem,hgA,hsA,gs,hn,ap4]
 have hbl:Bel (A qe).length (.agg (XC0 c)):=.agg _ (fun i hi=>by
  have:∀y∈(XC0 c:List AV),Bel (A qe).length y:=by
   intro y hy;simp only[List.mem_cons,List.not_mem_nil,or_false]at hy;rcases hy with rfl|rfl|rfl|rfl|rfl|rfl|rfl|rfl|rfl|rfl|rfl|rfl|rfl|rfl|rfl|rfl|rfl|rfl|rfl
   all_goals first|exact .pl _|exact .nils|exact z0q _ _|exact z0G _ _|exact z0t _ _
  exact this _ (List.getElem_mem hi))
 exact Fini.trim2 (σ':=A qe) (ex:=[_,_]) (by simp -implicitDefEqProofs only[go_sem,resA,z01,rvA,oneOf,gs]<;>rfl) rfl (Nat.le_of_eq (by simp only[hn])) hbl (fun o ho=>by
  rw[←hs q qe]at ho;rw[hn];rw[hn]at hbel
  exact z1P (o:=rob b qe) hbel (z3f _ _) o ho)
set_option maxHeartbeats 8000000 in
theorem zhH (q:Nat×Bool) (hq:Inb b q) (c:UInt8) (q1:Nat×Bool) (hc:runR byteR 0 b q=(c,q1)) (ok:Bool) (hf:fOf (c.toNat:Int)=(1,ok)) :
  Ans Tryz.prog 102 [.ptr p 0] (A q) (reV (bodyS b q).1) (A (bodyS b q).2):=by
 obtain⟨hgA,hsA,gs⟩:=rd_facts A n p b hn hg hs q;have k0:=z1g (A q++[B19]) p b q (hgA _ _) hq hb;have hin1:=z0h byteR 0 b q hq
 have hbS:bodyS b q=z0N (fun q1=>clS 1 (c.toNat:Int) b (took q1 0 ok)) mayR q1:=by
  unfold bodyS;rw[hc];simp only[hf]
 rw[hc]at k0 hin1;rw[hbS];simp only at k0 hin1;rw[hsA]at k0;have k1:=z1h (A q1++[B19,.box (XC1 c (I 0))]) (c.toNat:Int);rw[hf]at k1;have k2:=z0a (A q1++[B19,.box (XC1 c (I 0))]) p b q1 ok (hgA _ _) hin1 hb;rw[hsA]at k2;have hin2:=z1l b q1 ok hin1;unfold z0N;simp only;generalize took q1 0 ok=q2 at k2 hin2⊢;have wc:IntKind.i64.wrap (c.toNat:Int)=(c.toNat:Int):=wrapI (by have:=c.toNat_lt;omega)
 have hcl:clS 1 (c.toNat:Int) b q2=({ x0 (c.toNat:Int) with id:=(((runR (numR 2147483647) 0 b q2).1:Nat):Int) },(runR (numR 2147483647) 0 b q2).2):=rfl
 rw[hcl];simp only;have k3:=z2G (A q2++[B19,.box (XC1 c (I 0))]) p b q2 2147483647 (by decide) (hgA _ _) hin2 hb
 rw[hsA]at k3;have hin3:=z0h (numR 2147483647) 0 b q2 hin2;have le0:=z2I (most:=2147483647) b q2;generalize runR (numR 2147483647) 0 b q2=w0 at k3 hin3 le0⊢;obtain⟨v0,q3⟩:=w0;simp only at k3 hin3 le0⊢;have wv0:IntKind.i64.wrap (v0:Int)=(v0:Int):=wrapI (by omega)
 have hsub:Sub (.agg (XC1 c (I (v0:Nat)))) (reV ({ x0 (c.toNat:Int) with id:=((v0:Nat):Int) })):=.agg (.cons (.refl _) <| .cons (.refl _) <| .cons (.refl _) <| .cons (.refl _) <| .cons (.refl _) <| .cons (.refl _) <| .cons (.refl _) <| .cons (.nils 3) <| .cons (.refl _) <| .cons (.refl _) <| .cons (.refl _) <| .cons (.nils 3) <| .cons (.nils 3) <| .cons (.refl _) <| .cons (.refl _) <| .cons (.refl _) <| .cons (.nils 1) <| .cons (.nils 2) <| .cons (.refl _) <| .nil)
 have km:=(z2d (A q3++[B19,.box (XC1 c (I (v0:Nat)))]) ({ x0 (c.toNat:Int) with id:=((v0:Nat):Int) })).subA (.cons hsub .nil)
 have ke:=z0a (A q3++[B19,.box (XC1 c (I (v0:Nat)))]) p b q3 (mayR ({ x0 (c.toNat:Int) with id:=((v0:Nat):Int) })) (hgA _ _) hin3 hb
 rw[hsA]at ke;generalize mayR ({ x0 (c.toNat:Int) with id:=((v0:Nat):Int) })=okm at km ke⊢
 generalize took q3 0 okm=qe at ke⊢;refine Ans.subR ?_ hsub;refine Ans.of_run' t102 (fun hbel _=>?_)
 simp -implicitDefEqProofs only[c102,r102,go_sem,hgA,hsA,gs,hn,ap4];refine CO.intro k0 ?_;simp -implicitDefEqProofs only[go_sem,bc,wc,hgA,hsA,gs,hn,ap4];refine CO.intro k1 ?_;simp -implicitDefEqProofs only[go_sem];refine CO.intro k2 ?_;simp -implicitDefEqProofs only[go_sem,bc,hgA,hsA,gs,hn,ap4];refine CO.intro k3 ?_;simp -implicitDefEqProofs only[go_sem,bc,wv0,hgA,hsA,gs,hn,ap4];refine CO.intro km ?_;simp -implicitDefEqProofs only[go_sem];refine CO.intro ke ?_;simp -implicitDefEqProofs only[go_sem,hgA,hsA,gs,hn,ap4]
 have hbl:Bel (A qe).length (.agg (XC1 c (I (v0:Nat)))):=.agg _ (fun i hi=>by
  have:∀y∈(XC1 c (I (v0:Nat)):List AV),Bel (A qe).length y:=by
   intro y hy;simp only[List.mem_cons,List.not_mem_nil,or_false]at hy;rcases hy with rfl|rfl|rfl|rfl|rfl|rfl|rfl|rfl|rfl|rfl|rfl|rfl|rfl|rfl|rfl|rfl|rfl|rfl|rfl
   all_goals first|exact .pl _|exact .nils|exact z0q _ _|exact z0G _ _|exact z0t _ _
  exact this _ (List.getElem_mem hi))
 exact Fini.trim2 (σ':=A qe) (ex:=[_,_]) (by simp -implicitDefEqProofs only[go_sem,resA,z01,rvA,oneOf,gs]<;>rfl) rfl (Nat.le_of_eq (by simp only[hn])) hbl (fun o ho=>by
  rw[←hs q qe]at ho;rw[hn];rw[hn]at hbel
  exact z1P (o:=rob b qe) hbel (z3f _ _) o ho)
set_option maxHeartbeats 8000000 in
theorem zhI (q:Nat×Bool) (hq:Inb b q) (c:UInt8) (q1:Nat×Bool) (hc:runR byteR 0 b q=(c,q1)) (ok:Bool) (hf:fOf (c.toNat:Int)=(3,ok)) :
  Ans Tryz.prog 102 [.ptr p 0] (A q) (reV (bodyS b q).1) (A (bodyS b q).2):=by
 obtain⟨hgA,hsA,gs⟩:=rd_facts A n p b hn hg hs q;have k0:=z1g (A q++[B19]) p b q (hgA _ _) hq hb;have hin1:=z0h byteR 0 b q hq
 have hbS:bodyS b q=z0N (fun q1=>clS 3 (c.toNat:Int) b (took q1 0 ok)) mayR q1:=by
  unfold bodyS;rw[hc];simp only[hf]
 rw[hc]at k0 hin1;rw[hbS];simp only at k0 hin1;rw[hsA]at k0;have k1:=z1h (A q1++[B19,.box (XC3 c (I 0) (Sx ⟨#[]⟩))]) (c.toNat:Int);rw[hf]at k1;have k2:=z0a (A q1++[B19,.box (XC3 c (I 0) (Sx ⟨#[]⟩))]) p b q1 ok (hgA _ _) hin1 hb;rw[hsA]at k2;have hin2:=z1l b q1 ok hin1;unfold z0N;simp only;generalize took q1 0 ok=q2 at k2 hin2⊢;have wc:IntKind.i64.wrap (c.toNat:Int)=(c.toNat:Int):=wrapI (by have:=c.toNat_lt;omega)
 have hcl:clS 3 (c.toNat:Int) b q2=({ x0 (c.toNat:Int) with id:=(((runR (numR 2147483647) 0 b q2).1:Nat):Int),txt:=(runR (textR 16) ⟨#[]⟩ b (runR (numR 2147483647) 0 b q2).2).1 },(runR (textR 16) ⟨#[]⟩ b (runR (numR 2147483647) 0 b q2).2).2):=rfl
 rw[hcl];simp only;have k3:=z2G (A q2++[B19,.box (XC3 c (I 0) (Sx ⟨#[]⟩))]) p b q2 2147483647 (by decide) (hgA _ _) hin2 hb
 rw[hsA]at k3;have hin3:=z0h (numR 2147483647) 0 b q2 hin2;have le0:=z2I (most:=2147483647) b q2;generalize runR (numR 2147483647) 0 b q2=w0 at k3 hin3 le0⊢;obtain⟨v0,q3⟩:=w0;simp only at k3 hin3 le0⊢;have wv0:IntKind.i64.wrap (v0:Int)=(v0:Int):=wrapI (by omega)
 have k4:=z3y (A q3++[B19,.box (XC3 c (I (v0:Nat)) (Sx ⟨#[]⟩))]) p b q3 16 (by decide) (hgA _ _) hin3 hb
 rw[hsA]at k4;have hin4:=z0h (textR 16) ⟨#[]⟩ b q3 hin3;generalize runR (textR 16) ⟨#[]⟩ b q3=w1 at k4 hin4⊢;obtain⟨v1,q4⟩:=w1;simp only at k4 hin4⊢;have hsub:Sub (.agg (XC3 c (I (v0:Nat)) (Sx v1))) (reV ({ x0 (c.toNat:Int) with id:=((v0:Nat):Int),txt:=v1 })):=.agg (.cons (.refl _) <| .cons (.refl _) <| .cons (.refl _) <| .cons (.refl _) <| .cons (.refl _) <| .cons (.refl _) <| .cons (.refl _) <| .cons (.nils 3) <| .cons (.refl _) <| .cons (.refl _) <| .cons (.refl _) <| .cons (.nils 3) <| .cons (.nils 3) <| .cons (.refl _) <| .cons (.refl _) <| .cons (.refl _) <| .cons (.nils 1) <| .cons (.nils 2) <| .cons (.refl _) <| .nil)
 have km:=(z2d (A q4++[B19,.box (XC3 c (I (v0:Nat)) (Sx v1))]) ({ x0 (c.toNat:Int) with id:=((v0:Nat):Int),txt:=v1 })).subA (.cons hsub .nil)
 have ke:=z0a (A q4++[B19,.box (XC3 c (I (v0:Nat)) (Sx v1))]) p b q4 (mayR ({ x0 (c.toNat:Int) with id:=((v0:Nat):Int),txt:=v1 })) (hgA _ _) hin4 hb
 rw[hsA]at ke;generalize mayR ({ x0 (c.toNat:Int) with id:=((v0:Nat):Int),txt:=v1 })=okm at km ke⊢
 generalize took q4 0 okm=qe at ke⊢;refine Ans.subR ?_ hsub;refine Ans.of_run' t102 (fun hbel _=>?_)
 simp -implicitDefEqProofs only[c102,r102,go_sem,hgA,hsA,gs,hn,ap4];refine CO.intro k0 ?_;simp -implicitDefEqProofs only[go_sem,bc,wc,hgA,hsA,gs,hn,ap4];refine CO.intro k1 ?_;simp -implicitDefEqProofs only[go_sem];refine CO.intro k2 ?_;simp -implicitDefEqProofs only[go_sem,bc,hgA,hsA,gs,hn,ap4];refine CO.intro k3 ?_;simp -implicitDefEqProofs only[go_sem,bc,wv0,hgA,hsA,gs,hn,ap4];refine CO.intro k4 ?_;simp -implicitDefEqProofs only[go_sem,bc,wv0,hgA,hsA,gs,hn,ap4];refine CO.intro km ?_;simp -implicitDefEqProofs only[go_sem];refine CO.intro ke ?_;simp -implicitDefEqProofs only[go_sem,hgA,hsA,gs,hn,ap4]
 have hbl:Bel (A qe).length (.agg (XC3 c (I (v0:Nat)) (Sx v1))):=.agg _ (fun i hi=>by
  have:∀y∈(XC3 c (I (v0:Nat)) (Sx v1):List AV),Bel (A qe).length y:=by
   intro y hy;simp only[List.mem_cons,List.not_mem_nil,or_false]at hy;rcases hy with rfl|rfl|rfl|rfl|rfl|rfl|rfl|rfl|rfl|rfl|rfl|rfl|rfl|rfl|rfl|rfl|rfl|rfl|rfl
   all_goals first|exact .pl _|exact .nils|exact z0q _ _|exact z0G _ _|exact z0t _ _
  exact this _ (List.getElem_mem hi))
 exact Fini.trim2 (σ':=A qe) (ex:=[_,_]) (by simp -implicitDefEqProofs only[go_sem,resA,z01,rvA,oneOf,gs]<;>rfl) rfl (Nat.le_of_eq (by simp only[hn])) hbl (fun o ho=>by
  rw[←hs q qe]at ho;rw[hn];rw[hn]at hbel
  exact z1P (o:=rob b qe) hbel (z3f _ _) o ho)
end
section
variable (A:Nat×Bool→St) (n p:Nat) (b:Byt) (hn:∀q,(A q).length=n) (hg:∀q,(A q)[p]?=some (rob b q)) (hs:∀q q',(A q).set p (rob b q')=A q') (hb:b.length≤50000)
include hn hg hs hb
set_option maxHeartbeats 8000000 in
theorem zeO (q:Nat×Bool) (hq:Inb b q) (c:UInt8) (q1:Nat×Bool) (hc:runR byteR 0 b q=(c,q1)) (ok:Bool) (hf:fOf (c.toNat:Int)=(116,ok)) :
  Ans Tryz.prog 102 [.ptr p 0] (A q) (reV (bodyS b q).1) (A (bodyS b q).2):=by
 obtain⟨hgA,hsA,gs⟩:=rd_facts A n p b hn hg hs q;have k0:=z1g (A q++[B19]) p b q (hgA _ _) hq hb;have hin1:=z0h byteR 0 b q hq
 have hbS:bodyS b q=z0N (fun q1=>clS 116 (c.toNat:Int) b (took q1 0 ok)) mayR q1:=by
  unfold bodyS;rw[hc];simp only[hf]
 rw[hc]at k0 hin1;rw[hbS];simp only at k0 hin1;rw[hsA]at k0;have k1:=z1h (A q1++[B19,.box (XC116 c (UN 0) (UN 0) .nils (Bo false) (Fl 0) (Fl 0))]) (c.toNat:Int);rw[hf]at k1;have k2:=z0a (A q1++[B19,.box (XC116 c (UN 0) (UN 0) .nils (Bo false) (Fl 0) (Fl 0))]) p b q1 ok (hgA _ _) hin1 hb;rw[hsA]at k2;have hin2:=z1l b q1 ok hin1;unfold z0N;simp only;generalize took q1 0 ok=q2 at k2 hin2⊢;have wc:IntKind.i64.wrap (c.toNat:Int)=(c.toNat:Int):=wrapI (by have:=c.toNat_lt;omega)
 have hcl:clS 116 (c.toNat:Int) b q2=(mk116 (c.toNat:Int) ((runR (numR 1099511627776) 0 b q2).1,(runR (numR 1099511627776) 0 b (runR (numR 1099511627776) 0 b q2).2).1,(runR listR [] b (runR (numR 1099511627776) 0 b (runR (numR 1099511627776) 0 b q2).2).2).1,(runR bandR (false,0,0) b (runR listR [] b (runR (numR 1099511627776) 0 b (runR (numR 1099511627776) 0 b q2).2).2).2).1),(runR bandR (false,0,0) b (runR listR [] b (runR (numR 1099511627776) 0 b (runR (numR 1099511627776) 0 b q2).2).2).2).2):=rfl;rw[hcl];simp only;have k3:=z2G (A q2++[B19,.box (XC116 c (UN 0) (UN 0) .nils (Bo false) (Fl 0) (Fl 0))]) p b q2 1099511627776 (by decide) (hgA _ _) hin2 hb
 rw[hsA]at k3;have hin3:=z0h (numR 1099511627776) 0 b q2 hin2;have le0:=z2I (most:=1099511627776) b q2;generalize runR (numR 1099511627776) 0 b q2=w0 at k3 hin3 le0⊢;obtain⟨v0,q3⟩:=w0;simp only at k3 hin3 le0⊢;have k4:=z2G (A q3++[B19,.box (XC116 c (UN 0) (UN 0) .nils (Bo false) (Fl 0) (Fl 0))]) p b q3 1099511627776 (by decide) (hgA _ _) hin3 hb
 rw[hsA]at k4;have hin4:=z0h (numR 1099511627776) 0 b q3 hin3;have le1:=z2I (most:=1099511627776) b q3;generalize runR (numR 1099511627776) 0 b q3=w1 at k4 hin4 le1⊢;obtain⟨v1,q4⟩:=w1;simp only at k4 hin4 le1⊢;have k5:=z8j (A q4++[B19,.box (XC116 c (UN v0) (UN v1) .nils (Bo false) (Fl 0) (Fl 0))]) p b q4 (hgA _ _) hin4 hb;rw[hsA]at k5;have hin5:=z0h listR [] b q4 hin4;generalize runR listR [] b q4=w2 at k5 hin5⊢;obtain⟨v2,q5⟩:=w2;simp only at k5 hin5⊢;have k6:=zd2 (A q5++[B19,.box (XC116 c (UN v0) (UN v1) (mlV v2) (Bo false) (Fl 0) (Fl 0))]) p b q5 (hgA _ _) hin5 hb;rw[hsA]at k6;have hin6:=z0h bandR (false,0,0) b q5 hin5;generalize runR bandR (false,0,0) b q5=w3 at k6 hin6⊢;obtain⟨v3,q6⟩:=w3;simp only at k6 hin6⊢;obtain⟨ba,bl,bh⟩:=v3;unfold bandV at k6;simp only at k6⊢;have hsub:Sub (.agg (XC116 c (UN v0) (UN v1) (mlV v2) (Bo ba) (Fl bl) (Fl bh))) (reV (mk116 (c.toNat:Int) (v0,v1,v2,(ba,bl,bh)))):=.agg (.cons (.refl _) <| .cons (.refl _) <| .cons (.refl _) <| .cons (.refl _) <| .cons (.refl _) <| .cons (.refl _) <| .cons (.refl _) <| .cons (.refl _) <| .cons (.refl _) <| .cons (.refl _) <| .cons (.refl _) <| .cons (.nils 3) <| .cons (.nils 3) <| .cons (.refl _) <| .cons (.refl _) <| .cons (.refl _) <| .cons (.nils 1) <| .cons (.nils 2) <| .cons (.refl _) <| .nil);have km:=(z2d (A q6++[B19,.box (XC116 c (UN v0) (UN v1) (mlV v2) (Bo ba) (Fl bl) (Fl bh))]) (mk116 (c.toNat:Int) (v0,v1,v2,(ba,bl,bh)))).subA (.cons hsub .nil)
 have ke:=z0a (A q6++[B19,.box (XC116 c (UN v0) (UN v1) (mlV v2) (Bo ba) (Fl bl) (Fl bh))]) p b q6 (mayR (mk116 (c.toNat:Int) (v0,v1,v2,(ba,bl,bh)))) (hgA _ _) hin6 hb;rw[hsA]at ke;generalize mayR (mk116 (c.toNat:Int) (v0,v1,v2,(ba,bl,bh)))=okm at km ke⊢;generalize took q6 0 okm=qe at ke⊢;refine Ans.subR ?_ hsub;refine Ans.of_run' t102 (fun hbel _=>?_)
 simp -implicitDefEqProofs only[c102,r102,go_sem,hgA,hsA,gs,hn,ap4];refine CO.intro k0 ?_;simp -implicitDefEqProofs only[go_sem,bc,wc,hgA,hsA,gs,hn,ap4];refine CO.intro k1 ?_;simp -implicitDefEqProofs only[go_sem];refine CO.intro k2 ?_;simp -implicitDefEqProofs only[go_sem,bc,hgA,hsA,gs,hn,ap4];refine CO.intro k3 ?_;simp -implicitDefEqProofs only[go_sem,bc,hgA,hsA,gs,hn,ap4];refine CO.intro k4 ?_;simp -implicitDefEqProofs only[go_sem,bc,hgA,hsA,gs,hn,ap4];refine CO.intro k5 ?_;simp -implicitDefEqProofs only[go_sem,bc,hgA,hsA,gs,hn,ap4];refine CO.intro k6 ?_;simp -implicitDefEqProofs only[go_sem,bc,hgA,hsA,gs,hn,ap4];refine CO.intro km ?_;simp -implicitDefEqProofs only[go_sem];refine CO.intro ke ?_;simp -implicitDefEqProofs only[go_sem,hgA,hsA,gs,hn,ap4]
 have hbl:Bel (A qe).length (.agg (XC116 c (UN v0) (UN v1) (mlV v2) (Bo ba) (Fl bl) (Fl bh))):=.agg _ (fun i hi=>by
  have:∀y∈(XC116 c (UN v0) (UN v1) (mlV v2) (Bo ba) (Fl bl) (Fl bh):List AV),Bel (A qe).length y:=by
   intro y hy;simp only[List.mem_cons,List.not_mem_nil,or_false]at hy;rcases hy with rfl|rfl|rfl|rfl|rfl|rfl|rfl|rfl|rfl|rfl|rfl|rfl|rfl|rfl|rfl|rfl|rfl|rfl|rfl
   all_goals first|exact .pl _|exact .nils|exact z0q _ _|exact z0G _ _|exact z0t _ _
  exact this _ (List.getElem_mem hi))
 exact Fini.trim2 (σ':=A qe) (ex:=[_,_]) (by simp -implicitDefEqProofs only[go_sem,resA,z01,rvA,oneOf,gs]<;>rfl) rfl (Nat.le_of_eq (by simp only[hn])) hbl (fun o ho=>by
  rw[←hs q qe]at ho;rw[hn];rw[hn]at hbel
  exact z1P (o:=rob b qe) hbel (z3f _ _) o ho)
set_option maxHeartbeats 8000000 in
theorem zeP (q:Nat×Bool) (hq:Inb b q) (c:UInt8) (q1:Nat×Bool) (hc:runR byteR 0 b q=(c,q1)) (ok:Bool) (hf:fOf (c.toNat:Int)=(117,ok)) :
  Ans Tryz.prog 102 [.ptr p 0] (A q) (reV (bodyS b q).1) (A (bodyS b q).2):=by
 obtain⟨hgA,hsA,gs⟩:=rd_facts A n p b hn hg hs q;have k0:=z1g (A q++[B19]) p b q (hgA _ _) hq hb;have hin1:=z0h byteR 0 b q hq
 have hbS:bodyS b q=z0N (fun q1=>clS 117 (c.toNat:Int) b (took q1 0 ok)) mayR q1:=by
  unfold bodyS;rw[hc];simp only[hf]
 rw[hc]at k0 hin1;rw[hbS];simp only at k0 hin1;rw[hsA]at k0;have k1:=z1h (A q1++[B19,.box (XC117 c (I 0) (UN 0) (UN 0) .nils (Bo false) (Fl 0) (Fl 0))]) (c.toNat:Int);rw[hf]at k1;have k2:=z0a (A q1++[B19,.box (XC117 c (I 0) (UN 0) (UN 0) .nils (Bo false) (Fl 0) (Fl 0))]) p b q1 ok (hgA _ _) hin1 hb;rw[hsA]at k2;have hin2:=z1l b q1 ok hin1;unfold z0N;simp only;generalize took q1 0 ok=q2 at k2 hin2⊢;have wc:IntKind.i64.wrap (c.toNat:Int)=(c.toNat:Int):=wrapI (by have:=c.toNat_lt;omega)
 have hcl:clS 117 (c.toNat:Int) b q2=(mk117 (c.toNat:Int) ((runR (numR 2147483647) 0 b q2).1,(runR (numR 1099511627776) 0 b (runR (numR 2147483647) 0 b q2).2).1,(runR (numR 1099511627776) 0 b (runR (numR 1099511627776) 0 b (runR (numR 2147483647) 0 b q2).2).2).1,(runR listR [] b (runR (numR 1099511627776) 0 b (runR (numR 1099511627776) 0 b (runR (numR 2147483647) 0 b q2).2).2).2).1,(runR bandR (false,0,0) b (runR listR [] b (runR (numR 1099511627776) 0 b (runR (numR 1099511627776) 0 b (runR (numR 2147483647) 0 b q2).2).2).2).2).1),(runR bandR (false,0,0) b (runR listR [] b (runR (numR 1099511627776) 0 b (runR (numR 1099511627776) 0 b (runR (numR 2147483647) 0 b q2).2).2).2).2).2):=rfl;rw[hcl];simp only;have k3:=z2G (A q2++[B19,.box (XC117 c (I 0) (UN 0) (UN 0) .nils (Bo false) (Fl 0) (Fl 0))]) p b q2 2147483647 (by decide) (hgA _ _) hin2 hb
 rw[hsA]at k3;have hin3:=z0h (numR 2147483647) 0 b q2 hin2;have le0:=z2I (most:=2147483647) b q2;generalize runR (numR 2147483647) 0 b q2=w0 at k3 hin3 le0⊢;obtain⟨v0,q3⟩:=w0;simp only at k3 hin3 le0⊢;have wv0:IntKind.i64.wrap (v0:Int)=(v0:Int):=wrapI (by omega)
 have k4:=z2G (A q3++[B19,.box (XC117 c (I (v0:Nat)) (UN 0) (UN 0) .nils (Bo false) (Fl 0) (Fl 0))]) p b q3 1099511627776 (by decide) (hgA _ _) hin3 hb
 rw[hsA]at k4;have hin4:=z0h (numR 1099511627776) 0 b q3 hin3;have le1:=z2I (most:=1099511627776) b q3;generalize runR (numR 1099511627776) 0 b q3=w1 at k4 hin4 le1⊢;obtain⟨v1,q4⟩:=w1;simp only at k4 hin4 le1⊢;have k5:=z2G (A q4++[B19,.box (XC117 c (I (v0:Nat)) (UN 0) (UN 0) .nils (Bo false) (Fl 0) (Fl 0))]) p b q4 1099511627776 (by decide) (hgA _ _) hin4 hb
 rw[hsA]at k5;have hin5:=z0h (numR 1099511627776) 0 b q4 hin4;have le2:=z2I (most:=1099511627776) b q4;generalize runR (numR 1099511627776) 0 b q4=w2 at k5 hin5 le2⊢;obtain⟨v2,q5⟩:=w2;simp only at k5 hin5 le2⊢;have k6:=z8j (A q5++[B19,.box (XC117 c (I (v0:Nat)) (UN v1) (UN v2) .nils (Bo false) (Fl 0) (Fl 0))]) p b q5 (hgA _ _) hin5 hb;rw[hsA]at k6;have hin6:=z0h listR [] b q5 hin5;generalize runR listR [] b q5=w3 at k6 hin6⊢;obtain⟨v3,q6⟩:=w3;simp only at k6 hin6⊢;have k7:=zd2 (A q6++[B19,.box (XC117 c (I (v0:Nat)) (UN v1) (UN v2) (mlV v3) (Bo false) (Fl 0) (Fl 0))]) p b q6 (hgA _ _) hin6 hb;rw[hsA]at k7;have hin7:=z0h bandR (false,0,0) b q6 hin6;generalize runR bandR (false,0,0) b q6=w4 at k7 hin7⊢;obtain⟨v4,q7⟩:=w4;simp only at k7 hin7⊢;obtain⟨ba,bl,bh⟩:=v4;unfold bandV at k7;simp only at k7⊢;have hsub:Sub (.agg (XC117 c (I (v0:Nat)) (UN v1) (UN v2) (mlV v3) (Bo ba) (Fl bl) (Fl bh))) (reV (mk117 (c.toNat:Int) (v0,v1,v2,v3,(ba,bl,bh)))):=.agg (.cons (.refl _) <| .cons (.refl _) <| .cons (.refl _) <| .cons (.refl _) <| .cons (.refl _) <| .cons (.refl _) <| .cons (.refl _) <| .cons (.refl _) <| .cons (.refl _) <| .cons (.refl _) <| .cons (.refl _) <| .cons (.nils 3) <| .cons (.nils 3) <| .cons (.refl _) <| .cons (.refl _) <| .cons (.refl _) <| .cons (.nils 1) <| .cons (.nils 2) <| .cons (.refl _) <| .nil);have km:=(z2d (A q7++[B19,.box (XC117 c (I (v0:Nat)) (UN v1) (UN v2) (mlV v3) (Bo ba) (Fl bl) (Fl bh))]) (mk117 (c.toNat:Int) (v0,v1,v2,v3,(ba,bl,bh)))).subA (.cons hsub .nil)
 have ke:=z0a (A q7++[B19,.box (XC117 c (I (v0:Nat)) (UN v1) (UN v2) (mlV v3) (Bo ba) (Fl bl) (Fl bh))]) p b q7 (mayR (mk117 (c.toNat:Int) (v0,v1,v2,v3,(ba,bl,bh)))) (hgA _ _) hin7 hb;rw[hsA]at ke;generalize mayR (mk117 (c.toNat:Int) (v0,v1,v2,v3,(ba,bl,bh)))=okm at km ke⊢;generalize took q7 0 okm=qe at ke⊢;refine Ans.subR ?_ hsub;refine Ans.of_run' t102 (fun hbel _=>?_)
 simp -implicitDefEqProofs only[c102,r102,go_sem,hgA,hsA,gs,hn,ap4];refine CO.intro k0 ?_;simp -implicitDefEqProofs only[go_sem,bc,wc,hgA,hsA,gs,hn,ap4];refine CO.intro k1 ?_;simp -implicitDefEqProofs only[go_sem];refine CO.intro k2 ?_;simp -implicitDefEqProofs only[go_sem,bc,hgA,hsA,gs,hn,ap4];refine CO.intro k3 ?_;simp -implicitDefEqProofs only[go_sem,bc,wv0,hgA,hsA,gs,hn,ap4];refine CO.intro k4 ?_;simp -implicitDefEqProofs only[go_sem,bc,wv0,hgA,hsA,gs,hn,ap4];refine CO.intro k5 ?_;simp -implicitDefEqProofs only[go_sem,bc,wv0,hgA,hsA,gs,hn,ap4];refine CO.intro k6 ?_;simp -implicitDefEqProofs only[go_sem,bc,wv0,hgA,hsA,gs,hn,ap4];refine CO.intro k7 ?_;simp -implicitDefEqProofs only[go_sem,bc,wv0,hgA,hsA,gs,hn,ap4];refine CO.intro km ?_;simp -implicitDefEqProofs only[go_sem];refine CO.intro ke ?_;simp -implicitDefEqProofs only[go_sem,hgA,hsA,gs,hn,ap4]
 have hbl:Bel (A qe).length (.agg (XC117 c (I (v0:Nat)) (UN v1) (UN v2) (mlV v3) (Bo ba) (Fl bl) (Fl bh))):=.agg _ (fun i hi=>by
  have:∀y∈(XC117 c (I (v0:Nat)) (UN v1) (UN v2) (mlV v3) (Bo ba) (Fl bl) (Fl bh):List AV),Bel (A qe).length y:=by
   intro y hy;simp only[List.mem_cons,List.not_mem_nil,or_false]at hy;rcases hy with rfl|rfl|rfl|rfl|rfl|rfl|rfl|rfl|rfl|rfl|rfl|rfl|rfl|rfl|rfl|rfl|rfl|rfl|rfl
   all_goals first|exact .pl _|exact .nils|exact z0q _ _|exact z0G _ _|exact z0t _ _
  exact this _ (List.getElem_mem hi))
 exact Fini.trim2 (σ':=A qe) (ex:=[_,_]) (by simp -implicitDefEqProofs only[go_sem,resA,z01,rvA,oneOf,gs]<;>rfl) rfl (Nat.le_of_eq (by simp only[hn])) hbl (fun o ho=>by
  rw[←hs q qe]at ho;rw[hn];rw[hn]at hbel
  exact z1P (o:=rob b qe) hbel (z3f _ _) o ho)
end
section
variable (A:Nat×Bool→St) (n p:Nat) (b:Byt) (hn:∀q,(A q).length=n) (hg:∀q,(A q)[p]?=some (rob b q)) (hs:∀q q',(A q).set p (rob b q')=A q') (hb:b.length≤50000)
include hn hg hs hb
set_option maxHeartbeats 8000000 in
theorem zhJ (q:Nat×Bool) (hq:Inb b q) (c:UInt8) (q1:Nat×Bool) (hc:runR byteR 0 b q=(c,q1)) (ok:Bool) (hf:fOf (c.toNat:Int)=(8,ok)) :
  Ans Tryz.prog 102 [.ptr p 0] (A q) (reV (bodyS b q).1) (A (bodyS b q).2):=by
 obtain⟨hgA,hsA,gs⟩:=rd_facts A n p b hn hg hs q;have k0:=z1g (A q++[B19]) p b q (hgA _ _) hq hb;have hin1:=z0h byteR 0 b q hq
 have hbS:bodyS b q=z0N (fun q1=>clS 8 (c.toNat:Int) b (took q1 0 ok)) mayR q1:=by
  unfold bodyS;rw[hc];simp only[hf]
 rw[hc]at k0 hin1;rw[hbS];simp only at k0 hin1;rw[hsA]at k0;have k1:=z1h (A q1++[B19,.box (XC8 c (I 0))]) (c.toNat:Int);rw[hf]at k1;have k2:=z0a (A q1++[B19,.box (XC8 c (I 0))]) p b q1 ok (hgA _ _) hin1 hb;rw[hsA]at k2;have hin2:=z1l b q1 ok hin1;unfold z0N;simp only;generalize took q1 0 ok=q2 at k2 hin2⊢;have wc:IntKind.i64.wrap (c.toNat:Int)=(c.toNat:Int):=wrapI (by have:=c.toNat_lt;omega)
 have hcl:clS 8 (c.toNat:Int) b q2=({ x0 (c.toNat:Int) with sta:=((((runR byteR 0 b q2).1).toNat:Nat):Int) },(runR byteR 0 b q2).2):=rfl
 rw[hcl];simp only;have k3:=z1g (A q2++[B19,.box (XC8 c (I 0))]) p b q2 (hgA _ _) hin2 hb;rw[hsA]at k3;have hin3:=z0h byteR 0 b q2 hin2;generalize runR byteR 0 b q2=w0 at k3 hin3⊢;obtain⟨v0,q3⟩:=w0;simp only at k3 hin3⊢;have wv0:IntKind.i64.wrap (v0.toNat:Int)=(v0.toNat:Int):=wrapI (by have:=v0.toNat_lt;omega)
 have hsub:Sub (.agg (XC8 c (I (v0.toNat:Nat)))) (reV ({ x0 (c.toNat:Int) with sta:=(((v0).toNat:Nat):Int) })):=.agg (.cons (.refl _) <| .cons (.refl _) <| .cons (.refl _) <| .cons (.refl _) <| .cons (.refl _) <| .cons (.refl _) <| .cons (.refl _) <| .cons (.nils 3) <| .cons (.refl _) <| .cons (.refl _) <| .cons (.refl _) <| .cons (.nils 3) <| .cons (.nils 3) <| .cons (.refl _) <| .cons (.refl _) <| .cons (.refl _) <| .cons (.nils 1) <| .cons (.nils 2) <| .cons (.refl _) <| .nil)
 have km:=(z2d (A q3++[B19,.box (XC8 c (I (v0.toNat:Nat)))]) ({ x0 (c.toNat:Int) with sta:=(((v0).toNat:Nat):Int) })).subA (.cons hsub .nil)
 have ke:=z0a (A q3++[B19,.box (XC8 c (I (v0.toNat:Nat)))]) p b q3 (mayR ({ x0 (c.toNat:Int) with sta:=(((v0).toNat:Nat):Int) })) (hgA _ _) hin3 hb
 rw[hsA]at ke;generalize mayR ({ x0 (c.toNat:Int) with sta:=(((v0).toNat:Nat):Int) })=okm at km ke⊢
 generalize took q3 0 okm=qe at ke⊢;refine Ans.subR ?_ hsub;refine Ans.of_run' t102 (fun hbel _=>?_)
 simp -implicitDefEqProofs only[c102,r102,go_sem,hgA,hsA,gs,hn,ap4];refine CO.intro k0 ?_;simp -implicitDefEqProofs only[go_sem,bc,wc,hgA,hsA,gs,hn,ap4];refine CO.intro k1 ?_;simp -implicitDefEqProofs only[go_sem];refine CO.intro k2 ?_;simp -implicitDefEqProofs only[go_sem,bc,hgA,hsA,gs,hn,ap4];refine CO.intro k3 ?_;simp -implicitDefEqProofs only[go_sem,bc,wv0,hgA,hsA,gs,hn,ap4];refine CO.intro km ?_;simp -implicitDefEqProofs only[go_sem];refine CO.intro ke ?_;simp -implicitDefEqProofs only[go_sem,hgA,hsA,gs,hn,ap4]
 have hbl:Bel (A qe).length (.agg (XC8 c (I (v0.toNat:Nat)))):=.agg _ (fun i hi=>by
  have:∀y∈(XC8 c (I (v0.toNat:Nat)):List AV),Bel (A qe).length y:=by
   intro y hy;simp only[List.mem_cons,List.not_mem_nil,or_false]at hy;rcases hy with rfl|rfl|rfl|rfl|rfl|rfl|rfl|rfl|rfl|rfl|rfl|rfl|rfl|rfl|rfl|rfl|rfl|rfl|rfl
   all_goals first|exact .pl _|exact .nils|exact z0q _ _|exact z0G _ _|exact z0t _ _
  exact this _ (List.getElem_mem hi))
 exact Fini.trim2 (σ':=A qe) (ex:=[_,_]) (by simp -implicitDefEqProofs only[go_sem,resA,z01,rvA,oneOf,gs]<;>rfl) rfl (Nat.le_of_eq (by simp only[hn])) hbl (fun o ho=>by
  rw[←hs q qe]at ho;rw[hn];rw[hn]at hbel
  exact z1P (o:=rob b qe) hbel (z3f _ _) o ho)
set_option maxHeartbeats 8000000 in
theorem zeQ (q:Nat×Bool) (hq:Inb b q) (c:UInt8) (q1:Nat×Bool) (hc:runR byteR 0 b q=(c,q1)) (ok:Bool) (hf:fOf (c.toNat:Int)=(128,ok)) :
  Ans Tryz.prog 102 [.ptr p 0] (A q) (reV (bodyS b q).1) (A (bodyS b q).2):=by
 obtain⟨hgA,hsA,gs⟩:=rd_facts A n p b hn hg hs q;have k0:=z1g (A q++[B19]) p b q (hgA _ _) hq hb;have hin1:=z0h byteR 0 b q hq
 have hbS:bodyS b q=z0N (fun q1=>clS 128 (c.toNat:Int) b (took q1 0 ok)) mayR q1:=by
  unfold bodyS;rw[hc];simp only[hf]
 rw[hc]at k0 hin1;rw[hbS];simp only at k0 hin1;rw[hsA]at k0;have k1:=z1h (A q1++[B19,.box (XC128 c .nils .nils (Bo false) (Fl 0) (Fl 0) .nils)]) (c.toNat:Int);rw[hf]at k1;have k2:=z0a (A q1++[B19,.box (XC128 c .nils .nils (Bo false) (Fl 0) (Fl 0) .nils)]) p b q1 ok (hgA _ _) hin1 hb;rw[hsA]at k2;have hin2:=z1l b q1 ok hin1;unfold z0N;simp only;generalize took q1 0 ok=q2 at k2 hin2⊢;have wc:IntKind.i64.wrap (c.toNat:Int)=(c.toNat:Int):=wrapI (by have:=c.toNat_lt;omega)
 have hcl:clS 128 (c.toNat:Int) b q2=({ x0 (c.toNat:Int) with ru:=(runR ruR noRu b q2).1 },(runR ruR noRu b q2).2):=rfl
 rw[hcl];simp only;have k3:=zhw (A q2++[B19,.box (XC128 c .nils .nils (Bo false) (Fl 0) (Fl 0) .nils)]) p b q2 (hgA _ _) hin2 hb;rw[hsA]at k3;have hin3:=z0h ruR noRu b q2 hin2;generalize runR ruR noRu b q2=w0 at k3 hin3⊢;obtain⟨v0,q3⟩:=w0;simp only at k3 hin3⊢;obtain⟨rs,rt,ra,rl,rh,re⟩:=v0;unfold ruV at k3;simp only at k3⊢;have hsub:Sub (.agg (XC128 c (mlV rs) (mlV rt) (Bo ra) (Fl rl) (Fl rh) (.sl 1 (txs re)))) (reV ({ x0 (c.toNat:Int) with ru:=⟨rs,rt,ra,rl,rh,re⟩ })):=.agg (.cons (.refl _) <| .cons (.refl _) <| .cons (.refl _) <| .cons (.refl _) <| .cons (.refl _) <| .cons (.refl _) <| .cons (.refl _) <| .cons (.nils 3) <| .cons (.refl _) <| .cons (.refl _) <| .cons (.refl _) <| .cons (.refl _) <| .cons (.refl _) <| .cons (.refl _) <| .cons (.refl _) <| .cons (.refl _) <| .cons (.refl _) <| .cons (.nils 2) <| .cons (.refl _) <| .nil)
 have km:=(z2d (A q3++[B19,.box (XC128 c (mlV rs) (mlV rt) (Bo ra) (Fl rl) (Fl rh) (.sl 1 (txs re)))]) ({ x0 (c.toNat:Int) with ru:=⟨rs,rt,ra,rl,rh,re⟩ })).subA (.cons hsub .nil)
 have ke:=z0a (A q3++[B19,.box (XC128 c (mlV rs) (mlV rt) (Bo ra) (Fl rl) (Fl rh) (.sl 1 (txs re)))]) p b q3 (mayR ({ x0 (c.toNat:Int) with ru:=⟨rs,rt,ra,rl,rh,re⟩ })) (hgA _ _) hin3 hb
 rw[hsA]at ke;generalize mayR ({ x0 (c.toNat:Int) with ru:=⟨rs,rt,ra,rl,rh,re⟩ })=okm at km ke⊢
 generalize took q3 0 okm=qe at ke⊢;refine Ans.subR ?_ hsub;refine Ans.of_run' t102 (fun hbel _=>?_)
 simp -implicitDefEqProofs only[c102,r102,go_sem,hgA,hsA,gs,hn,ap4];refine CO.intro k0 ?_;simp -implicitDefEqProofs only[go_sem,bc,wc,hgA,hsA,gs,hn,ap4];refine CO.intro k1 ?_;simp -implicitDefEqProofs only[go_sem];refine CO.intro k2 ?_;simp -implicitDefEqProofs only[go_sem,bc,hgA,hsA,gs,hn,ap4];refine CO.intro k3 ?_;simp -implicitDefEqProofs only[go_sem,bc,hgA,hsA,gs,hn,ap4];refine CO.intro km ?_;simp -implicitDefEqProofs only[go_sem];refine CO.intro ke ?_;simp -implicitDefEqProofs only[go_sem,hgA,hsA,gs,hn,ap4]
 have hbl:Bel (A qe).length (.agg (XC128 c (mlV rs) (mlV rt) (Bo ra) (Fl rl) (Fl rh) (.sl 1 (txs re)))):=.agg _ (fun i hi=>by
  have:∀y∈(XC128 c (mlV rs) (mlV rt) (Bo ra) (Fl rl) (Fl rh) (.sl 1 (txs re)):List AV),Bel (A qe).length y:=by
   intro y hy;simp only[List.mem_cons,List.not_mem_nil,or_false]at hy;rcases hy with rfl|rfl|rfl|rfl|rfl|rfl|rfl|rfl|rfl|rfl|rfl|rfl|rfl|rfl|rfl|rfl|rfl|rfl|rfl
   all_goals first|exact .pl _|exact .nils|exact z0q _ _|exact z0G _ _|exact z0t _ _
  exact this _ (List.getElem_mem hi))
 exact Fini.trim2 (σ':=A qe) (ex:=[_,_]) (by simp -implicitDefEqProofs only[go_sem,resA,z01,rvA,oneOf,gs]<;>rfl) rfl (Nat.le_of_eq (by simp only[hn])) hbl (fun o ho=>by
  rw[←hs q qe]at ho;rw[hn];rw[hn]at hbel
  exact z1P (o:=rob b qe) hbel (z3f _ _) o ho)
end
section
variable (A:Nat×Bool→St) (n p:Nat) (b:Byt) (hn:∀q,(A q).length=n) (hg:∀q,(A q)[p]?=some (rob b q)) (hs:∀q q',(A q).set p (rob b q')=A q') (hb:b.length≤50000)
include hn hg hs hb
set_option maxHeartbeats 8000000 in
theorem zeR (q:Nat×Bool) (hq:Inb b q) (c:UInt8) (q1:Nat×Bool) (hc:runR byteR 0 b q=(c,q1)) (ok:Bool) (hf:fOf (c.toNat:Int)=(768,ok)) :
  Ans Tryz.prog 102 [.ptr p 0] (A q) (reV (bodyS b q).1) (A (bodyS b q).2):=by
 obtain⟨hgA,hsA,gs⟩:=rd_facts A n p b hn hg hs q;have k0:=z1g (A q++[B19]) p b q (hgA _ _) hq hb;have hin1:=z0h byteR 0 b q hq
 have hbS:bodyS b q=z0N (fun q1=>clS 768 (c.toNat:Int) b (took q1 0 ok)) mayR q1:=by
  unfold bodyS;rw[hc];simp only[hf]
 rw[hc]at k0 hin1;rw[hbS];simp only at k0 hin1;rw[hsA]at k0;have k1:=z1h (A q1++[B19,.box (XC768 c .nils (Fl 0))]) (c.toNat:Int);rw[hf]at k1;have k2:=z0a (A q1++[B19,.box (XC768 c .nils (Fl 0))]) p b q1 ok (hgA _ _) hin1 hb;rw[hsA]at k2;have hin2:=z1l b q1 ok hin1;unfold z0N;simp only;generalize took q1 0 ok=q2 at k2 hin2⊢;have wc:IntKind.i64.wrap (c.toNat:Int)=(c.toNat:Int):=wrapI (by have:=c.toNat_lt;omega)
 have hcl:clS 768 (c.toNat:Int) b q2=({ x0 (c.toNat:Int) with ls:=(runR setR [] b q2).1,val:=(valS b (runR setR [] b q2).2).1 },(valS b (runR setR [] b q2).2).2):=rfl
 rw[hcl];simp only;have k3:=zhv (A q2++[B19,.box (XC768 c .nils (Fl 0))]) p b q2 (hgA _ _) hin2 hb;rw[hsA]at k3;have hin3:=z0h setR [] b q2 hin2;generalize runR setR [] b q2=w0 at k3 hin3⊢;obtain⟨v0,q3⟩:=w0;simp only at k3 hin3⊢;have k4:=zaq (A q3++[B19,.box (XC768 c (lsV v0) (Fl 0))]) p b q3 (hgA _ _) hin3 hb;rw[hsA]at k4;have hin4:=z0h wordR 0 b q3 hin3;unfold valS;generalize runR wordR 0 b q3=w1 at k4 hin4⊢;obtain⟨v1,qw⟩:=w1;simp only at k4 hin4⊢;have kv:=zfy (A qw++[B19,.box (XC768 c (lsV v0) (Fl 0))]) v1;have kr:=z0a (A qw++[B19,.box (XC768 c (lsV v0) (Fl 0))]) p b qw (okV v1) (hgA _ _) hin4 hb;rw[hsA]at kr;have hinv:=z1l b qw (okV v1) hin4;generalize (if okV v1=true then v1 else 0)=fv at kv⊢
 generalize okV v1=okv at kv kr hinv⊢;generalize took qw 0 okv=q4 at kr hinv⊢;clear hin4;have hin4:=hinv;have hsub:Sub (.agg (XC768 c (lsV v0) (Fl fv))) (reV ({ x0 (c.toNat:Int) with ls:=v0,val:=fv })):=.agg (.cons (.refl _) <| .cons (.refl _) <| .cons (.refl _) <| .cons (.refl _) <| .cons (.refl _) <| .cons (.refl _) <| .cons (.refl _) <| .cons (.nils 3) <| .cons (.refl _) <| .cons (.refl _) <| .cons (.refl _) <| .cons (.nils 3) <| .cons (.nils 3) <| .cons (.refl _) <| .cons (.refl _) <| .cons (.refl _) <| .cons (.nils 1) <| .cons (.refl _) <| .cons (.refl _) <| .nil)
 have km:=(z2d (A q4++[B19,.box (XC768 c (lsV v0) (Fl fv))]) ({ x0 (c.toNat:Int) with ls:=v0,val:=fv })).subA (.cons hsub .nil)
 have ke:=z0a (A q4++[B19,.box (XC768 c (lsV v0) (Fl fv))]) p b q4 (mayR ({ x0 (c.toNat:Int) with ls:=v0,val:=fv })) (hgA _ _) hin4 hb
 rw[hsA]at ke;generalize mayR ({ x0 (c.toNat:Int) with ls:=v0,val:=fv })=okm at km ke⊢
 generalize took q4 0 okm=qe at ke⊢;refine Ans.subR ?_ hsub;refine Ans.of_run' t102 (fun hbel _=>?_)
 simp -implicitDefEqProofs only[c102,r102,go_sem,hgA,hsA,gs,hn,ap4];refine CO.intro k0 ?_;simp -implicitDefEqProofs only[go_sem,bc,wc,hgA,hsA,gs,hn,ap4];refine CO.intro k1 ?_;simp -implicitDefEqProofs only[go_sem];refine CO.intro k2 ?_;simp -implicitDefEqProofs only[go_sem,bc,hgA,hsA,gs,hn,ap4];refine CO.intro k3 ?_;simp -implicitDefEqProofs only[go_sem,bc,hgA,hsA,gs,hn,ap4];refine CO.intro k4 ?_;simp -implicitDefEqProofs only[go_sem];refine CO.intro kv ?_;simp -implicitDefEqProofs only[go_sem];refine CO.intro kr ?_;simp -implicitDefEqProofs only[go_sem,bc,hgA,hsA,gs,hn,ap4];refine CO.intro km ?_;simp -implicitDefEqProofs only[go_sem];refine CO.intro ke ?_;simp -implicitDefEqProofs only[go_sem,hgA,hsA,gs,hn,ap4]
 have hbl:Bel (A qe).length (.agg (XC768 c (lsV v0) (Fl fv))):=.agg _ (fun i hi=>by
  have:∀y∈(XC768 c (lsV v0) (Fl fv):List AV),Bel (A qe).length y:=by
   intro y hy;simp only[List.mem_cons,List.not_mem_nil,or_false]at hy;rcases hy with rfl|rfl|rfl|rfl|rfl|rfl|rfl|rfl|rfl|rfl|rfl|rfl|rfl|rfl|rfl|rfl|rfl|rfl|rfl
   all_goals first|exact .pl _|exact .nils|exact z0q _ _|exact z0G _ _|exact z0t _ _
  exact this _ (List.getElem_mem hi))
 exact Fini.trim2 (σ':=A qe) (ex:=[_,_]) (by simp -implicitDefEqProofs only[go_sem,resA,z01,rvA,oneOf,gs]<;>rfl) rfl (Nat.le_of_eq (by simp only[hn])) hbl (fun o ho=>by
  rw[←hs q qe]at ho;rw[hn];rw[hn]at hbel
  exact z1P (o:=rob b qe) hbel (z3f _ _) o ho)
set_option maxHeartbeats 8000000 in
theorem zgD (q:Nat×Bool) (hq:Inb b q) (c:UInt8) (q1:Nat×Bool) (hc:runR byteR 0 b q=(c,q1)) (ok:Bool) (hf:fOf (c.toNat:Int)=(16,ok)) :
  Ans Tryz.prog 102 [.ptr p 0] (A q) (reV (bodyS b q).1) (A (bodyS b q).2):=by
 obtain⟨hgA,hsA,gs⟩:=rd_facts A n p b hn hg hs q;have k0:=z1g (A q++[B19]) p b q (hgA _ _) hq hb;have hin1:=z0h byteR 0 b q hq
 have hbS:bodyS b q=z0N (fun q1=>clS 16 (c.toNat:Int) b (took q1 0 ok)) mayR q1:=by
  unfold bodyS;rw[hc];simp only[hf]
 rw[hc]at k0 hin1;rw[hbS];simp only at k0 hin1;rw[hsA]at k0;have k1:=z1h (A q1++[B19,.box (XC16 c .nils)]) (c.toNat:Int);rw[hf]at k1;have k2:=z0a (A q1++[B19,.box (XC16 c .nils)]) p b q1 ok (hgA _ _) hin1 hb;rw[hsA]at k2;have hin2:=z1l b q1 ok hin1;unfold z0N;simp only;generalize took q1 0 ok=q2 at k2 hin2⊢;have wc:IntKind.i64.wrap (c.toNat:Int)=(c.toNat:Int):=wrapI (by have:=c.toNat_lt;omega)
 have hcl:clS 16 (c.toNat:Int) b q2=({ x0 (c.toNat:Int) with mt:=(runR listR [] b q2).1 },(runR listR [] b q2).2):=rfl
 rw[hcl];simp only;have k3:=z8j (A q2++[B19,.box (XC16 c .nils)]) p b q2 (hgA _ _) hin2 hb;rw[hsA]at k3;have hin3:=z0h listR [] b q2 hin2;generalize runR listR [] b q2=w0 at k3 hin3⊢;obtain⟨v0,q3⟩:=w0;simp only at k3 hin3⊢;have hsub:Sub (.agg (XC16 c (mlV v0))) (reV ({ x0 (c.toNat:Int) with mt:=v0 })):=.agg (.cons (.refl _) <| .cons (.refl _) <| .cons (.refl _) <| .cons (.refl _) <| .cons (.refl _) <| .cons (.refl _) <| .cons (.refl _) <| .cons (.refl _) <| .cons (.refl _) <| .cons (.refl _) <| .cons (.refl _) <| .cons (.nils 3) <| .cons (.nils 3) <| .cons (.refl _) <| .cons (.refl _) <| .cons (.refl _) <| .cons (.nils 1) <| .cons (.nils 2) <| .cons (.refl _) <| .nil)
 have km:=(z2d (A q3++[B19,.box (XC16 c (mlV v0))]) ({ x0 (c.toNat:Int) with mt:=v0 })).subA (.cons hsub .nil)
 have ke:=z0a (A q3++[B19,.box (XC16 c (mlV v0))]) p b q3 (mayR ({ x0 (c.toNat:Int) with mt:=v0 })) (hgA _ _) hin3 hb
 rw[hsA]at ke;generalize mayR ({ x0 (c.toNat:Int) with mt:=v0 })=okm at km ke⊢
 generalize took q3 0 okm=qe at ke⊢;refine Ans.subR ?_ hsub;refine Ans.of_run' t102 (fun hbel _=>?_)
 simp -implicitDefEqProofs only[c102,r102,go_sem,hgA,hsA,gs,hn,ap4];refine CO.intro k0 ?_;simp -implicitDefEqProofs only[go_sem,bc,wc,hgA,hsA,gs,hn,ap4];refine CO.intro k1 ?_;simp -implicitDefEqProofs only[go_sem];refine CO.intro k2 ?_;simp -implicitDefEqProofs only[go_sem,bc,hgA,hsA,gs,hn,ap4];refine CO.intro k3 ?_;simp -implicitDefEqProofs only[go_sem,bc,hgA,hsA,gs,hn,ap4];refine CO.intro km ?_;simp -implicitDefEqProofs only[go_sem];refine CO.intro ke ?_;simp -implicitDefEqProofs only[go_sem,hgA,hsA,gs,hn,ap4]
 have hbl:Bel (A qe).length (.agg (XC16 c (mlV v0))):=.agg _ (fun i hi=>by
  have:∀y∈(XC16 c (mlV v0):List AV),Bel (A qe).length y:=by
   intro y hy;simp only[List.mem_cons,List.not_mem_nil,or_false]at hy;rcases hy with rfl|rfl|rfl|rfl|rfl|rfl|rfl|rfl|rfl|rfl|rfl|rfl|rfl|rfl|rfl|rfl|rfl|rfl|rfl
   all_goals first|exact .pl _|exact .nils|exact z0q _ _|exact z0G _ _|exact z0t _ _
  exact this _ (List.getElem_mem hi))
 exact Fini.trim2 (σ':=A qe) (ex:=[_,_]) (by simp -implicitDefEqProofs only[go_sem,resA,z01,rvA,oneOf,gs]<;>rfl) rfl (Nat.le_of_eq (by simp only[hn])) hbl (fun o ho=>by
  rw[←hs q qe]at ho;rw[hn];rw[hn]at hbel
  exact z1P (o:=rob b qe) hbel (z3f _ _) o ho)
end
end Go.Proofs.YteakobbdgehlgaaGreatDoor
