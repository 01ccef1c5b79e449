/- Which fields a request has not are zero, those that it has are right, at some of the field sets. Printed by a program. No condition. -/
import Derived.Test.YtmkmhhjkdaklbaaGreatRq2au
import Derived.Test.YtmkmhhjkdaklbaaGreatProg
import Derived.Test.YtmkmhhjkdaklbaaGreatAbStepu
import Derived.Test.YtmkmhhjkdaklbaaGreatXRu8u
set_option linter.unusedSimpArgs false
set_option linter.unusedVariables false
set_option linter.unusedSectionVars false
namespace Go.Proofs.YtmkmhhjkdaklbaaGreat
open Go Go.Ab Go.Cod
set_option maxRecDepth 100000
section
variable (σ:St)
set_option maxHeartbeats 4000000 in
theorem zff (r:ReM):Ans Tryz.prog 125 [reV r,I 116] σ (Bo (zeroB r 116)) σ:=by
 obtain⟨tok,op,id,txt,st,en,sta,mt,any,lo,hi,⟨src,tgt,ra,rl,rh,eq⟩,ls,val⟩:=r;have b1:=z1u σ (any,lo,hi);have b2:=z1J σ ⟨src,tgt,ra,rl,rh,eq⟩;have b3:=z1l σ val;unfold bandV at b1;unfold ruV at b2;refine Ans.of_run t125 ?_;unfold reV reC zeroB;simp only[z78,Bool.true_or,Bool.false_or,Bool.true_and];unfold emS;unfold emI
 cases h0:(id==0) with
 |false =>
  simp -implicitDefEqProofs only[c125,r125,go_sem,h0];exact Fini.ret rfl
 |true =>
 cases h1:(txt.toList==(⟨#[]⟩:ByteArray).toList) with
 |false =>
  simp -implicitDefEqProofs only[c125,r125,go_sem,h0,h1];exact Fini.ret rfl
 |true =>
 cases h2:(sta==0) with
 |false =>
  simp -implicitDefEqProofs only[c125,r125,go_sem,h0,h1,h2];exact Fini.ret rfl
 |true =>
 simp -implicitDefEqProofs only[c125,r125,go_sem,h0,h1,h2];refine CO.intro b2 ?_
 cases h3:noRl ⟨src,tgt,ra,rl,rh,eq⟩ with
 |false =>
  simp -implicitDefEqProofs only[go_sem];exact Fini.ret rfl
 |true =>
 cases h4:(((ls.length:Nat):Int)==0) with
 |false =>
  simp -implicitDefEqProofs only[go_sem,h4];exact Fini.ret rfl
 |true =>
 simp -implicitDefEqProofs only[go_sem,h4];refine CO.intro b3 ?_
 cases h5:zF val with
 |false =>
  simp -implicitDefEqProofs only[go_sem];exact Fini.ret rfl
 |true =>
 simp -implicitDefEqProofs only[go_sem];exact Fini.ret rfl
set_option maxHeartbeats 4000000 in
theorem zds (r:ReM):Ans Tryz.prog 126 [reV r,I 116] σ (Bo (z0c r 116)) σ:=by
 obtain⟨tok,op,id,txt,st,en,sta,mt,any,lo,hi,⟨src,tgt,ra,rl,rh,eq⟩,ls,val⟩:=r;have b0:=z2L σ txt;have b1:=z1y σ mt;have b2:=z2f σ any lo hi;have b3:=z27 σ ⟨src,tgt,ra,rl,rh,eq⟩;have b4:=z28 σ ls;unfold ruV at b3;refine Ans.of_run t126 ?_;unfold reV reC z0c idR staR clkB;simp only[z78,Bool.not_true,Bool.not_false,Bool.true_or,Bool.false_or,Bool.true_and,Bool.and_assoc]
 cases h0:decide (0≤id) with
 |false =>
  simp -implicitDefEqProofs only[c126,r126,go_sem,h0];exact Fini.ret rfl
 |true =>
 cases h1:decide (id≤2147483647) with
 |false =>
  simp -implicitDefEqProofs only[c126,r126,go_sem,h0,h1];exact Fini.ret rfl
 |true =>
 cases h2:decide (((st:Nat):Int)≤1099511627776) with
 |false =>
  simp -implicitDefEqProofs only[c126,r126,go_sem,h0,h1,h2];exact Fini.ret rfl
 |true =>
 cases h3:decide (((en:Nat):Int)≤1099511627776) with
 |false =>
  simp -implicitDefEqProofs only[c126,r126,go_sem,h0,h1,h2,h3];exact Fini.ret rfl
 |true =>
 cases h4:decide (0≤sta) with
 |false =>
  simp -implicitDefEqProofs only[c126,r126,go_sem,h0,h1,h2,h3,h4];exact Fini.ret rfl
 |true =>
 cases h5:decide (sta≤3) with
 |false =>
  simp -implicitDefEqProofs only[c126,r126,go_sem,h0,h1,h2,h3,h4,h5];exact Fini.ret rfl
 |true =>
 simp -implicitDefEqProofs only[c126,r126,go_sem,h0,h1,h2,h3,h4,h5];refine CO.intro b1 ?_
 cases h6:listB mt with
 |false =>
  simp -implicitDefEqProofs only[go_sem,];exact Fini.ret rfl
 |true =>
 have hl:=z5e mt.length
 cases h7:(!emI mt.length) with
 |false =>
  rw[h7]at hl;simp -implicitDefEqProofs only[go_sem,hl];exact Fini.ret rfl
 |true =>
 rw[h7]at hl;simp -implicitDefEqProofs only[go_sem,hl];refine CO.intro b2 ?_
 cases h8:mayB any lo hi with
 |false =>
  simp -implicitDefEqProofs only[go_sem,];exact Fini.ret rfl
 |true =>
 simp -implicitDefEqProofs only[go_sem];exact Fini.ret rfl
set_option maxHeartbeats 4000000 in
theorem zfg (r:ReM):Ans Tryz.prog 125 [reV r,I 117] σ (Bo (zeroB r 117)) σ:=by
 obtain⟨tok,op,id,txt,st,en,sta,mt,any,lo,hi,⟨src,tgt,ra,rl,rh,eq⟩,ls,val⟩:=r;have b1:=z1u σ (any,lo,hi);have b2:=z1J σ ⟨src,tgt,ra,rl,rh,eq⟩;have b3:=z1l σ val;unfold bandV at b1;unfold ruV at b2;refine Ans.of_run t125 ?_;unfold reV reC zeroB;simp only[z79,Bool.true_or,Bool.false_or,Bool.true_and];unfold emS;unfold emI
 cases h0:(txt.toList==(⟨#[]⟩:ByteArray).toList) with
 |false =>
  simp -implicitDefEqProofs only[c125,r125,go_sem,h0];exact Fini.ret rfl
 |true =>
 cases h1:(sta==0) with
 |false =>
  simp -implicitDefEqProofs only[c125,r125,go_sem,h0,h1];exact Fini.ret rfl
 |true =>
 simp -implicitDefEqProofs only[c125,r125,go_sem,h0,h1];refine CO.intro b2 ?_
 cases h2:noRl ⟨src,tgt,ra,rl,rh,eq⟩ with
 |false =>
  simp -implicitDefEqProofs only[go_sem];exact Fini.ret rfl
 |true =>
 cases h3:(((ls.length:Nat):Int)==0) with
 |false =>
  simp -implicitDefEqProofs only[go_sem,h3];exact Fini.ret rfl
 |true =>
 simp -implicitDefEqProofs only[go_sem,h3];refine CO.intro b3 ?_
 cases h4:zF val with
 |false =>
  simp -implicitDefEqProofs only[go_sem];exact Fini.ret rfl
 |true =>
 simp -implicitDefEqProofs only[go_sem];exact Fini.ret rfl
set_option maxHeartbeats 4000000 in
theorem zdt (r:ReM):Ans Tryz.prog 126 [reV r,I 117] σ (Bo (z0c r 117)) σ:=by
 obtain⟨tok,op,id,txt,st,en,sta,mt,any,lo,hi,⟨src,tgt,ra,rl,rh,eq⟩,ls,val⟩:=r;have b0:=z2L σ txt;have b1:=z1y σ mt;have b2:=z2f σ any lo hi;have b3:=z27 σ ⟨src,tgt,ra,rl,rh,eq⟩;have b4:=z28 σ ls;unfold ruV at b3;refine Ans.of_run t126 ?_;unfold reV reC z0c idR staR clkB;simp only[z79,Bool.not_true,Bool.not_false,Bool.true_or,Bool.false_or,Bool.true_and,Bool.and_assoc]
 cases h0:decide (0≤id) with
 |false =>
  simp -implicitDefEqProofs only[c126,r126,go_sem,h0];exact Fini.ret rfl
 |true =>
 cases h1:decide (id≤2147483647) with
 |false =>
  simp -implicitDefEqProofs only[c126,r126,go_sem,h0,h1];exact Fini.ret rfl
 |true =>
 cases h2:decide (((st:Nat):Int)≤1099511627776) with
 |false =>
  simp -implicitDefEqProofs only[c126,r126,go_sem,h0,h1,h2];exact Fini.ret rfl
 |true =>
 cases h3:decide (((en:Nat):Int)≤1099511627776) with
 |false =>
  simp -implicitDefEqProofs only[c126,r126,go_sem,h0,h1,h2,h3];exact Fini.ret rfl
 |true =>
 cases h4:decide (0≤sta) with
 |false =>
  simp -implicitDefEqProofs only[c126,r126,go_sem,h0,h1,h2,h3,h4];exact Fini.ret rfl
 |true =>
 cases h5:decide (sta≤3) with
 |false =>
  simp -implicitDefEqProofs only[c126,r126,go_sem,h0,h1,h2,h3,h4,h5];exact Fini.ret rfl
 |true =>
 simp -implicitDefEqProofs only[c126,r126,go_sem,h0,h1,h2,h3,h4,h5];refine CO.intro b1 ?_
 cases h6:listB mt with
 |false =>
  simp -implicitDefEqProofs only[go_sem,];exact Fini.ret rfl
 |true =>
 have hl:=z5e mt.length
 cases h7:(!emI mt.length) with
 |false =>
  rw[h7]at hl;simp -implicitDefEqProofs only[go_sem,hl];exact Fini.ret rfl
 |true =>
 rw[h7]at hl;simp -implicitDefEqProofs only[go_sem,hl];refine CO.intro b2 ?_
 cases h8:mayB any lo hi with
 |false =>
  simp -implicitDefEqProofs only[go_sem,];exact Fini.ret rfl
 |true =>
 simp -implicitDefEqProofs only[go_sem];exact Fini.ret rfl
end
section
variable (σ:St)
set_option maxHeartbeats 4000000 in
theorem ziq (r:ReM):Ans Tryz.prog 125 [reV r,I 8] σ (Bo (zeroB r 8)) σ:=by
 obtain⟨tok,op,id,txt,st,en,sta,mt,any,lo,hi,⟨src,tgt,ra,rl,rh,eq⟩,ls,val⟩:=r;have b1:=z1u σ (any,lo,hi);have b2:=z1J σ ⟨src,tgt,ra,rl,rh,eq⟩;have b3:=z1l σ val;unfold bandV at b1;unfold ruV at b2;refine Ans.of_run t125 ?_;unfold reV reC zeroB;simp only[hs_8,Bool.true_or,Bool.false_or,Bool.true_and];unfold emS;unfold emU;unfold emI
 cases h0:(id==0) with
 |false =>
  simp -implicitDefEqProofs only[c125,r125,go_sem,h0];exact Fini.ret rfl
 |true =>
 cases h1:(txt.toList==(⟨#[]⟩:ByteArray).toList) with
 |false =>
  simp -implicitDefEqProofs only[c125,r125,go_sem,h0,h1];exact Fini.ret rfl
 |true =>
 cases h2:(((st:Nat):Int)==0) with
 |false =>
  simp -implicitDefEqProofs only[c125,r125,go_sem,h0,h1,h2];exact Fini.ret rfl
 |true =>
 cases h3:(((en:Nat):Int)==0) with
 |false =>
  simp -implicitDefEqProofs only[c125,r125,go_sem,h0,h1,h2,h3];exact Fini.ret rfl
 |true =>
 cases h4:(((mt.length:Nat):Int)==0) with
 |false =>
  simp -implicitDefEqProofs only[c125,r125,go_sem,h0,h1,h2,h3,h4];exact Fini.ret rfl
 |true =>
 simp -implicitDefEqProofs only[c125,r125,go_sem,h0,h1,h2,h3,h4];refine CO.intro b1 ?_
 cases h5:noBd (any,lo,hi) with
 |false =>
  simp -implicitDefEqProofs only[go_sem];exact Fini.ret rfl
 |true =>
 simp -implicitDefEqProofs only[go_sem];refine CO.intro b2 ?_
 cases h6:noRl ⟨src,tgt,ra,rl,rh,eq⟩ with
 |false =>
  simp -implicitDefEqProofs only[go_sem];exact Fini.ret rfl
 |true =>
 cases h7:(((ls.length:Nat):Int)==0) with
 |false =>
  simp -implicitDefEqProofs only[go_sem,h7];exact Fini.ret rfl
 |true =>
 simp -implicitDefEqProofs only[go_sem,h7];refine CO.intro b3 ?_
 cases h8:zF val with
 |false =>
  simp -implicitDefEqProofs only[go_sem];exact Fini.ret rfl
 |true =>
 simp -implicitDefEqProofs only[go_sem];exact Fini.ret rfl
set_option maxHeartbeats 4000000 in
theorem zhi (r:ReM):Ans Tryz.prog 126 [reV r,I 8] σ (Bo (z0c r 8)) σ:=by
 obtain⟨tok,op,id,txt,st,en,sta,mt,any,lo,hi,⟨src,tgt,ra,rl,rh,eq⟩,ls,val⟩:=r;have b0:=z2L σ txt;have b1:=z1y σ mt;have b2:=z2f σ any lo hi;have b3:=z27 σ ⟨src,tgt,ra,rl,rh,eq⟩;have b4:=z28 σ ls;unfold ruV at b3;refine Ans.of_run t126 ?_;unfold reV reC z0c idR staR clkB;simp only[hs_8,Bool.not_true,Bool.not_false,Bool.true_or,Bool.false_or,Bool.true_and,Bool.and_assoc]
 cases h0:decide (0≤id) with
 |false =>
  simp -implicitDefEqProofs only[c126,r126,go_sem,h0];exact Fini.ret rfl
 |true =>
 cases h1:decide (id≤2147483647) with
 |false =>
  simp -implicitDefEqProofs only[c126,r126,go_sem,h0,h1];exact Fini.ret rfl
 |true =>
 cases h2:decide (((st:Nat):Int)≤1099511627776) with
 |false =>
  simp -implicitDefEqProofs only[c126,r126,go_sem,h0,h1,h2];exact Fini.ret rfl
 |true =>
 cases h3:decide (((en:Nat):Int)≤1099511627776) with
 |false =>
  simp -implicitDefEqProofs only[c126,r126,go_sem,h0,h1,h2,h3];exact Fini.ret rfl
 |true =>
 cases h4:decide (0≤sta) with
 |false =>
  simp -implicitDefEqProofs only[c126,r126,go_sem,h0,h1,h2,h3,h4];exact Fini.ret rfl
 |true =>
 cases h5:decide (sta≤3) with
 |false =>
  simp -implicitDefEqProofs only[c126,r126,go_sem,h0,h1,h2,h3,h4,h5];exact Fini.ret rfl
 |true =>
 simp -implicitDefEqProofs only[c126,r126,go_sem,h0,h1,h2,h3,h4,h5];refine CO.intro b1 ?_
 cases h6:listB mt with
 |false =>
  simp -implicitDefEqProofs only[go_sem,];exact Fini.ret rfl
 |true =>
 simp -implicitDefEqProofs only[go_sem];exact Fini.ret rfl
set_option maxHeartbeats 4000000 in
theorem zfh (r:ReM):Ans Tryz.prog 125 [reV r,I 128] σ (Bo (zeroB r 128)) σ:=by
 obtain⟨tok,op,id,txt,st,en,sta,mt,any,lo,hi,⟨src,tgt,ra,rl,rh,eq⟩,ls,val⟩:=r;have b1:=z1u σ (any,lo,hi);have b2:=z1J σ ⟨src,tgt,ra,rl,rh,eq⟩;have b3:=z1l σ val;unfold bandV at b1;unfold ruV at b2;refine Ans.of_run t125 ?_;unfold reV reC zeroB;simp only[hs_128,Bool.true_or,Bool.false_or,Bool.true_and];unfold emS;unfold emU;unfold emI
 cases h0:(id==0) with
 |false =>
  simp -implicitDefEqProofs only[c125,r125,go_sem,h0];exact Fini.ret rfl
 |true =>
 cases h1:(txt.toList==(⟨#[]⟩:ByteArray).toList) with
 |false =>
  simp -implicitDefEqProofs only[c125,r125,go_sem,h0,h1];exact Fini.ret rfl
 |true =>
 cases h2:(((st:Nat):Int)==0) with
 |false =>
  simp -implicitDefEqProofs only[c125,r125,go_sem,h0,h1,h2];exact Fini.ret rfl
 |true =>
 cases h3:(((en:Nat):Int)==0) with
 |false =>
  simp -implicitDefEqProofs only[c125,r125,go_sem,h0,h1,h2,h3];exact Fini.ret rfl
 |true =>
 cases h4:(sta==0) with
 |false =>
  simp -implicitDefEqProofs only[c125,r125,go_sem,h0,h1,h2,h3,h4];exact Fini.ret rfl
 |true =>
 cases h5:(((mt.length:Nat):Int)==0) with
 |false =>
  simp -implicitDefEqProofs only[c125,r125,go_sem,h0,h1,h2,h3,h4,h5];exact Fini.ret rfl
 |true =>
 simp -implicitDefEqProofs only[c125,r125,go_sem,h0,h1,h2,h3,h4,h5];refine CO.intro b1 ?_
 cases h6:noBd (any,lo,hi) with
 |false =>
  simp -implicitDefEqProofs only[go_sem];exact Fini.ret rfl
 |true =>
 cases h7:(((ls.length:Nat):Int)==0) with
 |false =>
  simp -implicitDefEqProofs only[go_sem,h7];exact Fini.ret rfl
 |true =>
 simp -implicitDefEqProofs only[go_sem,h7];refine CO.intro b3 ?_
 cases h8:zF val with
 |false =>
  simp -implicitDefEqProofs only[go_sem];exact Fini.ret rfl
 |true =>
 simp -implicitDefEqProofs only[go_sem];exact Fini.ret rfl
set_option maxHeartbeats 4000000 in
theorem zdu (r:ReM):Ans Tryz.prog 126 [reV r,I 128] σ (Bo (z0c r 128)) σ:=by
 obtain⟨tok,op,id,txt,st,en,sta,mt,any,lo,hi,⟨src,tgt,ra,rl,rh,eq⟩,ls,val⟩:=r;have b0:=z2L σ txt;have b1:=z1y σ mt;have b2:=z2f σ any lo hi;have b3:=z27 σ ⟨src,tgt,ra,rl,rh,eq⟩;have b4:=z28 σ ls;unfold ruV at b3;refine Ans.of_run t126 ?_;unfold reV reC z0c idR staR clkB;simp only[hs_128,Bool.not_true,Bool.not_false,Bool.true_or,Bool.false_or,Bool.true_and,Bool.and_assoc]
 cases h0:decide (0≤id) with
 |false =>
  simp -implicitDefEqProofs only[c126,r126,go_sem,h0];exact Fini.ret rfl
 |true =>
 cases h1:decide (id≤2147483647) with
 |false =>
  simp -implicitDefEqProofs only[c126,r126,go_sem,h0,h1];exact Fini.ret rfl
 |true =>
 cases h2:decide (((st:Nat):Int)≤1099511627776) with
 |false =>
  simp -implicitDefEqProofs only[c126,r126,go_sem,h0,h1,h2];exact Fini.ret rfl
 |true =>
 cases h3:decide (((en:Nat):Int)≤1099511627776) with
 |false =>
  simp -implicitDefEqProofs only[c126,r126,go_sem,h0,h1,h2,h3];exact Fini.ret rfl
 |true =>
 cases h4:decide (0≤sta) with
 |false =>
  simp -implicitDefEqProofs only[c126,r126,go_sem,h0,h1,h2,h3,h4];exact Fini.ret rfl
 |true =>
 cases h5:decide (sta≤3) with
 |false =>
  simp -implicitDefEqProofs only[c126,r126,go_sem,h0,h1,h2,h3,h4,h5];exact Fini.ret rfl
 |true =>
 simp -implicitDefEqProofs only[c126,r126,go_sem,h0,h1,h2,h3,h4,h5];refine CO.intro b1 ?_
 cases h6:listB mt with
 |false =>
  simp -implicitDefEqProofs only[go_sem,];exact Fini.ret rfl
 |true =>
 simp -implicitDefEqProofs only[go_sem];refine CO.intro b3 ?_
 cases h7:ruIs ⟨src,tgt,ra,rl,rh,eq⟩ with
 |false =>
  simp -implicitDefEqProofs only[go_sem,];exact Fini.ret rfl
 |true =>
 simp -implicitDefEqProofs only[go_sem];exact Fini.ret rfl
end
section
variable (σ:St)
set_option maxHeartbeats 4000000 in
theorem zfi (r:ReM):Ans Tryz.prog 125 [reV r,I 768] σ (Bo (zeroB r 768)) σ:=by
 obtain⟨tok,op,id,txt,st,en,sta,mt,any,lo,hi,⟨src,tgt,ra,rl,rh,eq⟩,ls,val⟩:=r;have b1:=z1u σ (any,lo,hi);have b2:=z1J σ ⟨src,tgt,ra,rl,rh,eq⟩;have b3:=z1l σ val;unfold bandV at b1;unfold ruV at b2;refine Ans.of_run t125 ?_;unfold reV reC zeroB;simp only[hs_768,Bool.true_or,Bool.false_or,Bool.true_and];unfold emS;unfold emU;unfold emI
 cases h0:(id==0) with
 |false =>
  simp -implicitDefEqProofs only[c125,r125,go_sem,h0];exact Fini.ret rfl
 |true =>
 cases h1:(txt.toList==(⟨#[]⟩:ByteArray).toList) with
 |false =>
  simp -implicitDefEqProofs only[c125,r125,go_sem,h0,h1];exact Fini.ret rfl
 |true =>
 cases h2:(((st:Nat):Int)==0) with
 |false =>
  simp -implicitDefEqProofs only[c125,r125,go_sem,h0,h1,h2];exact Fini.ret rfl
 |true =>
 cases h3:(((en:Nat):Int)==0) with
 |false =>
  simp -implicitDefEqProofs only[c125,r125,go_sem,h0,h1,h2,h3];exact Fini.ret rfl
 |true =>
 cases h4:(sta==0) with
 |false =>
  simp -implicitDefEqProofs only[c125,r125,go_sem,h0,h1,h2,h3,h4];exact Fini.ret rfl
 |true =>
 cases h5:(((mt.length:Nat):Int)==0) with
 |false =>
  simp -implicitDefEqProofs only[c125,r125,go_sem,h0,h1,h2,h3,h4,h5];exact Fini.ret rfl
 |true =>
 simp -implicitDefEqProofs only[c125,r125,go_sem,h0,h1,h2,h3,h4,h5];refine CO.intro b1 ?_
 cases h6:noBd (any,lo,hi) with
 |false =>
  simp -implicitDefEqProofs only[go_sem];exact Fini.ret rfl
 |true =>
 simp -implicitDefEqProofs only[go_sem];refine CO.intro b2 ?_
 cases h7:noRl ⟨src,tgt,ra,rl,rh,eq⟩ with
 |false =>
  simp -implicitDefEqProofs only[go_sem];exact Fini.ret rfl
 |true =>
 simp -implicitDefEqProofs only[go_sem];exact Fini.ret rfl
set_option maxHeartbeats 4000000 in
theorem zdv (r:ReM):Ans Tryz.prog 126 [reV r,I 768] σ (Bo (z0c r 768)) σ:=by
 obtain⟨tok,op,id,txt,st,en,sta,mt,any,lo,hi,⟨src,tgt,ra,rl,rh,eq⟩,ls,val⟩:=r;have b0:=z2L σ txt;have b1:=z1y σ mt;have b2:=z2f σ any lo hi;have b3:=z27 σ ⟨src,tgt,ra,rl,rh,eq⟩;have b4:=z28 σ ls;unfold ruV at b3;refine Ans.of_run t126 ?_;unfold reV reC z0c idR staR clkB;simp only[hs_768,Bool.not_true,Bool.not_false,Bool.true_or,Bool.false_or,Bool.true_and,Bool.and_assoc]
 cases h0:decide (0≤id) with
 |false =>
  simp -implicitDefEqProofs only[c126,r126,go_sem,h0];exact Fini.ret rfl
 |true =>
 cases h1:decide (id≤2147483647) with
 |false =>
  simp -implicitDefEqProofs only[c126,r126,go_sem,h0,h1];exact Fini.ret rfl
 |true =>
 cases h2:decide (((st:Nat):Int)≤1099511627776) with
 |false =>
  simp -implicitDefEqProofs only[c126,r126,go_sem,h0,h1,h2];exact Fini.ret rfl
 |true =>
 cases h3:decide (((en:Nat):Int)≤1099511627776) with
 |false =>
  simp -implicitDefEqProofs only[c126,r126,go_sem,h0,h1,h2,h3];exact Fini.ret rfl
 |true =>
 cases h4:decide (0≤sta) with
 |false =>
  simp -implicitDefEqProofs only[c126,r126,go_sem,h0,h1,h2,h3,h4];exact Fini.ret rfl
 |true =>
 cases h5:decide (sta≤3) with
 |false =>
  simp -implicitDefEqProofs only[c126,r126,go_sem,h0,h1,h2,h3,h4,h5];exact Fini.ret rfl
 |true =>
 simp -implicitDefEqProofs only[c126,r126,go_sem,h0,h1,h2,h3,h4,h5];refine CO.intro b1 ?_
 cases h6:listB mt with
 |false =>
  simp -implicitDefEqProofs only[go_sem,];exact Fini.ret rfl
 |true =>
 simp -implicitDefEqProofs only[go_sem];refine CO.intro b4 ?_
 cases h7:setB ls with
 |false =>
  simp -implicitDefEqProofs only[go_sem,];exact Fini.ret rfl
 |true =>
 simp -implicitDefEqProofs only[go_sem];exact Fini.ret rfl
set_option maxHeartbeats 4000000 in
theorem zhj (r:ReM):Ans Tryz.prog 125 [reV r,I 16] σ (Bo (zeroB r 16)) σ:=by
 obtain⟨tok,op,id,txt,st,en,sta,mt,any,lo,hi,⟨src,tgt,ra,rl,rh,eq⟩,ls,val⟩:=r;have b1:=z1u σ (any,lo,hi);have b2:=z1J σ ⟨src,tgt,ra,rl,rh,eq⟩;have b3:=z1l σ val;unfold bandV at b1;unfold ruV at b2;refine Ans.of_run t125 ?_;unfold reV reC zeroB;simp only[hs_16,Bool.true_or,Bool.false_or,Bool.true_and];unfold emS;unfold emU;unfold emI
 cases h0:(id==0) with
 |false =>
  simp -implicitDefEqProofs only[c125,r125,go_sem,h0];exact Fini.ret rfl
 |true =>
 cases h1:(txt.toList==(⟨#[]⟩:ByteArray).toList) with
 |false =>
  simp -implicitDefEqProofs only[c125,r125,go_sem,h0,h1];exact Fini.ret rfl
 |true =>
 cases h2:(((st:Nat):Int)==0) with
 |false =>
  simp -implicitDefEqProofs only[c125,r125,go_sem,h0,h1,h2];exact Fini.ret rfl
 |true =>
 cases h3:(((en:Nat):Int)==0) with
 |false =>
  simp -implicitDefEqProofs only[c125,r125,go_sem,h0,h1,h2,h3];exact Fini.ret rfl
 |true =>
 cases h4:(sta==0) with
 |false =>
  simp -implicitDefEqProofs only[c125,r125,go_sem,h0,h1,h2,h3,h4];exact Fini.ret rfl
 |true =>
 simp -implicitDefEqProofs only[c125,r125,go_sem,h0,h1,h2,h3,h4];refine CO.intro b1 ?_
 cases h5:noBd (any,lo,hi) with
 |false =>
  simp -implicitDefEqProofs only[go_sem];exact Fini.ret rfl
 |true =>
 simp -implicitDefEqProofs only[go_sem];refine CO.intro b2 ?_
 cases h6:noRl ⟨src,tgt,ra,rl,rh,eq⟩ with
 |false =>
  simp -implicitDefEqProofs only[go_sem];exact Fini.ret rfl
 |true =>
 cases h7:(((ls.length:Nat):Int)==0) with
 |false =>
  simp -implicitDefEqProofs only[go_sem,h7];exact Fini.ret rfl
 |true =>
 simp -implicitDefEqProofs only[go_sem,h7];refine CO.intro b3 ?_
 cases h8:zF val with
 |false =>
  simp -implicitDefEqProofs only[go_sem];exact Fini.ret rfl
 |true =>
 simp -implicitDefEqProofs only[go_sem];exact Fini.ret rfl
set_option maxHeartbeats 4000000 in
theorem zfj (r:ReM):Ans Tryz.prog 126 [reV r,I 16] σ (Bo (z0c r 16)) σ:=by
 obtain⟨tok,op,id,txt,st,en,sta,mt,any,lo,hi,⟨src,tgt,ra,rl,rh,eq⟩,ls,val⟩:=r;have b0:=z2L σ txt;have b1:=z1y σ mt;have b2:=z2f σ any lo hi;have b3:=z27 σ ⟨src,tgt,ra,rl,rh,eq⟩;have b4:=z28 σ ls;unfold ruV at b3;refine Ans.of_run t126 ?_;unfold reV reC z0c idR staR clkB;simp only[hs_16,Bool.not_true,Bool.not_false,Bool.true_or,Bool.false_or,Bool.true_and,Bool.and_assoc]
 cases h0:decide (0≤id) with
 |false =>
  simp -implicitDefEqProofs only[c126,r126,go_sem,h0];exact Fini.ret rfl
 |true =>
 cases h1:decide (id≤2147483647) with
 |false =>
  simp -implicitDefEqProofs only[c126,r126,go_sem,h0,h1];exact Fini.ret rfl
 |true =>
 cases h2:decide (((st:Nat):Int)≤1099511627776) with
 |false =>
  simp -implicitDefEqProofs only[c126,r126,go_sem,h0,h1,h2];exact Fini.ret rfl
 |true =>
 cases h3:decide (((en:Nat):Int)≤1099511627776) with
 |false =>
  simp -implicitDefEqProofs only[c126,r126,go_sem,h0,h1,h2,h3];exact Fini.ret rfl
 |true =>
 cases h4:decide (0≤sta) with
 |false =>
  simp -implicitDefEqProofs only[c126,r126,go_sem,h0,h1,h2,h3,h4];exact Fini.ret rfl
 |true =>
 cases h5:decide (sta≤3) with
 |false =>
  simp -implicitDefEqProofs only[c126,r126,go_sem,h0,h1,h2,h3,h4,h5];exact Fini.ret rfl
 |true =>
 simp -implicitDefEqProofs only[c126,r126,go_sem,h0,h1,h2,h3,h4,h5];refine CO.intro b1 ?_
 cases h6:listB mt with
 |false =>
  simp -implicitDefEqProofs only[go_sem,];exact Fini.ret rfl
 |true =>
 simp -implicitDefEqProofs only[go_sem];exact Fini.ret rfl
end
section
variable (σ:St)
theorem zdw (r:ReM) (op:Int):Ans Tryz.prog 125 [reV r,I (fOf op).1] σ (Bo (zeroB r (fOf op).1)) σ:=by
 have h:=z6p op;generalize (fOf op).1=f at h;simp only[List.mem_cons,List.not_mem_nil,or_false]at h;rcases h with rfl|rfl|rfl|rfl|rfl|rfl|rfl|rfl|rfl
 · exact zim σ r
 · exact zin σ r
 · exact zio σ r
 · exact zff σ r
 · exact zfg σ r
 · exact ziq σ r
 · exact zfh σ r
 · exact zfi σ r
 · exact zhj σ r
theorem zbJ (r:ReM) (op:Int):Ans Tryz.prog 126 [reV r,I (fOf op).1] σ (Bo (z0c r (fOf op).1)) σ:=by
 have h:=z6p op;generalize (fOf op).1=f at h;simp only[List.mem_cons,List.not_mem_nil,or_false]at h;rcases h with rfl|rfl|rfl|rfl|rfl|rfl|rfl|rfl|rfl
 · exact zhf σ r
 · exact zhg σ r
 · exact zhh σ r
 · exact zds σ r
 · exact zdt σ r
 · exact zhi σ r
 · exact zdu σ r
 · exact zdv σ r
 · exact zfj σ r
theorem z2a (r:ReM):Ans Tryz.prog 87 [reV r] σ (Bo (mayR r)) σ:=by
 have h1:=z1k σ r.op;have h2:=zdw σ r r.op;have h3:=zbJ σ r r.op;refine Ans.of_run t87 ?_;unfold mayR;unfold reV reC at *;simp -implicitDefEqProofs only[c87,r87,go_sem];refine CO.intro h1 ?_
 cases(fOf r.op).2 with
 |false =>
  simp -implicitDefEqProofs only[go_sem];exact Fini.ret rfl
 |true =>
  simp -implicitDefEqProofs only[go_sem];refine CO.intro h2 ?_
  cases zeroB r (fOf r.op).1 with
  |false =>
   simp -implicitDefEqProofs only[go_sem];exact Fini.ret rfl
  |true =>
   simp -implicitDefEqProofs only[go_sem];refine CO.intro h3 ?_;simp -implicitDefEqProofs only[go_sem];exact Fini.ret rfl
theorem zaS (r:ReM):Ans Tryz.prog 35 [reV r] σ (Bo (reIs r)) σ:=by
 have h1:=z2L σ r.tok;have h2:=z2a σ r;refine Ans.of_run t35 ?_;unfold reIs;unfold reV reC at *;simp -implicitDefEqProofs only[c35,r35,go_sem];refine CO.intro h1 ?_
 cases tokB r.tok with
 |false =>
  simp -implicitDefEqProofs only[go_sem];exact Fini.ret rfl
 |true =>
  simp -implicitDefEqProofs only[go_sem];refine CO.intro h2 ?_;simp -implicitDefEqProofs only[go_sem];exact Fini.ret rfl
end
def x0 (op:Int):ReM:=⟨⟨#[]⟩,op,0,⟨#[]⟩,0,0,0,[],false,0,0,noRu,[],0⟩
def mk116 (op:Int) (p:Nat×Nat×List Mtr×Bnd):ReM:={ x0 op with st:=p.1,en:=p.2.1,mt:=p.2.2.1,any:=p.2.2.2.1,lo:=p.2.2.2.2.1,hi:=p.2.2.2.2.2 }
def mk117 (op:Int) (p:Nat×Nat×Nat×List Mtr×Bnd):ReM:={ mk116 op p.2 with id:=(p.1:Nat) }
def clR (f op:Int):Rd ReM :=
 if f=1 then z0Y (numR 2147483647) fun n=>{ x0 op with id:=(n:Nat) }
 else if f=3 then z0Y (seqR (numR 2147483647) (textR 16)) fun p=>{ x0 op with id:=(p.1:Nat),txt:=p.2 }
 else if f=116 then z0Y (seqR (numR 1099511627776) (seqR (numR 1099511627776) (seqR listR bandR))) (mk116 op)
 else if f=117 then z0Y (seqR (numR 2147483647) (seqR (numR 1099511627776) (seqR (numR 1099511627776) (seqR listR bandR)))) (mk117 op)
 else if f=8 then z0Y byteR fun c=>{ x0 op with sta:=(c.toNat:Nat) }
 else if f=128 then z0Y ruR fun r=>{ x0 op with ru:=r }
 else if f=768 then z0Y (seqR setR valR) fun p=>{ x0 op with ls:=p.1,val:=p.2 }
 else if f=16 then z0Y listR fun M=>{ x0 op with mt:=M }
 else fun b=>some (x0 op,b)
def clS (f op:Int) (b:Byt):Nat×Bool→ReM×(Nat×Bool) :=
 if f=1 then z25 (runR (numR 2147483647) 0 b) fun n=>{ x0 op with id:=(n:Nat) }
 else if f=3 then z25 (seqSt (runR (numR 2147483647) 0 b) (runR (textR 16) ⟨#[]⟩ b)) fun p=>{ x0 op with id:=(p.1:Nat),txt:=p.2 }
 else if f=116 then z25 (seqSt (runR (numR 1099511627776) 0 b) (seqSt (runR (numR 1099511627776) 0 b) (seqSt (runR listR [] b) (runR bandR (false,0,0) b)))) (mk116 op)
 else if f=117 then z25 (seqSt (runR (numR 2147483647) 0 b) (seqSt (runR (numR 1099511627776) 0 b) (seqSt (runR (numR 1099511627776) 0 b) (seqSt (runR listR [] b) (runR bandR (false,0,0) b))))) (mk117 op)
 else if f=8 then z25 (runR byteR 0 b) fun c=>{ x0 op with sta:=(c.toNat:Nat) }
 else if f=128 then z25 (runR ruR noRu b) fun r=>{ x0 op with ru:=r }
 else if f=768 then z25 (seqSt (runR setR [] b) (valS b)) fun p=>{ x0 op with ls:=p.1,val:=p.2 }
 else if f=16 then z25 (runR listR [] b) fun M=>{ x0 op with mt:=M }
 else fun q=>(x0 op,q)
theorem zbK {α:Type} (b:Byt) (x:α):StepsR b (fun b=>some (x,b)) (fun q=>(x,q)) where
 some_ a y t ha hr:=by
  simp only[Option.some.injEq,Prod.mk.injEq]at hr;obtain⟨rfl,rfl⟩:=hr;simp only[List.length_drop,Prod.mk.injEq,true_and];exact⟨by omega,trivial⟩
 none_ a ha hr:=by cases hr
 bad a:=rfl
 inb q hq:=hq
theorem zdx {α:Type} (x:α):EndsR (fun b=>some (x,b)):=fun b y t h=>by
 simp only[Option.some.injEq,Prod.mk.injEq]at h;exact⟨[],by rw[h.2];rfl⟩
theorem z3X (f op:Int) (b:Byt):StepsR b (clR f op) (clS f op b):=by
 unfold clR clS
 repeat' split
 · exact z15 (z0q _ _ _) _
 · exact z15 (z0G (z0q _ _ _) (z0q _ _ _) (ends_num _)) _
 · exact z15 (z0G (z0q _ _ _) (z0G (z0q _ _ _) (z0G (z0q _ _ _) (z0q _ _ _) ends_list) (ends_num _)) (ends_num _)) _
 · exact z15 (z0G (z0q _ _ _) (z0G (z0q _ _ _) (z0G (z0q _ _ _) (z0G (z0q _ _ _) (z0q _ _ _) ends_list) (ends_num _)) (ends_num _)) (ends_num _)) _
 · exact z15 (z0q _ _ _) _
 · exact z15 (z0q _ _ _) _
 · exact z15 (z0G (z0q _ _ _) (z0J b) ends_set) _
 · exact z15 (z0q _ _ _) _
 · exact zbK b _
theorem zhk (f op:Int):EndsR (clR f op):=by
 unfold clR
 repeat' split
 · exact z1s (ends_num _) _
 · exact z1s (z1X (ends_num _) (z0T _)) _
 · exact z1s (z1X (ends_num _) (z1X (ends_num _) (z1X ends_list ends_band))) _
 · exact z1s (z1X (ends_num _) (z1X (ends_num _) (z1X (ends_num _) (z1X ends_list ends_band)))) _
 · exact z1s ends_byte _
 · exact z1s ends_ru _
 · exact z1s (z1X ends_set ends_val) _
 · exact z1s ends_list _
 · exact zdx _
def bodyR:Rd ReM
 |[]=>none
 |c::t=>onlyR (clR (fOf (c.toNat:Int)).1 (c.toNat:Int)) mayR t
def bodyS (b:Byt) (q:Nat×Bool):ReM×(Nat×Bool) :=
 z0M (fun q1=>clS (fOf ((runR byteR 0 b q).1.toNat:Int)).1 ((runR byteR 0 b q).1.toNat:Int) b (took q1 0 (fOf ((runR byteR 0 b q).1.toNat:Int)).2)) mayR (runR byteR 0 b q).2
theorem z8X (q:Nat×Bool):took q 0 true=q:=by
 obtain⟨a,b⟩:=q;cases b<;>rfl
theorem zdy:EndsR bodyR:=fun b x t h=>by
 cases b with
 |nil=>cases h
 |cons c u =>
  obtain⟨w,hw⟩:=z4C (zhk _ _) mayR _ _ _ h;exact⟨c::w,by rw[hw];rfl⟩
theorem zdz {x:ReM} (h:mayR x=true):(fOf x.op).2=true:=by
 unfold mayR at h;simp only[Bool.and_eq_true]at h;exact h.1
theorem zgn {f op:Int} {b:Byt} {x:ReM} {t:Byt} (h:clR f op b=some (x,t)):x.op=op:=by
 unfold clR at h
 repeat' split at h
 all_goals first
  |(simp only[Option.some.injEq,Prod.mk.injEq]at h;rw[←h.1];rfl)
  |(simp only[z0Y,Option.map_eq_some_iff]at h;obtain⟨p,_,hp⟩:=h;simp only[Prod.mk.injEq]at hp;rw[←hp.1];rfl)
theorem zbL (b:Byt):StepsR b bodyR (bodyS b) where
 some_ a x t ha hr:=by
  cases hd:b.drop a with
  |nil=>rw[hd]at hr;cases hr
  |cons c u =>
   have h1:byteR (b.drop a)=some (c,u):=by rw[hd];rfl
   obtain⟨e1,e2,e3⟩:=ends_byte.drop ha h1;rw[hd]at hr;have hr:onlyR (clR (fOf (c.toNat:Int)).1 (c.toNat:Int)) mayR u=some (x,t):=hr
   have hop:(fOf (c.toNat:Int)).2=true:=by
    simp only[onlyR]at hr
    cases h3:clR (fOf (c.toNat:Int)).1 (c.toNat:Int) u with
    |none=>simp[h3]at hr
    |some y =>
     simp only[h3,Option.bind_some]at hr;split at hr
     · rename_i hm;rw[←zgn h3];exact zdz hm
     · cases hr
   unfold bodyS;simp only[z14 h1,hop,z8X];exact(z18 (z3X _ _ b) mayR).some_ (b.length-u.length) x t (by omega) (by rw[e1];exact hr)
 none_ a ha hr:=by
  cases hd:b.drop a with
  |nil =>
   have h1:byteR (b.drop a)=none:=by rw[hd];rfl
   unfold bodyS;simp only[z1j h1];exact z3t (z18 (z3X _ _ b) mayR).bad _ (by cases(fOf (((0:UInt8).toNat:Nat):Int)).2<;>rfl)
  |cons c u =>
   have h1:byteR (b.drop a)=some (c,u):=by rw[hd];rfl
   obtain⟨e1,e2,e3⟩:=ends_byte.drop ha h1;rw[hd]at hr;have hr:onlyR (clR (fOf (c.toNat:Int)).1 (c.toNat:Int)) mayR u=none:=hr;unfold bodyS;simp only[z14 h1]
   cases hop:(fOf (c.toNat:Int)).2 with
   |true =>
    simp only[z8X];exact(z18 (z3X _ _ b) mayR).none_ (b.length-u.length) (by omega) (by rw[e1];exact hr)
   |false=>exact z3t (z18 (z3X _ _ b) mayR).bad _ rfl
 bad a:=by
  unfold bodyS;simp only[z0Q];exact z3t (z18 (z3X _ _ b) mayR).bad _ (by cases(fOf (((0:UInt8).toNat:Nat):Int)).2<;>rfl)
 inb q hq:=by
  have h1:=z0l byteR 0 b q hq;unfold bodyS;exact(z18 (z3X _ _ b) mayR).inb _ (z1n b _ _ h1)
abbrev XC0 (c:UInt8):List AV:=[Sx ⟨#[]⟩,I (c.toNat:Nat),I 0,Sx ⟨#[]⟩,UN 0,UN 0,I 0,.nils,Bo false,Fl 0,Fl 0,.nils,.nils,Bo false,Fl 0,Fl 0,.nils,.nils,Fl 0]
abbrev XC1 (c:UInt8) (a2:AV):List AV:=[Sx ⟨#[]⟩,I (c.toNat:Nat),a2,Sx ⟨#[]⟩,UN 0,UN 0,I 0,.nils,Bo false,Fl 0,Fl 0,.nils,.nils,Bo false,Fl 0,Fl 0,.nils,.nils,Fl 0]
abbrev XC3 (c:UInt8) (a2 a3:AV):List AV:=[Sx ⟨#[]⟩,I (c.toNat:Nat),a2,a3,UN 0,UN 0,I 0,.nils,Bo false,Fl 0,Fl 0,.nils,.nils,Bo false,Fl 0,Fl 0,.nils,.nils,Fl 0]
abbrev XC116 (c:UInt8) (a4 a5 a7 a8 a9 a10:AV):List AV:=[Sx ⟨#[]⟩,I (c.toNat:Nat),I 0,Sx ⟨#[]⟩,a4,a5,I 0,a7,a8,a9,a10,.nils,.nils,Bo false,Fl 0,Fl 0,.nils,.nils,Fl 0]
abbrev XC117 (c:UInt8) (a2 a4 a5 a7 a8 a9 a10:AV):List AV:=[Sx ⟨#[]⟩,I (c.toNat:Nat),a2,Sx ⟨#[]⟩,a4,a5,I 0,a7,a8,a9,a10,.nils,.nils,Bo false,Fl 0,Fl 0,.nils,.nils,Fl 0]
abbrev XC8 (c:UInt8) (a6:AV):List AV:=[Sx ⟨#[]⟩,I (c.toNat:Nat),I 0,Sx ⟨#[]⟩,UN 0,UN 0,a6,.nils,Bo false,Fl 0,Fl 0,.nils,.nils,Bo false,Fl 0,Fl 0,.nils,.nils,Fl 0]
abbrev XC128 (c:UInt8) (a11 a12 a13 a14 a15 a16:AV):List AV:=[Sx ⟨#[]⟩,I (c.toNat:Nat),I 0,Sx ⟨#[]⟩,UN 0,UN 0,I 0,.nils,Bo false,Fl 0,Fl 0,a11,a12,a13,a14,a15,a16,.nils,Fl 0]
abbrev XC768 (c:UInt8) (a17 a18:AV):List AV:=[Sx ⟨#[]⟩,I (c.toNat:Nat),I 0,Sx ⟨#[]⟩,UN 0,UN 0,I 0,.nils,Bo false,Fl 0,Fl 0,.nils,.nils,Bo false,Fl 0,Fl 0,.nils,a17,a18]
abbrev XC16 (c:UInt8) (a7:AV):List AV:=[Sx ⟨#[]⟩,I (c.toNat:Nat),I 0,Sx ⟨#[]⟩,UN 0,UN 0,I 0,a7,Bo false,Fl 0,Fl 0,.nils,.nils,Bo false,Fl 0,Fl 0,.nils,.nils,Fl 0]
abbrev B19:Ob:=.box [Sx ⟨#[]⟩,I 0,I 0,Sx ⟨#[]⟩,UN 0,UN 0,I 0,.nils,Bo false,Fl 0,Fl 0,.nils,.nils,Bo false,Fl 0,Fl 0,.nils,.nils,Fl 0]
theorem ap4 {α:Type}:(∀a b c:List α,a++b++c=a++(b++c))∧(∀a b:List α,(a++b).length=a.length+b.length)∧(∀(x:α) a b,(x::a)++b=x::(a++b))∧∀a:List α,[]++a=a :=
 ⟨List.append_assoc,fun _ _=>List.length_append,fun _ _ _=>rfl,fun _=>rfl⟩
theorem rd_facts (A:Nat×Bool→St) (n p:Nat) (b:Byt) (hn:∀q,(A q).length=n) (hg:∀q,(A q)[p]?=some (rob b q)) (hs:∀q q',(A q).set p (rob b q')=A q') (q:Nat×Bool) :
  (∀q (ex:St),(A q++ex)[p]?=some (rob b q))∧(∀q q' (ex:St),(A q++ex).set p (rob b q')=A q'++ex) ∧
  (∀q (x:Ob) (ex:St),(A q++x::ex)[n]?=some x)∧(∀q (x y:Ob) (ex:St),(A q++x::y::ex)[n+1]?=some y) ∧
  (∀q (x u:Ob) (ex:St),(A q++x::ex).set n u=A q++u::ex)∧∀q (x y u:Ob) (ex:St),(A q++x::y::ex).set (n+1) u=A q++x::u::ex:=by
 have hp:p<n:=by have:=(List.getElem?_eq_some_iff.1 (hg q)).1;rw[hn]at this;exact this
 exact⟨fun q ex=>by rw[List.getElem?_append_left (by rw[hn];exact hp)];exact hg q,fun q q' ex=>by rw[List.set_append_left _ _ (by rw[hn];exact hp),hs],
  fun q x ex=>by rw[←hn q];exact g0 _ _ _,fun q x y ex=>by rw[←hn q];exact g1 _ _ _ _,
  fun q x u ex=>by rw[←hn q];exact s0 _ _ _ _,fun q x y u ex=>by rw[←hn q];exact s1 _ _ _ _ _⟩
theorem z3z (b:Byt) (q:Nat×Bool) {n:Nat}:∀c∈([.sl 1 (byv b),.pl (.int .i64 q.1),Bo q.2]:List AV),Bel n c:=by
 intro c hc;simp only[List.mem_cons,List.not_mem_nil,or_false]at hc;rcases hc with rfl|rfl|rfl
 · exact z2d _ _
 · exact .pl _
 · exact .pl _
end Go.Proofs.YtmkmhhjkdaklbaaGreat
namespace Go.Proofs.YtmkmhhjkdaklbaaGreat
open Go Go.Ab
set_option maxRecDepth 100000
def c41:ACode :=
 (sq_ [pr_ 1 (.boxr (.tmp 0)),
 pr_ 2 (.allocm z19_)]
 (.seq (.draw [⟨pr_ 4 (fa_ 1 1),[],false,0,1⟩,
 ⟨pr_ 5 (lf_ 1 4),[0],false,0,1⟩,
 ⟨cl_ 6 99 [(.tmp 5),(.const (.int .i64 0)),(.const (.int .i64 6))],[0,1],false,0,1⟩,
 ⟨c1_ 7 98 6,[0,1,2],false,0,1⟩,
 ⟨pr_ 8 (fa_ 0 1),[],false,0,1⟩,
 ⟨pr_ 9 (lf_ 1 8),[4],false,0,1⟩,
 ⟨cl_ 10 99 [(.tmp 9),(.const (.int .i64 1)),(.const (.int .i64 17))],(List.range 6),false,0,1⟩,
 ⟨pr_ 11 (.build z19_ [(0,1,(.tmp 7)),(1,1,(.tmp 10))]),(List.range 7),false,0,1⟩,
 ⟨pr_ 3 (.allocm z19_),[],true,0,0⟩,
 ⟨st_ (so_ 19 3 11),(List.range 9),true,0,0⟩])
 (.seq (sq_ [pr_ 12 (fa_ 1 3),
 pr_ 13 (lf_ 1 12)]
 (.block 0 (.seq (sq_ [pr_ 15 (bk_ .eql 13 .i64 2),
 mv_ 14 15]
 (.cond (.tmp 14)
 .skip
 (sq_ [pr_ 16 (bk_ .eql 13 .i64 7),
 mv_ 14 16]
 (.cond (.tmp 14)
 .skip
 (sq_ [pr_ 17 (bk_ .eql 13 .i64 10),
 mv_ 14 17]
 (.cond (.tmp 14)
 .skip
 (sq_ [pr_ 18 (bk_ .eql 13 .i64 12),
 mv_ 14 18]
 (.cond (.tmp 14)
 .skip
 (.ops [pr_ 19 (bk_ .eql 13 .i64 15),
 mv_ 14 19])))))))))
 (.cond (.tmp 14)
 (.ops [pr_ 20 (fa_ 2 1),
 pr_ 21 (lf_ 1 20),
 cl_ 22 99 [(.tmp 21),(.const (.int .i64 0)),(.const (.int .i64 20))],
 pr_ 23 (fa_ 2 3),
 st_ (so_ 1 23 22)])
 (.seq (sq_ [pr_ 25 (bk_ .eql 13 .i64 3),
 mv_ 24 25]
 (.cond (.tmp 24)
 .skip
 (.ops [pr_ 26 (bk_ .eql 13 .i64 4),
 mv_ 24 26])))
 (.cond (.tmp 24)
 (.draw [⟨pr_ 27 (fa_ 2 1),[],false,0,0⟩,
 ⟨pr_ 28 (lf_ 1 27),[0],false,0,0⟩,
 ⟨cl_ 29 99 [(.tmp 28),(.const (.int .i64 0)),(.const (.int .i64 7))],[0,1],true,0,0⟩,
 ⟨pr_ 30 (fa_ 3 1),[],false,0,1⟩,
 ⟨pr_ 31 (lf_ 1 30),[3],false,0,1⟩,
 ⟨cl_ 32 100 [(.tmp 31),(.const (.int .i64 0)),(.const (.int .i64 6))],[0,1,2,3,4],true,0,0⟩,
 ⟨c1_ 33 98 32,(List.range 6),true,0,0⟩,
 ⟨pr_ 34 (fa_ 2 3),[0,1,2],false,1,3⟩,
 ⟨st_ (so_ 1 34 29),(List.range 8),true,0,0⟩,
 ⟨pr_ 35 (fa_ 3 3),(List.range 9),false,4,4⟩,
 ⟨st_ (so_ 1 35 33),(List.range 10),true,0,0⟩])
 (.seq (sq_ [pr_ 37 (bk_ .eql 13 .i64 5),
 mv_ 36 37]
 (.cond (.tmp 36)
 .skip
 (.ops [pr_ 38 (bk_ .eql 13 .i64 6),
 mv_ 36 38])))
 (.cond (.tmp 36)
 (.seq (sq_ [pr_ 39 (fa_ 1 3),
 pr_ 40 (lf_ 1 39),
 pr_ 41 (bk_ .eql 40 .i64 6)]
 (.cond (.tmp 41)
 (.ops [pr_ 42 (fa_ 2 1),
 pr_ 43 (lf_ 1 42),
 cl_ 44 99 [(.tmp 43),(.const (.int .i64 0)),(.const (.int .i64 13))],
 pr_ 45 (fa_ 2 3),
 st_ (so_ 1 45 44)])
 .skip))
 (.draw [⟨pr_ 46 (fa_ 4 1),[],false,0,2⟩,
 ⟨pr_ 47 (lf_ 1 46),[0],false,0,2⟩,
 ⟨pr_ 48 (bk_ .rem 47 .u64 60),[0,1],false,0,2⟩,
 ⟨pr_ 49 (fa_ 5 1),[],false,0,3⟩,
 ⟨pr_ 50 (lf_ 1 49),[3],false,0,3⟩,
 ⟨pr_ 51 (bk_ .rem 50 .u64 90),[3,4],false,0,3⟩,
 ⟨pr_ 52 (fa_ 6 1),[],false,0,0⟩,
 ⟨pr_ 53 (lf_ 1 52),[6],false,0,0⟩,
 ⟨cl_ 54 79 [(.tmp 53),(.const (.bool true))],[6,7],true,0,0⟩,
 ⟨pr_ 55 (fa_ 8 1),[],false,0,1⟩,
 ⟨pr_ 56 (lt_ 3 55),[9],false,0,1⟩,
 ⟨c1_ 57 80 56,[6,7,8,9,10],true,0,0⟩,
 ⟨pr_ 58 (fa_ 4 3),[0,1,2],false,0,2⟩,
 ⟨st_ (so_ 1 58 48),[0,1,2,6,7,8,9,10,11,12],true,0,0⟩,
 ⟨pr_ 59 (fa_ 5 3),(List.range 14),false,3,3⟩,
 ⟨st_ (so_ 1 59 51),(List.range 15),true,0,0⟩,
 ⟨pr_ 60 (fa_ 7 3),(List.range 16),false,4,4⟩,
 ⟨st_ (so_ 1 60 54),(List.range 17),true,0,0⟩,
 ⟨pr_ 61 (fa_ 8 3),(List.range 18),false,5,5⟩,
 ⟨st_ (so_ 3 61 57),(List.range 19),true,0,0⟩]))
 (sq_ [pr_ 63 (bk_ .eql 13 .i64 8),
 mv_ 62 63]
 (.cond (.tmp 62)
 (.ops [pr_ 64 (fa_ 3 1),
 pr_ 65 (lf_ 1 64),
 cl_ 66 99 [(.tmp 65),(.const (.int .i64 0)),(.const (.int .i64 3))],
 pr_ 67 (fa_ 6 3),
 st_ (so_ 1 67 66)])
 (sq_ [pr_ 69 (bk_ .eql 13 .i64 9),
 mv_ 68 69]
 (.cond (.tmp 68)
 (.ops [pr_ 70 (fa_ 11 1),
 pr_ 71 (lt_ 6 70),
 c1_ 72 22 71,
 pr_ 73 (fa_ 11 3),
 st_ (so_ 6 73 72)])
 (sq_ [pr_ 75 (bk_ .eql 13 .i64 11),
 mv_ 74 75]
 (.cond (.tmp 74)
 (.draw [⟨pr_ 76 (fa_ 7 1),[],false,0,0⟩,
 ⟨pr_ 77 (lf_ 1 76),[0],false,0,0⟩,
 ⟨c1_ 78 101 77,[0,1],true,0,0⟩,
 ⟨pr_ 79 (fa_ 17 1),[],false,0,2⟩,
 ⟨pr_ 80 (lf_ 1 79),[3],false,0,2⟩,
 ⟨pr_ 81 (fa_ 17 3),[0,1,2],false,1,1⟩,
 ⟨st_ (so_ 1 81 78),[0,1,2,5],true,0,0⟩,
 ⟨pr_ 82 (fa_ 18 3),(List.range 7),false,2,2⟩,
 ⟨st_ (so_ 1 82 80),(List.range 8),true,0,0⟩])
 (sq_ [pr_ 84 (bk_ .eql 13 .i64 13),
 mv_ 83 84]
 (.cond (.tmp 83)
 (.ops [pr_ 85 (fa_ 6 1),
 pr_ 86 (lf_ 1 85),
 cl_ 87 79 [(.tmp 86),(.const (.bool false))],
 pr_ 88 (fa_ 7 3),
 st_ (so_ 1 88 87)])
 .skip))))))))))))))))
 (sq_ [pr_ 89 (lt_ 19 3),
 st_ (so_ 19 2 89)]
 .ret))))
def o41:List Tmp:=[2,3]
def r41:List RV:=[.cell 2 19 true]
theorem t41:Text Tryz.prog 41 o41 c41 r41 90:=.mk_ Tryz.f41 rfl
def c98:ACode :=
 (sq_ [pr_ 2 (.mov (.const (.string (ByteArray.mk #[]))))]
 (sq_ [pr_ 3 (.build [.pl (.string .empty),.pl (.string .empty),.pl (.string .empty),.pl (.string .empty),.pl (.string .empty),.pl (.string .empty),.pl (.string .empty),.pl (.string .empty)] [(0,1,(.const (.string (ByteArray.mk #[114,111,111,116,48])))),(1,1,(.const (.string (ByteArray.mk #[116,111,107,49])))),(2,1,(.const (.string (ByteArray.mk #[116,111,107,50])))),(3,1,(.const (.string (ByteArray.mk #[116,111,107,51])))),(4,1,(.const (.string (ByteArray.mk #[0,1,2,3])))),(5,1,(.const (.string (ByteArray.mk #[48,49,50,51,52,53,54,55,56,57,97,98,99,100,101,102])))),(6,1,(.const (.string (ByteArray.mk #[116,111,107,54])))),(7,1,(.const (.string (ByteArray.mk #[116,111,107]))))]),
 mv_ 4 0,
 cl_ 5 99 [(.tmp 4),(.const (.int .i64 0)),(.const (.int .i64 7))],
 pr_ 6 (.idxa 1 8 false (.tmp 3) (.tmp 5)),
 mv_ 2 6]
 .ret))
def o98:List Tmp:=[]
def r98:List RV:=[.tmp 2]
theorem t98:Text Tryz.prog 98 o98 c98 r98 7:=.mk_ Tryz.f98 rfl
end Go.Proofs.YtmkmhhjkdaklbaaGreat
namespace Go.Proofs.YtmkmhhjkdaklbaaGreat
open Go Go.Ab Go.Cod
set_option maxRecDepth 100000
def toks:List ByteArray:=[⟨#[114,111,111,116,48]⟩,⟨#[116,111,107,49]⟩,⟨#[116,111,107,50]⟩,⟨#[116,111,107,51]⟩,⟨#[0,1,2,3]⟩,⟨#[48,49,50,51,52,53,54,55,56,57,97,98,99,100,101,102]⟩,⟨#[116,111,107,54]⟩,⟨#[116,111,107]⟩]
def tokOf (n:Int):ByteArray:=toks.getD (inD n 0 7).toNat ⟨#[]⟩
structure AcM where
 what:Int
 who:Int
 id:Int
 sta:Int
 st:Nat
 en:Nat
 ds:List (Int×Int×Int)
 ns:List Int
 sel:Int
 lo:Nat
 hi:Nat
 ru:RuD
 val:Nat
 raw:Byt
 hd:ds.length≤9223372036854775807
 hst:st<18446744073709551616
 hen:en<18446744073709551616
def acC (a:AcM):List AV:=[I a.what,I a.who,I a.id,I a.sta,UN a.st,UN a.en,.sl 3 (a.ds.map dv),.sl 1 (a.ns.map I),I a.sel,Fl a.lo,Fl a.hi,
 .sl 3 (a.ru.ds.map dv),.sl 3 (a.ru.es.map dv),I a.ru.sel,Fl a.ru.lo,Fl a.ru.hi,.sl 1 (a.ru.ns.map I),Fl a.val,.sl 1 (byv a.raw)]
def acV (a:AcM):AV:=.agg (acC a)
def opA (a:AcM):Int:=inD a.what 1 17
def baseR (a:AcM):ReM:={ x0 (opA a) with tok:=tokOf (inD a.who 0 6) }
def z4Z (a:AcM):Bnd:=z0H a.sel a.lo a.hi
def silR (a:AcM) (r:ReM):ReM:={ r with st:=a.st%60,en:=a.en%90,mt:=mustL true (z0w a.ds []),any:=(z4Z a).1,lo:=(z4Z a).2.1,hi:=(z4Z a).2.2 }
def z07 (a:AcM):ReM :=
 let op:=opA a
 if op=2∨op=7∨op=10∨op=12∨op=15 then { baseR a with id:=inD a.id 0 20 }
 else if op=3∨op=4 then { baseR a with id:=inD a.id 0 7,txt:=tokOf (emodW a.sta 0 6) }
 else if op=5 then silR a (baseR a)
 else if op=6 then silR a { baseR a with id:=inD a.id 0 13 }
 else if op=8 then { baseR a with sta:=inD a.sta 0 3 }
 else if op=9 then { baseR a with ru:=z38 a.ru }
 else if op=11 then { baseR a with ls:=z2s a.ns,val:=a.val }
 else if op=13 then { baseR a with mt:=mustL false (z0w a.ds []) }
 else baseR a
theorem z3Q (n lo hi:Int) (h:lo≤hi):lo≤inD n lo hi∧inD n lo hi≤hi:=by
 unfold inD;split
 · assumption
 · unfold emodW;have h3:=Int.emod_nonneg n (show hi-lo+1≠0 by omega)
   have h4:=Int.emod_lt_of_pos n (show 0<hi-lo+1 by omega)
   omega
theorem z8Y (a:AcM):1≤opA a∧opA a≤17:=z3Q _ _ _ (by decide)
section
variable (σ:St)
theorem z0E (n:Int):Ans Tryz.prog 98 [I n] σ (Sx (tokOf n)) σ:=by
 have h:=z0j σ n 0 7 (by decide) (by decide) (by decide)
 have hr:=z3Q n 0 7 (by decide)
 unfold tokOf;generalize inD n 0 7=m at h hr⊢;refine Ans.of_run t98 ?_;simp -implicitDefEqProofs only[c98,r98,go_sem];refine CO.intro h ?_;obtain⟨k,rfl⟩:=Int.eq_ofNat_of_zero_le hr.1;have:k<8:=by omega
 match k,this with
 |0,_|1,_|2,_|3,_|4,_|5,_|6,_|7,_ =>
  simp -implicitDefEqProofs only[go_sem];exact Fini.ret rfl
end
section
variable (A:Nat×Bool→St) (n p:Nat) (b:Byt) (hn:∀q,(A q).length=n) (hg:∀q,(A q)[p]?=some (rob b q)) (hs:∀q q',(A q).set p (rob b q')=A q') (hb:b.length≤50000)
include hn hg hs hb
set_option maxHeartbeats 8000000 in
theorem zir (q:Nat×Bool) (hq:Inb b q) (c:UInt8) (q1:Nat×Bool) (hc:runR byteR 0 b q=(c,q1)) (ok:Bool) (hf:fOf (c.toNat:Int)=(0,ok)) :
  Ans Tryz.prog 103 [.ptr p 0] (A q) (reV (bodyS b q).1) (A (bodyS b q).2):=by
 obtain⟨hgA,hsA,gs⟩:=rd_facts A n p b hn hg hs q;have k0:=z1p (A q++[B19]) p b q (hgA _ _) hq hb;have hin1:=z0l byteR 0 b q hq
 have hbS:bodyS b q=z0M (fun q1=>clS 0 (c.toNat:Int) b (took q1 0 ok)) mayR q1:=by
  unfold bodyS;rw[hc];simp only[hf]
 rw[hc]at k0 hin1;rw[hbS];simp only at k0 hin1;rw[hsA]at k0;have k1:=z1k (A q1++[B19,.box (XC0 c)]) (c.toNat:Int);rw[hf]at k1;have k2:=z0a (A q1++[B19,.box (XC0 c)]) p b q1 ok (hgA _ _) hin1 hb;rw[hsA]at k2;have hin2:=z1n b q1 ok hin1;unfold z0M;simp only;generalize took q1 0 ok=q2 at k2 hin2⊢;have wc:IntKind.i64.wrap (c.toNat:Int)=(c.toNat:Int):=wrapI (by have:=c.toNat_lt;omega)
 have hcl:clS 0 (c.toNat:Int) b q2=(x0 (c.toNat:Int),q2):=rfl;rw[hcl];simp only;have hsub:Sub (.agg (XC0 c)) (reV (x0 (c.toNat:Int))):=.agg (.cons (.refl _) <| .cons (.refl _) <| .cons (.refl _) <| .cons (.refl _) <| .cons (.refl _) <| .cons (.refl _) <| .cons (.refl _) <| .cons (.nils 3) <| .cons (.refl _) <| .cons (.refl _) <| .cons (.refl _) <| .cons (.nils 3) <| .cons (.nils 3) <| .cons (.refl _) <| .cons (.refl _) <| .cons (.refl _) <| .cons (.nils 1) <| .cons (.nils 2) <| .cons (.refl _) <| .nil);have km:=(z2a (A q2++[B19,.box (XC0 c)]) (x0 (c.toNat:Int))).subA (.cons hsub .nil);have ke:=z0a (A q2++[B19,.box (XC0 c)]) p b q2 (mayR (x0 (c.toNat:Int))) (hgA _ _) hin2 hb;rw[hsA]at ke;generalize mayR (x0 (c.toNat:Int))=okm at km ke⊢;generalize took q2 0 okm=qe at ke⊢;refine Ans.subR ?_ hsub;refine Ans.of_run' t103 (fun hbel _=>?_)
 simp -implicitDefEqProofs only[c103,r103,go_sem,hgA,hsA,gs,hn,ap4];refine CO.intro k0 ?_;simp -implicitDefEqProofs only[go_sem,bc,wc,hgA,hsA,gs,hn,ap4];refine CO.intro k1 ?_;simp -implicitDefEqProofs only[go_sem];refine CO.intro k2 ?_;simp -implicitDefEqProofs only[go_sem,bc,hgA,hsA,gs,hn,ap4];refine CO.intro km ?_;simp -implicitDefEqProofs only[go_sem];refine CO.intro ke ?_;simp -implicitDefEqProofs only[go_sem,hgA,hsA,gs,hn,ap4]
 have hbl:Bel (A qe).length (.agg (XC0 c)):=.agg _ (fun i hi=>by
  have:∀y∈(XC0 c:List AV),Bel (A qe).length y:=by
   intro y hy;simp only[List.mem_cons,List.not_mem_nil,or_false]at hy;rcases hy with rfl|rfl|rfl|rfl|rfl|rfl|rfl|rfl|rfl|rfl|rfl|rfl|rfl|rfl|rfl|rfl|rfl|rfl|rfl
   all_goals first|exact .pl _|exact .nils|exact z09 _ _|exact z0u _ _|exact z0g _ _
  exact this _ (List.getElem_mem hi))
 exact Fini.trim2 (σ':=A qe) (ex:=[_,_]) (by simp -implicitDefEqProofs only[go_sem,resA,z02,rvA,oneOf,gs]<;>rfl) rfl (Nat.le_of_eq (by simp only[hn])) hbl (fun o ho=>by
  rw[←hs q qe]at ho;rw[hn];rw[hn]at hbel
  exact z2c (o:=rob b qe) hbel (z3z _ _) o ho)
set_option maxHeartbeats 8000000 in
theorem zis (q:Nat×Bool) (hq:Inb b q) (c:UInt8) (q1:Nat×Bool) (hc:runR byteR 0 b q=(c,q1)) (ok:Bool) (hf:fOf (c.toNat:Int)=(1,ok)) :
  Ans Tryz.prog 103 [.ptr p 0] (A q) (reV (bodyS b q).1) (A (bodyS b q).2):=by
 obtain⟨hgA,hsA,gs⟩:=rd_facts A n p b hn hg hs q;have k0:=z1p (A q++[B19]) p b q (hgA _ _) hq hb;have hin1:=z0l byteR 0 b q hq
 have hbS:bodyS b q=z0M (fun q1=>clS 1 (c.toNat:Int) b (took q1 0 ok)) mayR q1:=by
  unfold bodyS;rw[hc];simp only[hf]
 rw[hc]at k0 hin1;rw[hbS];simp only at k0 hin1;rw[hsA]at k0;have k1:=z1k (A q1++[B19,.box (XC1 c (I 0))]) (c.toNat:Int);rw[hf]at k1;have k2:=z0a (A q1++[B19,.box (XC1 c (I 0))]) p b q1 ok (hgA _ _) hin1 hb;rw[hsA]at k2;have hin2:=z1n b q1 ok hin1;unfold z0M;simp only;generalize took q1 0 ok=q2 at k2 hin2⊢;have wc:IntKind.i64.wrap (c.toNat:Int)=(c.toNat:Int):=wrapI (by have:=c.toNat_lt;omega)
 have hcl:clS 1 (c.toNat:Int) b q2=({ x0 (c.toNat:Int) with id:=(((runR (numR 2147483647) 0 b q2).1:Nat):Int) },(runR (numR 2147483647) 0 b q2).2):=rfl
 rw[hcl];simp only;have k3:=z34 (A q2++[B19,.box (XC1 c (I 0))]) p b q2 2147483647 (by decide) (hgA _ _) hin2 hb
 rw[hsA]at k3;have hin3:=z0l (numR 2147483647) 0 b q2 hin2;have le0:=z35 (most:=2147483647) b q2;generalize runR (numR 2147483647) 0 b q2=w0 at k3 hin3 le0⊢;obtain⟨v0,q3⟩:=w0;simp only at k3 hin3 le0⊢;have wv0:IntKind.i64.wrap (v0:Int)=(v0:Int):=wrapI (by omega)
 have hsub:Sub (.agg (XC1 c (I (v0:Nat)))) (reV ({ x0 (c.toNat:Int) with id:=((v0:Nat):Int) })):=.agg (.cons (.refl _) <| .cons (.refl _) <| .cons (.refl _) <| .cons (.refl _) <| .cons (.refl _) <| .cons (.refl _) <| .cons (.refl _) <| .cons (.nils 3) <| .cons (.refl _) <| .cons (.refl _) <| .cons (.refl _) <| .cons (.nils 3) <| .cons (.nils 3) <| .cons (.refl _) <| .cons (.refl _) <| .cons (.refl _) <| .cons (.nils 1) <| .cons (.nils 2) <| .cons (.refl _) <| .nil)
 have km:=(z2a (A q3++[B19,.box (XC1 c (I (v0:Nat)))]) ({ x0 (c.toNat:Int) with id:=((v0:Nat):Int) })).subA (.cons hsub .nil)
 have ke:=z0a (A q3++[B19,.box (XC1 c (I (v0:Nat)))]) p b q3 (mayR ({ x0 (c.toNat:Int) with id:=((v0:Nat):Int) })) (hgA _ _) hin3 hb
 rw[hsA]at ke;generalize mayR ({ x0 (c.toNat:Int) with id:=((v0:Nat):Int) })=okm at km ke⊢
 generalize took q3 0 okm=qe at ke⊢;refine Ans.subR ?_ hsub;refine Ans.of_run' t103 (fun hbel _=>?_)
 simp -implicitDefEqProofs only[c103,r103,go_sem,hgA,hsA,gs,hn,ap4];refine CO.intro k0 ?_;simp -implicitDefEqProofs only[go_sem,bc,wc,hgA,hsA,gs,hn,ap4];refine CO.intro k1 ?_;simp -implicitDefEqProofs only[go_sem];refine CO.intro k2 ?_;simp -implicitDefEqProofs only[go_sem,bc,hgA,hsA,gs,hn,ap4];refine CO.intro k3 ?_;simp -implicitDefEqProofs only[go_sem,bc,wv0,hgA,hsA,gs,hn,ap4];refine CO.intro km ?_;simp -implicitDefEqProofs only[go_sem];refine CO.intro ke ?_;simp -implicitDefEqProofs only[go_sem,hgA,hsA,gs,hn,ap4]
 have hbl:Bel (A qe).length (.agg (XC1 c (I (v0:Nat)))):=.agg _ (fun i hi=>by
  have:∀y∈(XC1 c (I (v0:Nat)):List AV),Bel (A qe).length y:=by
   intro y hy;simp only[List.mem_cons,List.not_mem_nil,or_false]at hy;rcases hy with rfl|rfl|rfl|rfl|rfl|rfl|rfl|rfl|rfl|rfl|rfl|rfl|rfl|rfl|rfl|rfl|rfl|rfl|rfl
   all_goals first|exact .pl _|exact .nils|exact z09 _ _|exact z0u _ _|exact z0g _ _
  exact this _ (List.getElem_mem hi))
 exact Fini.trim2 (σ':=A qe) (ex:=[_,_]) (by simp -implicitDefEqProofs only[go_sem,resA,z02,rvA,oneOf,gs]<;>rfl) rfl (Nat.le_of_eq (by simp only[hn])) hbl (fun o ho=>by
  rw[←hs q qe]at ho;rw[hn];rw[hn]at hbel
  exact z2c (o:=rob b qe) hbel (z3z _ _) o ho)
set_option maxHeartbeats 8000000 in
theorem zit (q:Nat×Bool) (hq:Inb b q) (c:UInt8) (q1:Nat×Bool) (hc:runR byteR 0 b q=(c,q1)) (ok:Bool) (hf:fOf (c.toNat:Int)=(3,ok)) :
  Ans Tryz.prog 103 [.ptr p 0] (A q) (reV (bodyS b q).1) (A (bodyS b q).2):=by
 obtain⟨hgA,hsA,gs⟩:=rd_facts A n p b hn hg hs q;have k0:=z1p (A q++[B19]) p b q (hgA _ _) hq hb;have hin1:=z0l byteR 0 b q hq
 have hbS:bodyS b q=z0M (fun q1=>clS 3 (c.toNat:Int) b (took q1 0 ok)) mayR q1:=by
  unfold bodyS;rw[hc];simp only[hf]
 rw[hc]at k0 hin1;rw[hbS];simp only at k0 hin1;rw[hsA]at k0;have k1:=z1k (A q1++[B19,.box (XC3 c (I 0) (Sx ⟨#[]⟩))]) (c.toNat:Int);rw[hf]at k1;have k2:=z0a (A q1++[B19,.box (XC3 c (I 0) (Sx ⟨#[]⟩))]) p b q1 ok (hgA _ _) hin1 hb;rw[hsA]at k2;have hin2:=z1n b q1 ok hin1;unfold z0M;simp only;generalize took q1 0 ok=q2 at k2 hin2⊢;have wc:IntKind.i64.wrap (c.toNat:Int)=(c.toNat:Int):=wrapI (by have:=c.toNat_lt;omega)
 have hcl:clS 3 (c.toNat:Int) b q2=({ x0 (c.toNat:Int) with id:=(((runR (numR 2147483647) 0 b q2).1:Nat):Int),txt:=(runR (textR 16) ⟨#[]⟩ b (runR (numR 2147483647) 0 b q2).2).1 },(runR (textR 16) ⟨#[]⟩ b (runR (numR 2147483647) 0 b q2).2).2):=rfl
 rw[hcl];simp only;have k3:=z34 (A q2++[B19,.box (XC3 c (I 0) (Sx ⟨#[]⟩))]) p b q2 2147483647 (by decide) (hgA _ _) hin2 hb
 rw[hsA]at k3;have hin3:=z0l (numR 2147483647) 0 b q2 hin2;have le0:=z35 (most:=2147483647) b q2;generalize runR (numR 2147483647) 0 b q2=w0 at k3 hin3 le0⊢;obtain⟨v0,q3⟩:=w0;simp only at k3 hin3 le0⊢;have wv0:IntKind.i64.wrap (v0:Int)=(v0:Int):=wrapI (by omega)
 have k4:=z3w (A q3++[B19,.box (XC3 c (I (v0:Nat)) (Sx ⟨#[]⟩))]) p b q3 16 (by decide) (hgA _ _) hin3 hb
 rw[hsA]at k4;have hin4:=z0l (textR 16) ⟨#[]⟩ b q3 hin3;generalize runR (textR 16) ⟨#[]⟩ b q3=w1 at k4 hin4⊢;obtain⟨v1,q4⟩:=w1;simp only at k4 hin4⊢;have hsub:Sub (.agg (XC3 c (I (v0:Nat)) (Sx v1))) (reV ({ x0 (c.toNat:Int) with id:=((v0:Nat):Int),txt:=v1 })):=.agg (.cons (.refl _) <| .cons (.refl _) <| .cons (.refl _) <| .cons (.refl _) <| .cons (.refl _) <| .cons (.refl _) <| .cons (.refl _) <| .cons (.nils 3) <| .cons (.refl _) <| .cons (.refl _) <| .cons (.refl _) <| .cons (.nils 3) <| .cons (.nils 3) <| .cons (.refl _) <| .cons (.refl _) <| .cons (.refl _) <| .cons (.nils 1) <| .cons (.nils 2) <| .cons (.refl _) <| .nil)
 have km:=(z2a (A q4++[B19,.box (XC3 c (I (v0:Nat)) (Sx v1))]) ({ x0 (c.toNat:Int) with id:=((v0:Nat):Int),txt:=v1 })).subA (.cons hsub .nil)
 have ke:=z0a (A q4++[B19,.box (XC3 c (I (v0:Nat)) (Sx v1))]) p b q4 (mayR ({ x0 (c.toNat:Int) with id:=((v0:Nat):Int),txt:=v1 })) (hgA _ _) hin4 hb
 rw[hsA]at ke;generalize mayR ({ x0 (c.toNat:Int) with id:=((v0:Nat):Int),txt:=v1 })=okm at km ke⊢
 generalize took q4 0 okm=qe at ke⊢;refine Ans.subR ?_ hsub;refine Ans.of_run' t103 (fun hbel _=>?_)
 simp -implicitDefEqProofs only[c103,r103,go_sem,hgA,hsA,gs,hn,ap4];refine CO.intro k0 ?_;simp -implicitDefEqProofs only[go_sem,bc,wc,hgA,hsA,gs,hn,ap4];refine CO.intro k1 ?_;simp -implicitDefEqProofs only[go_sem];refine CO.intro k2 ?_;simp -implicitDefEqProofs only[go_sem,bc,hgA,hsA,gs,hn,ap4];refine CO.intro k3 ?_;simp -implicitDefEqProofs only[go_sem,bc,wv0,hgA,hsA,gs,hn,ap4];refine CO.intro k4 ?_;simp -implicitDefEqProofs only[go_sem,bc,wv0,hgA,hsA,gs,hn,ap4];refine CO.intro km ?_;simp -implicitDefEqProofs only[go_sem];refine CO.intro ke ?_;simp -implicitDefEqProofs only[go_sem,hgA,hsA,gs,hn,ap4]
 have hbl:Bel (A qe).length (.agg (XC3 c (I (v0:Nat)) (Sx v1))):=.agg _ (fun i hi=>by
  have:∀y∈(XC3 c (I (v0:Nat)) (Sx v1):List AV),Bel (A qe).length y:=by
   intro y hy;simp only[List.mem_cons,List.not_mem_nil,or_false]at hy;rcases hy with rfl|rfl|rfl|rfl|rfl|rfl|rfl|rfl|rfl|rfl|rfl|rfl|rfl|rfl|rfl|rfl|rfl|rfl|rfl
   all_goals first|exact .pl _|exact .nils|exact z09 _ _|exact z0u _ _|exact z0g _ _
  exact this _ (List.getElem_mem hi))
 exact Fini.trim2 (σ':=A qe) (ex:=[_,_]) (by simp -implicitDefEqProofs only[go_sem,resA,z02,rvA,oneOf,gs]<;>rfl) rfl (Nat.le_of_eq (by simp only[hn])) hbl (fun o ho=>by
  rw[←hs q qe]at ho;rw[hn];rw[hn]at hbel
  exact z2c (o:=rob b qe) hbel (z3z _ _) o ho)
end
section
variable (A:Nat×Bool→St) (n p:Nat) (b:Byt) (hn:∀q,(A q).length=n) (hg:∀q,(A q)[p]?=some (rob b q)) (hs:∀q q',(A q).set p (rob b q')=A q') (hb:b.length≤50000)
include hn hg hs hb
set_option maxHeartbeats 8000000 in
theorem zfk (q:Nat×Bool) (hq:Inb b q) (c:UInt8) (q1:Nat×Bool) (hc:runR byteR 0 b q=(c,q1)) (ok:Bool) (hf:fOf (c.toNat:Int)=(116,ok)) :
  Ans Tryz.prog 103 [.ptr p 0] (A q) (reV (bodyS b q).1) (A (bodyS b q).2):=by
 obtain⟨hgA,hsA,gs⟩:=rd_facts A n p b hn hg hs q;have k0:=z1p (A q++[B19]) p b q (hgA _ _) hq hb;have hin1:=z0l byteR 0 b q hq
 have hbS:bodyS b q=z0M (fun q1=>clS 116 (c.toNat:Int) b (took q1 0 ok)) mayR q1:=by
  unfold bodyS;rw[hc];simp only[hf]
 rw[hc]at k0 hin1;rw[hbS];simp only at k0 hin1;rw[hsA]at k0;have k1:=z1k (A q1++[B19,.box (XC116 c (UN 0) (UN 0) .nils (Bo false) (Fl 0) (Fl 0))]) (c.toNat:Int);rw[hf]at k1;have k2:=z0a (A q1++[B19,.box (XC116 c (UN 0) (UN 0) .nils (Bo false) (Fl 0) (Fl 0))]) p b q1 ok (hgA _ _) hin1 hb;rw[hsA]at k2;have hin2:=z1n b q1 ok hin1;unfold z0M;simp only;generalize took q1 0 ok=q2 at k2 hin2⊢;have wc:IntKind.i64.wrap (c.toNat:Int)=(c.toNat:Int):=wrapI (by have:=c.toNat_lt;omega)
 have hcl:clS 116 (c.toNat:Int) b q2=(mk116 (c.toNat:Int) ((runR (numR 1099511627776) 0 b q2).1,(runR (numR 1099511627776) 0 b (runR (numR 1099511627776) 0 b q2).2).1,(runR listR [] b (runR (numR 1099511627776) 0 b (runR (numR 1099511627776) 0 b q2).2).2).1,(runR bandR (false,0,0) b (runR listR [] b (runR (numR 1099511627776) 0 b (runR (numR 1099511627776) 0 b q2).2).2).2).1),(runR bandR (false,0,0) b (runR listR [] b (runR (numR 1099511627776) 0 b (runR (numR 1099511627776) 0 b q2).2).2).2).2):=rfl;rw[hcl];simp only;have k3:=z34 (A q2++[B19,.box (XC116 c (UN 0) (UN 0) .nils (Bo false) (Fl 0) (Fl 0))]) p b q2 1099511627776 (by decide) (hgA _ _) hin2 hb
 rw[hsA]at k3;have hin3:=z0l (numR 1099511627776) 0 b q2 hin2;have le0:=z35 (most:=1099511627776) b q2;generalize runR (numR 1099511627776) 0 b q2=w0 at k3 hin3 le0⊢;obtain⟨v0,q3⟩:=w0;simp only at k3 hin3 le0⊢;have k4:=z34 (A q3++[B19,.box (XC116 c (UN 0) (UN 0) .nils (Bo false) (Fl 0) (Fl 0))]) p b q3 1099511627776 (by decide) (hgA _ _) hin3 hb
 rw[hsA]at k4;have hin4:=z0l (numR 1099511627776) 0 b q3 hin3;have le1:=z35 (most:=1099511627776) b q3;generalize runR (numR 1099511627776) 0 b q3=w1 at k4 hin4 le1⊢;obtain⟨v1,q4⟩:=w1;simp only at k4 hin4 le1⊢;have k5:=z8M (A q4++[B19,.box (XC116 c (UN v0) (UN v1) .nils (Bo false) (Fl 0) (Fl 0))]) p b q4 (hgA _ _) hin4 hb;rw[hsA]at k5;have hin5:=z0l listR [] b q4 hin4;generalize runR listR [] b q4=w2 at k5 hin5⊢;obtain⟨v2,q5⟩:=w2;simp only at k5 hin5⊢;have k6:=zdh (A q5++[B19,.box (XC116 c (UN v0) (UN v1) (mlV v2) (Bo false) (Fl 0) (Fl 0))]) p b q5 (hgA _ _) hin5 hb;rw[hsA]at k6;have hin6:=z0l bandR (false,0,0) b q5 hin5;generalize runR bandR (false,0,0) b q5=w3 at k6 hin6⊢;obtain⟨v3,q6⟩:=w3;simp only at k6 hin6⊢;obtain⟨ba,bl,bh⟩:=v3;unfold bandV at k6;simp only at k6⊢;have hsub:Sub (.agg (XC116 c (UN v0) (UN v1) (mlV v2) (Bo ba) (Fl bl) (Fl bh))) (reV (mk116 (c.toNat:Int) (v0,v1,v2,(ba,bl,bh)))):=.agg (.cons (.refl _) <| .cons (.refl _) <| .cons (.refl _) <| .cons (.refl _) <| .cons (.refl _) <| .cons (.refl _) <| .cons (.refl _) <| .cons (.refl _) <| .cons (.refl _) <| .cons (.refl _) <| .cons (.refl _) <| .cons (.nils 3) <| .cons (.nils 3) <| .cons (.refl _) <| .cons (.refl _) <| .cons (.refl _) <| .cons (.nils 1) <| .cons (.nils 2) <| .cons (.refl _) <| .nil);have km:=(z2a (A q6++[B19,.box (XC116 c (UN v0) (UN v1) (mlV v2) (Bo ba) (Fl bl) (Fl bh))]) (mk116 (c.toNat:Int) (v0,v1,v2,(ba,bl,bh)))).subA (.cons hsub .nil)
 have ke:=z0a (A q6++[B19,.box (XC116 c (UN v0) (UN v1) (mlV v2) (Bo ba) (Fl bl) (Fl bh))]) p b q6 (mayR (mk116 (c.toNat:Int) (v0,v1,v2,(ba,bl,bh)))) (hgA _ _) hin6 hb;rw[hsA]at ke;generalize mayR (mk116 (c.toNat:Int) (v0,v1,v2,(ba,bl,bh)))=okm at km ke⊢;generalize took q6 0 okm=qe at ke⊢;refine Ans.subR ?_ hsub;refine Ans.of_run' t103 (fun hbel _=>?_)
 simp -implicitDefEqProofs only[c103,r103,go_sem,hgA,hsA,gs,hn,ap4];refine CO.intro k0 ?_;simp -implicitDefEqProofs only[go_sem,bc,wc,hgA,hsA,gs,hn,ap4];refine CO.intro k1 ?_;simp -implicitDefEqProofs only[go_sem];refine CO.intro k2 ?_;simp -implicitDefEqProofs only[go_sem,bc,hgA,hsA,gs,hn,ap4];refine CO.intro k3 ?_;simp -implicitDefEqProofs only[go_sem,bc,hgA,hsA,gs,hn,ap4];refine CO.intro k4 ?_;simp -implicitDefEqProofs only[go_sem,bc,hgA,hsA,gs,hn,ap4];refine CO.intro k5 ?_;simp -implicitDefEqProofs only[go_sem,bc,hgA,hsA,gs,hn,ap4];refine CO.intro k6 ?_;simp -implicitDefEqProofs only[go_sem,bc,hgA,hsA,gs,hn,ap4];refine CO.intro km ?_;simp -implicitDefEqProofs only[go_sem];refine CO.intro ke ?_;simp -implicitDefEqProofs only[go_sem,hgA,hsA,gs,hn,ap4]
 have hbl:Bel (A qe).length (.agg (XC116 c (UN v0) (UN v1) (mlV v2) (Bo ba) (Fl bl) (Fl bh))):=.agg _ (fun i hi=>by
  have:∀y∈(XC116 c (UN v0) (UN v1) (mlV v2) (Bo ba) (Fl bl) (Fl bh):List AV),Bel (A qe).length y:=by
   intro y hy;simp only[List.mem_cons,List.not_mem_nil,or_false]at hy;rcases hy with rfl|rfl|rfl|rfl|rfl|rfl|rfl|rfl|rfl|rfl|rfl|rfl|rfl|rfl|rfl|rfl|rfl|rfl|rfl
   all_goals first|exact .pl _|exact .nils|exact z09 _ _|exact z0u _ _|exact z0g _ _
  exact this _ (List.getElem_mem hi))
 exact Fini.trim2 (σ':=A qe) (ex:=[_,_]) (by simp -implicitDefEqProofs only[go_sem,resA,z02,rvA,oneOf,gs]<;>rfl) rfl (Nat.le_of_eq (by simp only[hn])) hbl (fun o ho=>by
  rw[←hs q qe]at ho;rw[hn];rw[hn]at hbel
  exact z2c (o:=rob b qe) hbel (z3z _ _) o ho)
set_option maxHeartbeats 8000000 in
theorem zfl (q:Nat×Bool) (hq:Inb b q) (c:UInt8) (q1:Nat×Bool) (hc:runR byteR 0 b q=(c,q1)) (ok:Bool) (hf:fOf (c.toNat:Int)=(117,ok)) :
  Ans Tryz.prog 103 [.ptr p 0] (A q) (reV (bodyS b q).1) (A (bodyS b q).2):=by
 obtain⟨hgA,hsA,gs⟩:=rd_facts A n p b hn hg hs q;have k0:=z1p (A q++[B19]) p b q (hgA _ _) hq hb;have hin1:=z0l byteR 0 b q hq
 have hbS:bodyS b q=z0M (fun q1=>clS 117 (c.toNat:Int) b (took q1 0 ok)) mayR q1:=by
  unfold bodyS;rw[hc];simp only[hf]
 rw[hc]at k0 hin1;rw[hbS];simp only at k0 hin1;rw[hsA]at k0;have k1:=z1k (A q1++[B19,.box (XC117 c (I 0) (UN 0) (UN 0) .nils (Bo false) (Fl 0) (Fl 0))]) (c.toNat:Int);rw[hf]at k1;have k2:=z0a (A q1++[B19,.box (XC117 c (I 0) (UN 0) (UN 0) .nils (Bo false) (Fl 0) (Fl 0))]) p b q1 ok (hgA _ _) hin1 hb;rw[hsA]at k2;have hin2:=z1n b q1 ok hin1;unfold z0M;simp only;generalize took q1 0 ok=q2 at k2 hin2⊢;have wc:IntKind.i64.wrap (c.toNat:Int)=(c.toNat:Int):=wrapI (by have:=c.toNat_lt;omega)
 have hcl:clS 117 (c.toNat:Int) b q2=(mk117 (c.toNat:Int) ((runR (numR 2147483647) 0 b q2).1,(runR (numR 1099511627776) 0 b (runR (numR 2147483647) 0 b q2).2).1,(runR (numR 1099511627776) 0 b (runR (numR 1099511627776) 0 b (runR (numR 2147483647) 0 b q2).2).2).1,(runR listR [] b (runR (numR 1099511627776) 0 b (runR (numR 1099511627776) 0 b (runR (numR 2147483647) 0 b q2).2).2).2).1,(runR bandR (false,0,0) b (runR listR [] b (runR (numR 1099511627776) 0 b (runR (numR 1099511627776) 0 b (runR (numR 2147483647) 0 b q2).2).2).2).2).1),(runR bandR (false,0,0) b (runR listR [] b (runR (numR 1099511627776) 0 b (runR (numR 1099511627776) 0 b (runR (numR 2147483647) 0 b q2).2).2).2).2).2):=rfl;rw[hcl];simp only;have k3:=z34 (A q2++[B19,.box (XC117 c (I 0) (UN 0) (UN 0) .nils (Bo false) (Fl 0) (Fl 0))]) p b q2 2147483647 (by decide) (hgA _ _) hin2 hb
 rw[hsA]at k3;have hin3:=z0l (numR 2147483647) 0 b q2 hin2;have le0:=z35 (most:=2147483647) b q2;generalize runR (numR 2147483647) 0 b q2=w0 at k3 hin3 le0⊢;obtain⟨v0,q3⟩:=w0;simp only at k3 hin3 le0⊢;have wv0:IntKind.i64.wrap (v0:Int)=(v0:Int):=wrapI (by omega)
 have k4:=z34 (A q3++[B19,.box (XC117 c (I (v0:Nat)) (UN 0) (UN 0) .nils (Bo false) (Fl 0) (Fl 0))]) p b q3 1099511627776 (by decide) (hgA _ _) hin3 hb
 rw[hsA]at k4;have hin4:=z0l (numR 1099511627776) 0 b q3 hin3;have le1:=z35 (most:=1099511627776) b q3;generalize runR (numR 1099511627776) 0 b q3=w1 at k4 hin4 le1⊢;obtain⟨v1,q4⟩:=w1;simp only at k4 hin4 le1⊢;have k5:=z34 (A q4++[B19,.box (XC117 c (I (v0:Nat)) (UN 0) (UN 0) .nils (Bo false) (Fl 0) (Fl 0))]) p b q4 1099511627776 (by decide) (hgA _ _) hin4 hb
 rw[hsA]at k5;have hin5:=z0l (numR 1099511627776) 0 b q4 hin4;have le2:=z35 (most:=1099511627776) b q4;generalize runR (numR 1099511627776) 0 b q4=w2 at k5 hin5 le2⊢;obtain⟨v2,q5⟩:=w2;simp only at k5 hin5 le2⊢;have k6:=z8M (A q5++[B19,.box (XC117 c (I (v0:Nat)) (UN v1) (UN v2) .nils (Bo false) (Fl 0) (Fl 0))]) p b q5 (hgA _ _) hin5 hb;rw[hsA]at k6;have hin6:=z0l listR [] b q5 hin5;generalize runR listR [] b q5=w3 at k6 hin6⊢;obtain⟨v3,q6⟩:=w3;simp only at k6 hin6⊢;have k7:=zdh (A q6++[B19,.box (XC117 c (I (v0:Nat)) (UN v1) (UN v2) (mlV v3) (Bo false) (Fl 0) (Fl 0))]) p b q6 (hgA _ _) hin6 hb;rw[hsA]at k7;have hin7:=z0l bandR (false,0,0) b q6 hin6;generalize runR bandR (false,0,0) b q6=w4 at k7 hin7⊢;obtain⟨v4,q7⟩:=w4;simp only at k7 hin7⊢;obtain⟨ba,bl,bh⟩:=v4;unfold bandV at k7;simp only at k7⊢;have hsub:Sub (.agg (XC117 c (I (v0:Nat)) (UN v1) (UN v2) (mlV v3) (Bo ba) (Fl bl) (Fl bh))) (reV (mk117 (c.toNat:Int) (v0,v1,v2,v3,(ba,bl,bh)))):=.agg (.cons (.refl _) <| .cons (.refl _) <| .cons (.refl _) <| .cons (.refl _) <| .cons (.refl _) <| .cons (.refl _) <| .cons (.refl _) <| .cons (.refl _) <| .cons (.refl _) <| .cons (.refl _) <| .cons (.refl _) <| .cons (.nils 3) <| .cons (.nils 3) <| .cons (.refl _) <| .cons (.refl _) <| .cons (.refl _) <| .cons (.nils 1) <| .cons (.nils 2) <| .cons (.refl _) <| .nil);have km:=(z2a (A q7++[B19,.box (XC117 c (I (v0:Nat)) (UN v1) (UN v2) (mlV v3) (Bo ba) (Fl bl) (Fl bh))]) (mk117 (c.toNat:Int) (v0,v1,v2,v3,(ba,bl,bh)))).subA (.cons hsub .nil)
 have ke:=z0a (A q7++[B19,.box (XC117 c (I (v0:Nat)) (UN v1) (UN v2) (mlV v3) (Bo ba) (Fl bl) (Fl bh))]) p b q7 (mayR (mk117 (c.toNat:Int) (v0,v1,v2,v3,(ba,bl,bh)))) (hgA _ _) hin7 hb;rw[hsA]at ke;generalize mayR (mk117 (c.toNat:Int) (v0,v1,v2,v3,(ba,bl,bh)))=okm at km ke⊢;generalize took q7 0 okm=qe at ke⊢;refine Ans.subR ?_ hsub;refine Ans.of_run' t103 (fun hbel _=>?_)
 simp -implicitDefEqProofs only[c103,r103,go_sem,hgA,hsA,gs,hn,ap4];refine CO.intro k0 ?_;simp -implicitDefEqProofs only[go_sem,bc,wc,hgA,hsA,gs,hn,ap4];refine CO.intro k1 ?_;simp -implicitDefEqProofs only[go_sem];refine CO.intro k2 ?_;simp -implicitDefEqProofs only[go_sem,bc,hgA,hsA,gs,hn,ap4];refine CO.intro k3 ?_;simp -implicitDefEqProofs only[go_sem,bc,wv0,hgA,hsA,gs,hn,ap4];refine CO.intro k4 ?_;simp -implicitDefEqProofs only[go_sem,bc,wv0,hgA,hsA,gs,hn,ap4];refine CO.intro k5 ?_;simp -implicitDefEqProofs only[go_sem,bc,wv0,hgA,hsA,gs,hn,ap4];refine CO.intro k6 ?_;simp -implicitDefEqProofs only[go_sem,bc,wv0,hgA,hsA,gs,hn,ap4];refine CO.intro k7 ?_;simp -implicitDefEqProofs only[go_sem,bc,wv0,hgA,hsA,gs,hn,ap4];refine CO.intro km ?_;simp -implicitDefEqProofs only[go_sem];refine CO.intro ke ?_;simp -implicitDefEqProofs only[go_sem,hgA,hsA,gs,hn,ap4]
 have hbl:Bel (A qe).length (.agg (XC117 c (I (v0:Nat)) (UN v1) (UN v2) (mlV v3) (Bo ba) (Fl bl) (Fl bh))):=.agg _ (fun i hi=>by
  have:∀y∈(XC117 c (I (v0:Nat)) (UN v1) (UN v2) (mlV v3) (Bo ba) (Fl bl) (Fl bh):List AV),Bel (A qe).length y:=by
   intro y hy;simp only[List.mem_cons,List.not_mem_nil,or_false]at hy;rcases hy with rfl|rfl|rfl|rfl|rfl|rfl|rfl|rfl|rfl|rfl|rfl|rfl|rfl|rfl|rfl|rfl|rfl|rfl|rfl
   all_goals first|exact .pl _|exact .nils|exact z09 _ _|exact z0u _ _|exact z0g _ _
  exact this _ (List.getElem_mem hi))
 exact Fini.trim2 (σ':=A qe) (ex:=[_,_]) (by simp -implicitDefEqProofs only[go_sem,resA,z02,rvA,oneOf,gs]<;>rfl) rfl (Nat.le_of_eq (by simp only[hn])) hbl (fun o ho=>by
  rw[←hs q qe]at ho;rw[hn];rw[hn]at hbel
  exact z2c (o:=rob b qe) hbel (z3z _ _) o ho)
end
section
variable (A:Nat×Bool→St) (n p:Nat) (b:Byt) (hn:∀q,(A q).length=n) (hg:∀q,(A q)[p]?=some (rob b q)) (hs:∀q q',(A q).set p (rob b q')=A q') (hb:b.length≤50000)
include hn hg hs hb
set_option maxHeartbeats 8000000 in
theorem ziu (q:Nat×Bool) (hq:Inb b q) (c:UInt8) (q1:Nat×Bool) (hc:runR byteR 0 b q=(c,q1)) (ok:Bool) (hf:fOf (c.toNat:Int)=(8,ok)) :
  Ans Tryz.prog 103 [.ptr p 0] (A q) (reV (bodyS b q).1) (A (bodyS b q).2):=by
 obtain⟨hgA,hsA,gs⟩:=rd_facts A n p b hn hg hs q;have k0:=z1p (A q++[B19]) p b q (hgA _ _) hq hb;have hin1:=z0l byteR 0 b q hq
 have hbS:bodyS b q=z0M (fun q1=>clS 8 (c.toNat:Int) b (took q1 0 ok)) mayR q1:=by
  unfold bodyS;rw[hc];simp only[hf]
 rw[hc]at k0 hin1;rw[hbS];simp only at k0 hin1;rw[hsA]at k0;have k1:=z1k (A q1++[B19,.box (XC8 c (I 0))]) (c.toNat:Int);rw[hf]at k1;have k2:=z0a (A q1++[B19,.box (XC8 c (I 0))]) p b q1 ok (hgA _ _) hin1 hb;rw[hsA]at k2;have hin2:=z1n b q1 ok hin1;unfold z0M;simp only;generalize took q1 0 ok=q2 at k2 hin2⊢;have wc:IntKind.i64.wrap (c.toNat:Int)=(c.toNat:Int):=wrapI (by have:=c.toNat_lt;omega)
 have hcl:clS 8 (c.toNat:Int) b q2=({ x0 (c.toNat:Int) with sta:=((((runR byteR 0 b q2).1).toNat:Nat):Int) },(runR byteR 0 b q2).2):=rfl
 rw[hcl];simp only;have k3:=z1p (A q2++[B19,.box (XC8 c (I 0))]) p b q2 (hgA _ _) hin2 hb;rw[hsA]at k3;have hin3:=z0l byteR 0 b q2 hin2;generalize runR byteR 0 b q2=w0 at k3 hin3⊢;obtain⟨v0,q3⟩:=w0;simp only at k3 hin3⊢;have wv0:IntKind.i64.wrap (v0.toNat:Int)=(v0.toNat:Int):=wrapI (by have:=v0.toNat_lt;omega)
 have hsub:Sub (.agg (XC8 c (I (v0.toNat:Nat)))) (reV ({ x0 (c.toNat:Int) with sta:=(((v0).toNat:Nat):Int) })):=.agg (.cons (.refl _) <| .cons (.refl _) <| .cons (.refl _) <| .cons (.refl _) <| .cons (.refl _) <| .cons (.refl _) <| .cons (.refl _) <| .cons (.nils 3) <| .cons (.refl _) <| .cons (.refl _) <| .cons (.refl _) <| .cons (.nils 3) <| .cons (.nils 3) <| .cons (.refl _) <| .cons (.refl _) <| .cons (.refl _) <| .cons (.nils 1) <| .cons (.nils 2) <| .cons (.refl _) <| .nil)
 have km:=(z2a (A q3++[B19,.box (XC8 c (I (v0.toNat:Nat)))]) ({ x0 (c.toNat:Int) with sta:=(((v0).toNat:Nat):Int) })).subA (.cons hsub .nil)
 have ke:=z0a (A q3++[B19,.box (XC8 c (I (v0.toNat:Nat)))]) p b q3 (mayR ({ x0 (c.toNat:Int) with sta:=(((v0).toNat:Nat):Int) })) (hgA _ _) hin3 hb
 rw[hsA]at ke;generalize mayR ({ x0 (c.toNat:Int) with sta:=(((v0).toNat:Nat):Int) })=okm at km ke⊢
 generalize took q3 0 okm=qe at ke⊢;refine Ans.subR ?_ hsub;refine Ans.of_run' t103 (fun hbel _=>?_)
 simp -implicitDefEqProofs only[c103,r103,go_sem,hgA,hsA,gs,hn,ap4];refine CO.intro k0 ?_;simp -implicitDefEqProofs only[go_sem,bc,wc,hgA,hsA,gs,hn,ap4];refine CO.intro k1 ?_;simp -implicitDefEqProofs only[go_sem];refine CO.intro k2 ?_;simp -implicitDefEqProofs only[go_sem,bc,hgA,hsA,gs,hn,ap4];refine CO.intro k3 ?_;simp -implicitDefEqProofs only[go_sem,bc,wv0,hgA,hsA,gs,hn,ap4];refine CO.intro km ?_;simp -implicitDefEqProofs only[go_sem];refine CO.intro ke ?_;simp -implicitDefEqProofs only[go_sem,hgA,hsA,gs,hn,ap4]
 have hbl:Bel (A qe).length (.agg (XC8 c (I (v0.toNat:Nat)))):=.agg _ (fun i hi=>by
  have:∀y∈(XC8 c (I (v0.toNat:Nat)):List AV),Bel (A qe).length y:=by
   intro y hy;simp only[List.mem_cons,List.not_mem_nil,or_false]at hy;rcases hy with rfl|rfl|rfl|rfl|rfl|rfl|rfl|rfl|rfl|rfl|rfl|rfl|rfl|rfl|rfl|rfl|rfl|rfl|rfl
   all_goals first|exact .pl _|exact .nils|exact z09 _ _|exact z0u _ _|exact z0g _ _
  exact this _ (List.getElem_mem hi))
 exact Fini.trim2 (σ':=A qe) (ex:=[_,_]) (by simp -implicitDefEqProofs only[go_sem,resA,z02,rvA,oneOf,gs]<;>rfl) rfl (Nat.le_of_eq (by simp only[hn])) hbl (fun o ho=>by
  rw[←hs q qe]at ho;rw[hn];rw[hn]at hbel
  exact z2c (o:=rob b qe) hbel (z3z _ _) o ho)
set_option maxHeartbeats 8000000 in
theorem zfm (q:Nat×Bool) (hq:Inb b q) (c:UInt8) (q1:Nat×Bool) (hc:runR byteR 0 b q=(c,q1)) (ok:Bool) (hf:fOf (c.toNat:Int)=(128,ok)) :
  Ans Tryz.prog 103 [.ptr p 0] (A q) (reV (bodyS b q).1) (A (bodyS b q).2):=by
 obtain⟨hgA,hsA,gs⟩:=rd_facts A n p b hn hg hs q;have k0:=z1p (A q++[B19]) p b q (hgA _ _) hq hb;have hin1:=z0l byteR 0 b q hq
 have hbS:bodyS b q=z0M (fun q1=>clS 128 (c.toNat:Int) b (took q1 0 ok)) mayR q1:=by
  unfold bodyS;rw[hc];simp only[hf]
 rw[hc]at k0 hin1;rw[hbS];simp only at k0 hin1;rw[hsA]at k0;have k1:=z1k (A q1++[B19,.box (XC128 c .nils .nils (Bo false) (Fl 0) (Fl 0) .nils)]) (c.toNat:Int);rw[hf]at k1;have k2:=z0a (A q1++[B19,.box (XC128 c .nils .nils (Bo false) (Fl 0) (Fl 0) .nils)]) p b q1 ok (hgA _ _) hin1 hb;rw[hsA]at k2;have hin2:=z1n b q1 ok hin1;unfold z0M;simp only;generalize took q1 0 ok=q2 at k2 hin2⊢;have wc:IntKind.i64.wrap (c.toNat:Int)=(c.toNat:Int):=wrapI (by have:=c.toNat_lt;omega)
 have hcl:clS 128 (c.toNat:Int) b q2=({ x0 (c.toNat:Int) with ru:=(runR ruR noRu b q2).1 },(runR ruR noRu b q2).2):=rfl
 rw[hcl];simp only;have k3:=zih (A q2++[B19,.box (XC128 c .nils .nils (Bo false) (Fl 0) (Fl 0) .nils)]) p b q2 (hgA _ _) hin2 hb;rw[hsA]at k3;have hin3:=z0l ruR noRu b q2 hin2;generalize runR ruR noRu b q2=w0 at k3 hin3⊢;obtain⟨v0,q3⟩:=w0;simp only at k3 hin3⊢;obtain⟨rs,rt,ra,rl,rh,re⟩:=v0;unfold ruV at k3;simp only at k3⊢;have hsub:Sub (.agg (XC128 c (mlV rs) (mlV rt) (Bo ra) (Fl rl) (Fl rh) (.sl 1 (txs re)))) (reV ({ x0 (c.toNat:Int) with ru:=⟨rs,rt,ra,rl,rh,re⟩ })):=.agg (.cons (.refl _) <| .cons (.refl _) <| .cons (.refl _) <| .cons (.refl _) <| .cons (.refl _) <| .cons (.refl _) <| .cons (.refl _) <| .cons (.nils 3) <| .cons (.refl _) <| .cons (.refl _) <| .cons (.refl _) <| .cons (.refl _) <| .cons (.refl _) <| .cons (.refl _) <| .cons (.refl _) <| .cons (.refl _) <| .cons (.refl _) <| .cons (.nils 2) <| .cons (.refl _) <| .nil)
 have km:=(z2a (A q3++[B19,.box (XC128 c (mlV rs) (mlV rt) (Bo ra) (Fl rl) (Fl rh) (.sl 1 (txs re)))]) ({ x0 (c.toNat:Int) with ru:=⟨rs,rt,ra,rl,rh,re⟩ })).subA (.cons hsub .nil)
 have ke:=z0a (A q3++[B19,.box (XC128 c (mlV rs) (mlV rt) (Bo ra) (Fl rl) (Fl rh) (.sl 1 (txs re)))]) p b q3 (mayR ({ x0 (c.toNat:Int) with ru:=⟨rs,rt,ra,rl,rh,re⟩ })) (hgA _ _) hin3 hb
 rw[hsA]at ke;generalize mayR ({ x0 (c.toNat:Int) with ru:=⟨rs,rt,ra,rl,rh,re⟩ })=okm at km ke⊢
 generalize took q3 0 okm=qe at ke⊢;refine Ans.subR ?_ hsub;refine Ans.of_run' t103 (fun hbel _=>?_)
 simp -implicitDefEqProofs only[c103,r103,go_sem,hgA,hsA,gs,hn,ap4];refine CO.intro k0 ?_;simp -implicitDefEqProofs only[go_sem,bc,wc,hgA,hsA,gs,hn,ap4];refine CO.intro k1 ?_;simp -implicitDefEqProofs only[go_sem];refine CO.intro k2 ?_;simp -implicitDefEqProofs only[go_sem,bc,hgA,hsA,gs,hn,ap4];refine CO.intro k3 ?_;simp -implicitDefEqProofs only[go_sem,bc,hgA,hsA,gs,hn,ap4];refine CO.intro km ?_;simp -implicitDefEqProofs only[go_sem];refine CO.intro ke ?_;simp -implicitDefEqProofs only[go_sem,hgA,hsA,gs,hn,ap4]
 have hbl:Bel (A qe).length (.agg (XC128 c (mlV rs) (mlV rt) (Bo ra) (Fl rl) (Fl rh) (.sl 1 (txs re)))):=.agg _ (fun i hi=>by
  have:∀y∈(XC128 c (mlV rs) (mlV rt) (Bo ra) (Fl rl) (Fl rh) (.sl 1 (txs re)):List AV),Bel (A qe).length y:=by
   intro y hy;simp only[List.mem_cons,List.not_mem_nil,or_false]at hy;rcases hy with rfl|rfl|rfl|rfl|rfl|rfl|rfl|rfl|rfl|rfl|rfl|rfl|rfl|rfl|rfl|rfl|rfl|rfl|rfl
   all_goals first|exact .pl _|exact .nils|exact z09 _ _|exact z0u _ _|exact z0g _ _
  exact this _ (List.getElem_mem hi))
 exact Fini.trim2 (σ':=A qe) (ex:=[_,_]) (by simp -implicitDefEqProofs only[go_sem,resA,z02,rvA,oneOf,gs]<;>rfl) rfl (Nat.le_of_eq (by simp only[hn])) hbl (fun o ho=>by
  rw[←hs q qe]at ho;rw[hn];rw[hn]at hbel
  exact z2c (o:=rob b qe) hbel (z3z _ _) o ho)
end
section
variable (A:Nat×Bool→St) (n p:Nat) (b:Byt) (hn:∀q,(A q).length=n) (hg:∀q,(A q)[p]?=some (rob b q)) (hs:∀q q',(A q).set p (rob b q')=A q') (hb:b.length≤50000)
include hn hg hs hb
set_option maxHeartbeats 8000000 in
theorem zfn (q:Nat×Bool) (hq:Inb b q) (c:UInt8) (q1:Nat×Bool) (hc:runR byteR 0 b q=(c,q1)) (ok:Bool) (hf:fOf (c.toNat:Int)=(768,ok)) :
  Ans Tryz.prog 103 [.ptr p 0] (A q) (reV (bodyS b q).1) (A (bodyS b q).2):=by
 obtain⟨hgA,hsA,gs⟩:=rd_facts A n p b hn hg hs q;have k0:=z1p (A q++[B19]) p b q (hgA _ _) hq hb;have hin1:=z0l byteR 0 b q hq
 have hbS:bodyS b q=z0M (fun q1=>clS 768 (c.toNat:Int) b (took q1 0 ok)) mayR q1:=by
  unfold bodyS;rw[hc];simp only[hf]
 rw[hc]at k0 hin1;rw[hbS];simp only at k0 hin1;rw[hsA]at k0;have k1:=z1k (A q1++[B19,.box (XC768 c .nils (Fl 0))]) (c.toNat:Int);rw[hf]at k1;have k2:=z0a (A q1++[B19,.box (XC768 c .nils (Fl 0))]) p b q1 ok (hgA _ _) hin1 hb;rw[hsA]at k2;have hin2:=z1n b q1 ok hin1;unfold z0M;simp only;generalize took q1 0 ok=q2 at k2 hin2⊢;have wc:IntKind.i64.wrap (c.toNat:Int)=(c.toNat:Int):=wrapI (by have:=c.toNat_lt;omega)
 have hcl:clS 768 (c.toNat:Int) b q2=({ x0 (c.toNat:Int) with ls:=(runR setR [] b q2).1,val:=(valS b (runR setR [] b q2).2).1 },(valS b (runR setR [] b q2).2).2):=rfl
 rw[hcl];simp only;have k3:=zig (A q2++[B19,.box (XC768 c .nils (Fl 0))]) p b q2 (hgA _ _) hin2 hb;rw[hsA]at k3;have hin3:=z0l setR [] b q2 hin2;generalize runR setR [] b q2=w0 at k3 hin3⊢;obtain⟨v0,q3⟩:=w0;simp only at k3 hin3⊢;have k4:=zaK (A q3++[B19,.box (XC768 c (lsV v0) (Fl 0))]) p b q3 (hgA _ _) hin3 hb;rw[hsA]at k4;have hin4:=z0l wordR 0 b q3 hin3;unfold valS;generalize runR wordR 0 b q3=w1 at k4 hin4⊢;obtain⟨v1,qw⟩:=w1;simp only at k4 hin4⊢;have kv:=zgl (A qw++[B19,.box (XC768 c (lsV v0) (Fl 0))]) v1;have kr:=z0a (A qw++[B19,.box (XC768 c (lsV v0) (Fl 0))]) p b qw (okV v1) (hgA _ _) hin4 hb;rw[hsA]at kr;have hinv:=z1n b qw (okV v1) hin4;generalize (if okV v1=true then v1 else 0)=fv at kv⊢
 generalize okV v1=okv at kv kr hinv⊢;generalize took qw 0 okv=q4 at kr hinv⊢;clear hin4;have hin4:=hinv;have hsub:Sub (.agg (XC768 c (lsV v0) (Fl fv))) (reV ({ x0 (c.toNat:Int) with ls:=v0,val:=fv })):=.agg (.cons (.refl _) <| .cons (.refl _) <| .cons (.refl _) <| .cons (.refl _) <| .cons (.refl _) <| .cons (.refl _) <| .cons (.refl _) <| .cons (.nils 3) <| .cons (.refl _) <| .cons (.refl _) <| .cons (.refl _) <| .cons (.nils 3) <| .cons (.nils 3) <| .cons (.refl _) <| .cons (.refl _) <| .cons (.refl _) <| .cons (.nils 1) <| .cons (.refl _) <| .cons (.refl _) <| .nil)
 have km:=(z2a (A q4++[B19,.box (XC768 c (lsV v0) (Fl fv))]) ({ x0 (c.toNat:Int) with ls:=v0,val:=fv })).subA (.cons hsub .nil)
 have ke:=z0a (A q4++[B19,.box (XC768 c (lsV v0) (Fl fv))]) p b q4 (mayR ({ x0 (c.toNat:Int) with ls:=v0,val:=fv })) (hgA _ _) hin4 hb
 rw[hsA]at ke;generalize mayR ({ x0 (c.toNat:Int) with ls:=v0,val:=fv })=okm at km ke⊢
 generalize took q4 0 okm=qe at ke⊢;refine Ans.subR ?_ hsub;refine Ans.of_run' t103 (fun hbel _=>?_)
 simp -implicitDefEqProofs only[c103,r103,go_sem,hgA,hsA,gs,hn,ap4];refine CO.intro k0 ?_;simp -implicitDefEqProofs only[go_sem,bc,wc,hgA,hsA,gs,hn,ap4];refine CO.intro k1 ?_;simp -implicitDefEqProofs only[go_sem];refine CO.intro k2 ?_;simp -implicitDefEqProofs only[go_sem,bc,hgA,hsA,gs,hn,ap4];refine CO.intro k3 ?_;simp -implicitDefEqProofs only[go_sem,bc,hgA,hsA,gs,hn,ap4];refine CO.intro k4 ?_;simp -implicitDefEqProofs only[go_sem];refine CO.intro kv ?_;simp -implicitDefEqProofs only[go_sem];refine CO.intro kr ?_;simp -implicitDefEqProofs only[go_sem,bc,hgA,hsA,gs,hn,ap4];refine CO.intro km ?_;simp -implicitDefEqProofs only[go_sem];refine CO.intro ke ?_;simp -implicitDefEqProofs only[go_sem,hgA,hsA,gs,hn,ap4]
 have hbl:Bel (A qe).length (.agg (XC768 c (lsV v0) (Fl fv))):=.agg _ (fun i hi=>by
  have:∀y∈(XC768 c (lsV v0) (Fl fv):List AV),Bel (A qe).length y:=by
   intro y hy;simp only[List.mem_cons,List.not_mem_nil,or_false]at hy;rcases hy with rfl|rfl|rfl|rfl|rfl|rfl|rfl|rfl|rfl|rfl|rfl|rfl|rfl|rfl|rfl|rfl|rfl|rfl|rfl
   all_goals first|exact .pl _|exact .nils|exact z09 _ _|exact z0u _ _|exact z0g _ _
  exact this _ (List.getElem_mem hi))
 exact Fini.trim2 (σ':=A qe) (ex:=[_,_]) (by simp -implicitDefEqProofs only[go_sem,resA,z02,rvA,oneOf,gs]<;>rfl) rfl (Nat.le_of_eq (by simp only[hn])) hbl (fun o ho=>by
  rw[←hs q qe]at ho;rw[hn];rw[hn]at hbel
  exact z2c (o:=rob b qe) hbel (z3z _ _) o ho)
set_option maxHeartbeats 8000000 in
theorem zhl (q:Nat×Bool) (hq:Inb b q) (c:UInt8) (q1:Nat×Bool) (hc:runR byteR 0 b q=(c,q1)) (ok:Bool) (hf:fOf (c.toNat:Int)=(16,ok)) :
  Ans Tryz.prog 103 [.ptr p 0] (A q) (reV (bodyS b q).1) (A (bodyS b q).2):=by
 obtain⟨hgA,hsA,gs⟩:=rd_facts A n p b hn hg hs q;have k0:=z1p (A q++[B19]) p b q (hgA _ _) hq hb;have hin1:=z0l byteR 0 b q hq
 have hbS:bodyS b q=z0M (fun q1=>clS 16 (c.toNat:Int) b (took q1 0 ok)) mayR q1:=by
  unfold bodyS;rw[hc];simp only[hf]
 rw[hc]at k0 hin1;rw[hbS];simp only at k0 hin1;rw[hsA]at k0;have k1:=z1k (A q1++[B19,.box (XC16 c .nils)]) (c.toNat:Int);rw[hf]at k1;have k2:=z0a (A q1++[B19,.box (XC16 c .nils)]) p b q1 ok (hgA _ _) hin1 hb;rw[hsA]at k2;have hin2:=z1n b q1 ok hin1;unfold z0M;simp only;generalize took q1 0 ok=q2 at k2 hin2⊢;have wc:IntKind.i64.wrap (c.toNat:Int)=(c.toNat:Int):=wrapI (by have:=c.toNat_lt;omega)
 have hcl:clS 16 (c.toNat:Int) b q2=({ x0 (c.toNat:Int) with mt:=(runR listR [] b q2).1 },(runR listR [] b q2).2):=rfl
 rw[hcl];simp only;have k3:=z8M (A q2++[B19,.box (XC16 c .nils)]) p b q2 (hgA _ _) hin2 hb;rw[hsA]at k3;have hin3:=z0l listR [] b q2 hin2;generalize runR listR [] b q2=w0 at k3 hin3⊢;obtain⟨v0,q3⟩:=w0;simp only at k3 hin3⊢;have hsub:Sub (.agg (XC16 c (mlV v0))) (reV ({ x0 (c.toNat:Int) with mt:=v0 })):=.agg (.cons (.refl _) <| .cons (.refl _) <| .cons (.refl _) <| .cons (.refl _) <| .cons (.refl _) <| .cons (.refl _) <| .cons (.refl _) <| .cons (.refl _) <| .cons (.refl _) <| .cons (.refl _) <| .cons (.refl _) <| .cons (.nils 3) <| .cons (.nils 3) <| .cons (.refl _) <| .cons (.refl _) <| .cons (.refl _) <| .cons (.nils 1) <| .cons (.nils 2) <| .cons (.refl _) <| .nil)
 have km:=(z2a (A q3++[B19,.box (XC16 c (mlV v0))]) ({ x0 (c.toNat:Int) with mt:=v0 })).subA (.cons hsub .nil)
 have ke:=z0a (A q3++[B19,.box (XC16 c (mlV v0))]) p b q3 (mayR ({ x0 (c.toNat:Int) with mt:=v0 })) (hgA _ _) hin3 hb
 rw[hsA]at ke;generalize mayR ({ x0 (c.toNat:Int) with mt:=v0 })=okm at km ke⊢
 generalize took q3 0 okm=qe at ke⊢;refine Ans.subR ?_ hsub;refine Ans.of_run' t103 (fun hbel _=>?_)
 simp -implicitDefEqProofs only[c103,r103,go_sem,hgA,hsA,gs,hn,ap4];refine CO.intro k0 ?_;simp -implicitDefEqProofs only[go_sem,bc,wc,hgA,hsA,gs,hn,ap4];refine CO.intro k1 ?_;simp -implicitDefEqProofs only[go_sem];refine CO.intro k2 ?_;simp -implicitDefEqProofs only[go_sem,bc,hgA,hsA,gs,hn,ap4];refine CO.intro k3 ?_;simp -implicitDefEqProofs only[go_sem,bc,hgA,hsA,gs,hn,ap4];refine CO.intro km ?_;simp -implicitDefEqProofs only[go_sem];refine CO.intro ke ?_;simp -implicitDefEqProofs only[go_sem,hgA,hsA,gs,hn,ap4]
 have hbl:Bel (A qe).length (.agg (XC16 c (mlV v0))):=.agg _ (fun i hi=>by
  have:∀y∈(XC16 c (mlV v0):List AV),Bel (A qe).length y:=by
   intro y hy;simp only[List.mem_cons,List.not_mem_nil,or_false]at hy;rcases hy with rfl|rfl|rfl|rfl|rfl|rfl|rfl|rfl|rfl|rfl|rfl|rfl|rfl|rfl|rfl|rfl|rfl|rfl|rfl
   all_goals first|exact .pl _|exact .nils|exact z09 _ _|exact z0u _ _|exact z0g _ _
  exact this _ (List.getElem_mem hi))
 exact Fini.trim2 (σ':=A qe) (ex:=[_,_]) (by simp -implicitDefEqProofs only[go_sem,resA,z02,rvA,oneOf,gs]<;>rfl) rfl (Nat.le_of_eq (by simp only[hn])) hbl (fun o ho=>by
  rw[←hs q qe]at ho;rw[hn];rw[hn]at hbel
  exact z2c (o:=rob b qe) hbel (z3z _ _) o ho)
end
end Go.Proofs.YtmkmhhjkdaklbaaGreat
