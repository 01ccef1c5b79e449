/- Which fields a request has not are zero, those that it has are right, at some of the field sets. Printed by a program. No condition. -/
import Derived.Test.YtmkmhhjkdaklbaaGreatRq2q
import Derived.Test.YtmkmhhjkdaklbaaGreatXMRcbq
set_option linter.unusedSimpArgs false
set_option linter.unusedVariables false
set_option linter.unusedSectionVars false
namespace Go.Proofs.YtmkmhhjkdaklbaaGreat
open Go Go.Ab Go.Cod
set_option maxRecDepth 100000
section
variable (σ:St)
set_option maxHeartbeats 4000000 in
theorem zcV (r:ReM):Ans Tryz.prog 125 [reV r,I 0] σ (Bo (zeroB r 0)) σ:=by
 obtain⟨tok,op,id,txt,st,en,sta,mt,any,lo,hi,⟨src,tgt,ra,rl,rh,eq⟩,ls,val⟩:=r
 have b1:=z0N σ (any,lo,hi)
 have b2:=z0W σ ⟨src,tgt,ra,rl,rh,eq⟩
 have b3:=z0L σ val
 unfold bandV at b1
 unfold ruV at b2
 refine Ans.of_run t125 ?_
 unfold reV reC zeroB
 simp only[hs_0,Bool.true_or,Bool.false_or,Bool.true_and]
 unfold emS
 unfold emU
 unfold emI
 cases h0:(id==0) with
 |false =>
  simp -implicitDefEqProofs only[c125,r125,go_sem,h0]
  exact Fini.ret rfl
 |true =>
 cases h1:(txt.toList==(⟨#[]⟩:ByteArray).toList) with
 |false =>
  simp -implicitDefEqProofs only[c125,r125,go_sem,h0,h1]
  exact Fini.ret rfl
 |true =>
 cases h2:(((st:Nat):Int)==0) with
 |false =>
  simp -implicitDefEqProofs only[c125,r125,go_sem,h0,h1,h2]
  exact Fini.ret rfl
 |true =>
 cases h3:(((en:Nat):Int)==0) with
 |false =>
  simp -implicitDefEqProofs only[c125,r125,go_sem,h0,h1,h2,h3]
  exact Fini.ret rfl
 |true =>
 cases h4:(sta==0) with
 |false =>
  simp -implicitDefEqProofs only[c125,r125,go_sem,h0,h1,h2,h3,h4]
  exact Fini.ret rfl
 |true =>
 cases h5:(((mt.length:Nat):Int)==0) with
 |false =>
  simp -implicitDefEqProofs only[c125,r125,go_sem,h0,h1,h2,h3,h4,h5]
  exact Fini.ret rfl
 |true =>
 simp -implicitDefEqProofs only[c125,r125,go_sem,h0,h1,h2,h3,h4,h5]
 refine CO.intro b1 ?_
 cases h6:noBd (any,lo,hi) with
 |false =>
  simp -implicitDefEqProofs only[go_sem]
  exact Fini.ret rfl
 |true =>
 simp -implicitDefEqProofs only[go_sem]
 refine CO.intro b2 ?_
 cases h7:noRl ⟨src,tgt,ra,rl,rh,eq⟩ with
 |false =>
  simp -implicitDefEqProofs only[go_sem]
  exact Fini.ret rfl
 |true =>
 cases h8:(((ls.length:Nat):Int)==0) with
 |false =>
  simp -implicitDefEqProofs only[go_sem,h8]
  exact Fini.ret rfl
 |true =>
 simp -implicitDefEqProofs only[go_sem,h8]
 refine CO.intro b3 ?_
 cases h9:zF val with
 |false =>
  simp -implicitDefEqProofs only[go_sem]
  exact Fini.ret rfl
 |true =>
 simp -implicitDefEqProofs only[go_sem]
 exact Fini.ret rfl
set_option maxHeartbeats 4000000 in
theorem zcj (r:ReM):Ans Tryz.prog 126 [reV r,I 0] σ (Bo (z0q r 0)) σ:=by
 obtain⟨tok,op,id,txt,st,en,sta,mt,any,lo,hi,⟨src,tgt,ra,rl,rh,eq⟩,ls,val⟩:=r
 have b0:=z1R σ txt
 have b1:=z0V σ mt
 have b2:=z1Q σ any lo hi
 have b3:=z1h σ ⟨src,tgt,ra,rl,rh,eq⟩
 have b4:=z1j σ ls
 unfold ruV at b3
 refine Ans.of_run t126 ?_
 unfold reV reC z0q idR staR clkB
 simp only[hs_0,Bool.not_true,Bool.not_false,Bool.true_or,Bool.false_or,Bool.true_and,Bool.and_assoc]
 cases h0:decide (0≤id) with
 |false =>
  simp -implicitDefEqProofs only[c126,r126,go_sem,h0]
  exact Fini.ret rfl
 |true =>
 cases h1:decide (id≤2147483647) with
 |false =>
  simp -implicitDefEqProofs only[c126,r126,go_sem,h0,h1]
  exact Fini.ret rfl
 |true =>
 cases h2:decide (((st:Nat):Int)≤1099511627776) with
 |false =>
  simp -implicitDefEqProofs only[c126,r126,go_sem,h0,h1,h2]
  exact Fini.ret rfl
 |true =>
 cases h3:decide (((en:Nat):Int)≤1099511627776) with
 |false =>
  simp -implicitDefEqProofs only[c126,r126,go_sem,h0,h1,h2,h3]
  exact Fini.ret rfl
 |true =>
 cases h4:decide (0≤sta) with
 |false =>
  simp -implicitDefEqProofs only[c126,r126,go_sem,h0,h1,h2,h3,h4]
  exact Fini.ret rfl
 |true =>
 cases h5:decide (sta≤3) with
 |false =>
  simp -implicitDefEqProofs only[c126,r126,go_sem,h0,h1,h2,h3,h4,h5]
  exact Fini.ret rfl
 |true =>
 simp -implicitDefEqProofs only[c126,r126,go_sem,h0,h1,h2,h3,h4,h5]
 refine CO.intro b1 ?_
 cases h6:listB mt with
 |false =>
  simp -implicitDefEqProofs only[go_sem,]
  exact Fini.ret rfl
 |true =>
 simp -implicitDefEqProofs only[go_sem]
 exact Fini.ret rfl
set_option maxHeartbeats 4000000 in
theorem zcW (r:ReM):Ans Tryz.prog 125 [reV r,I 1] σ (Bo (zeroB r 1)) σ:=by
 obtain⟨tok,op,id,txt,st,en,sta,mt,any,lo,hi,⟨src,tgt,ra,rl,rh,eq⟩,ls,val⟩:=r
 have b1:=z0N σ (any,lo,hi)
 have b2:=z0W σ ⟨src,tgt,ra,rl,rh,eq⟩
 have b3:=z0L σ val
 unfold bandV at b1
 unfold ruV at b2
 refine Ans.of_run t125 ?_
 unfold reV reC zeroB
 simp only[hs_1,Bool.true_or,Bool.false_or,Bool.true_and]
 unfold emS
 unfold emU
 unfold emI
 cases h0:(txt.toList==(⟨#[]⟩:ByteArray).toList) with
 |false =>
  simp -implicitDefEqProofs only[c125,r125,go_sem,h0]
  exact Fini.ret rfl
 |true =>
 cases h1:(((st:Nat):Int)==0) with
 |false =>
  simp -implicitDefEqProofs only[c125,r125,go_sem,h0,h1]
  exact Fini.ret rfl
 |true =>
 cases h2:(((en:Nat):Int)==0) with
 |false =>
  simp -implicitDefEqProofs only[c125,r125,go_sem,h0,h1,h2]
  exact Fini.ret rfl
 |true =>
 cases h3:(sta==0) with
 |false =>
  simp -implicitDefEqProofs only[c125,r125,go_sem,h0,h1,h2,h3]
  exact Fini.ret rfl
 |true =>
 cases h4:(((mt.length:Nat):Int)==0) with
 |false =>
  simp -implicitDefEqProofs only[c125,r125,go_sem,h0,h1,h2,h3,h4]
  exact Fini.ret rfl
 |true =>
 simp -implicitDefEqProofs only[c125,r125,go_sem,h0,h1,h2,h3,h4]
 refine CO.intro b1 ?_
 cases h5:noBd (any,lo,hi) with
 |false =>
  simp -implicitDefEqProofs only[go_sem]
  exact Fini.ret rfl
 |true =>
 simp -implicitDefEqProofs only[go_sem]
 refine CO.intro b2 ?_
 cases h6:noRl ⟨src,tgt,ra,rl,rh,eq⟩ with
 |false =>
  simp -implicitDefEqProofs only[go_sem]
  exact Fini.ret rfl
 |true =>
 cases h7:(((ls.length:Nat):Int)==0) with
 |false =>
  simp -implicitDefEqProofs only[go_sem,h7]
  exact Fini.ret rfl
 |true =>
 simp -implicitDefEqProofs only[go_sem,h7]
 refine CO.intro b3 ?_
 cases h8:zF val with
 |false =>
  simp -implicitDefEqProofs only[go_sem]
  exact Fini.ret rfl
 |true =>
 simp -implicitDefEqProofs only[go_sem]
 exact Fini.ret rfl
set_option maxHeartbeats 4000000 in
theorem zck (r:ReM):Ans Tryz.prog 126 [reV r,I 1] σ (Bo (z0q r 1)) σ:=by
 obtain⟨tok,op,id,txt,st,en,sta,mt,any,lo,hi,⟨src,tgt,ra,rl,rh,eq⟩,ls,val⟩:=r
 have b0:=z1R σ txt
 have b1:=z0V σ mt
 have b2:=z1Q σ any lo hi
 have b3:=z1h σ ⟨src,tgt,ra,rl,rh,eq⟩
 have b4:=z1j σ ls
 unfold ruV at b3
 refine Ans.of_run t126 ?_
 unfold reV reC z0q idR staR clkB
 simp only[hs_1,Bool.not_true,Bool.not_false,Bool.true_or,Bool.false_or,Bool.true_and,Bool.and_assoc]
 cases h0:decide (0≤id) with
 |false =>
  simp -implicitDefEqProofs only[c126,r126,go_sem,h0]
  exact Fini.ret rfl
 |true =>
 cases h1:decide (id≤2147483647) with
 |false =>
  simp -implicitDefEqProofs only[c126,r126,go_sem,h0,h1]
  exact Fini.ret rfl
 |true =>
 cases h2:decide (((st:Nat):Int)≤1099511627776) with
 |false =>
  simp -implicitDefEqProofs only[c126,r126,go_sem,h0,h1,h2]
  exact Fini.ret rfl
 |true =>
 cases h3:decide (((en:Nat):Int)≤1099511627776) with
 |false =>
  simp -implicitDefEqProofs only[c126,r126,go_sem,h0,h1,h2,h3]
  exact Fini.ret rfl
 |true =>
 cases h4:decide (0≤sta) with
 |false =>
  simp -implicitDefEqProofs only[c126,r126,go_sem,h0,h1,h2,h3,h4]
  exact Fini.ret rfl
 |true =>
 cases h5:decide (sta≤3) with
 |false =>
  simp -implicitDefEqProofs only[c126,r126,go_sem,h0,h1,h2,h3,h4,h5]
  exact Fini.ret rfl
 |true =>
 simp -implicitDefEqProofs only[c126,r126,go_sem,h0,h1,h2,h3,h4,h5]
 refine CO.intro b1 ?_
 cases h6:listB mt with
 |false =>
  simp -implicitDefEqProofs only[go_sem,]
  exact Fini.ret rfl
 |true =>
 simp -implicitDefEqProofs only[go_sem]
 exact Fini.ret rfl
set_option maxHeartbeats 4000000 in
theorem zcX (r:ReM):Ans Tryz.prog 125 [reV r,I 3] σ (Bo (zeroB r 3)) σ:=by
 obtain⟨tok,op,id,txt,st,en,sta,mt,any,lo,hi,⟨src,tgt,ra,rl,rh,eq⟩,ls,val⟩:=r
 have b1:=z0N σ (any,lo,hi)
 have b2:=z0W σ ⟨src,tgt,ra,rl,rh,eq⟩
 have b3:=z0L σ val
 unfold bandV at b1
 unfold ruV at b2
 refine Ans.of_run t125 ?_
 unfold reV reC zeroB
 simp only[hs_3,Bool.true_or,Bool.false_or,Bool.true_and]
 unfold emU
 unfold emI
 cases h0:(((st:Nat):Int)==0) with
 |false =>
  simp -implicitDefEqProofs only[c125,r125,go_sem,h0]
  exact Fini.ret rfl
 |true =>
 cases h1:(((en:Nat):Int)==0) with
 |false =>
  simp -implicitDefEqProofs only[c125,r125,go_sem,h0,h1]
  exact Fini.ret rfl
 |true =>
 cases h2:(sta==0) with
 |false =>
  simp -implicitDefEqProofs only[c125,r125,go_sem,h0,h1,h2]
  exact Fini.ret rfl
 |true =>
 cases h3:(((mt.length:Nat):Int)==0) with
 |false =>
  simp -implicitDefEqProofs only[c125,r125,go_sem,h0,h1,h2,h3]
  exact Fini.ret rfl
 |true =>
 simp -implicitDefEqProofs only[c125,r125,go_sem,h0,h1,h2,h3]
 refine CO.intro b1 ?_
 cases h4:noBd (any,lo,hi) with
 |false =>
  simp -implicitDefEqProofs only[go_sem]
  exact Fini.ret rfl
 |true =>
 simp -implicitDefEqProofs only[go_sem]
 refine CO.intro b2 ?_
 cases h5:noRl ⟨src,tgt,ra,rl,rh,eq⟩ with
 |false =>
  simp -implicitDefEqProofs only[go_sem]
  exact Fini.ret rfl
 |true =>
 cases h6:(((ls.length:Nat):Int)==0) with
 |false =>
  simp -implicitDefEqProofs only[go_sem,h6]
  exact Fini.ret rfl
 |true =>
 simp -implicitDefEqProofs only[go_sem,h6]
 refine CO.intro b3 ?_
 cases h7:zF val with
 |false =>
  simp -implicitDefEqProofs only[go_sem]
  exact Fini.ret rfl
 |true =>
 simp -implicitDefEqProofs only[go_sem]
 exact Fini.ret rfl
set_option maxHeartbeats 4000000 in
theorem zcl (r:ReM):Ans Tryz.prog 126 [reV r,I 3] σ (Bo (z0q r 3)) σ:=by
 obtain⟨tok,op,id,txt,st,en,sta,mt,any,lo,hi,⟨src,tgt,ra,rl,rh,eq⟩,ls,val⟩:=r
 have b0:=z1R σ txt
 have b1:=z0V σ mt
 have b2:=z1Q σ any lo hi
 have b3:=z1h σ ⟨src,tgt,ra,rl,rh,eq⟩
 have b4:=z1j σ ls
 unfold ruV at b3
 refine Ans.of_run t126 ?_
 unfold reV reC z0q idR staR clkB
 simp only[hs_3,Bool.not_true,Bool.not_false,Bool.true_or,Bool.false_or,Bool.true_and,Bool.and_assoc]
 cases h0:decide (0≤id) with
 |false =>
  simp -implicitDefEqProofs only[c126,r126,go_sem,h0]
  exact Fini.ret rfl
 |true =>
 cases h1:decide (id≤2147483647) with
 |false =>
  simp -implicitDefEqProofs only[c126,r126,go_sem,h0,h1]
  exact Fini.ret rfl
 |true =>
 simp -implicitDefEqProofs only[c126,r126,go_sem,h0,h1]
 refine CO.intro b0 ?_
 cases h2:tokB txt with
 |false =>
  simp -implicitDefEqProofs only[go_sem,]
  exact Fini.ret rfl
 |true =>
 cases h3:decide (((st:Nat):Int)≤1099511627776) with
 |false =>
  simp -implicitDefEqProofs only[go_sem,h3]
  exact Fini.ret rfl
 |true =>
 cases h4:decide (((en:Nat):Int)≤1099511627776) with
 |false =>
  simp -implicitDefEqProofs only[go_sem,h3,h4]
  exact Fini.ret rfl
 |true =>
 cases h5:decide (0≤sta) with
 |false =>
  simp -implicitDefEqProofs only[go_sem,h3,h4,h5]
  exact Fini.ret rfl
 |true =>
 cases h6:decide (sta≤3) with
 |false =>
  simp -implicitDefEqProofs only[go_sem,h3,h4,h5,h6]
  exact Fini.ret rfl
 |true =>
 simp -implicitDefEqProofs only[go_sem,h3,h4,h5,h6]
 refine CO.intro b1 ?_
 cases h7:listB mt with
 |false =>
  simp -implicitDefEqProofs only[go_sem,]
  exact Fini.ret rfl
 |true =>
 simp -implicitDefEqProofs only[go_sem]
 exact Fini.ret rfl
end
section
variable (σ:St)
set_option maxHeartbeats 4000000 in
theorem zaV (r:ReM):Ans Tryz.prog 125 [reV r,I 116] σ (Bo (zeroB r 116)) σ:=by
 obtain⟨tok,op,id,txt,st,en,sta,mt,any,lo,hi,⟨src,tgt,ra,rl,rh,eq⟩,ls,val⟩:=r
 have b1:=z0N σ (any,lo,hi)
 have b2:=z0W σ ⟨src,tgt,ra,rl,rh,eq⟩
 have b3:=z0L σ val
 unfold bandV at b1
 unfold ruV at b2
 refine Ans.of_run t125 ?_
 unfold reV reC zeroB
 simp only[z7u,Bool.true_or,Bool.false_or,Bool.true_and]
 unfold emS
 unfold emI
 cases h0:(id==0) with
 |false =>
  simp -implicitDefEqProofs only[c125,r125,go_sem,h0]
  exact Fini.ret rfl
 |true =>
 cases h1:(txt.toList==(⟨#[]⟩:ByteArray).toList) with
 |false =>
  simp -implicitDefEqProofs only[c125,r125,go_sem,h0,h1]
  exact Fini.ret rfl
 |true =>
 cases h2:(sta==0) with
 |false =>
  simp -implicitDefEqProofs only[c125,r125,go_sem,h0,h1,h2]
  exact Fini.ret rfl
 |true =>
 simp -implicitDefEqProofs only[c125,r125,go_sem,h0,h1,h2]
 refine CO.intro b2 ?_
 cases h3:noRl ⟨src,tgt,ra,rl,rh,eq⟩ with
 |false =>
  simp -implicitDefEqProofs only[go_sem]
  exact Fini.ret rfl
 |true =>
 cases h4:(((ls.length:Nat):Int)==0) with
 |false =>
  simp -implicitDefEqProofs only[go_sem,h4]
  exact Fini.ret rfl
 |true =>
 simp -implicitDefEqProofs only[go_sem,h4]
 refine CO.intro b3 ?_
 cases h5:zF val with
 |false =>
  simp -implicitDefEqProofs only[go_sem]
  exact Fini.ret rfl
 |true =>
 simp -implicitDefEqProofs only[go_sem]
 exact Fini.ret rfl
set_option maxHeartbeats 4000000 in
theorem z9C (r:ReM):Ans Tryz.prog 126 [reV r,I 116] σ (Bo (z0q r 116)) σ:=by
 obtain⟨tok,op,id,txt,st,en,sta,mt,any,lo,hi,⟨src,tgt,ra,rl,rh,eq⟩,ls,val⟩:=r
 have b0:=z1R σ txt
 have b1:=z0V σ mt
 have b2:=z1Q σ any lo hi
 have b3:=z1h σ ⟨src,tgt,ra,rl,rh,eq⟩
 have b4:=z1j σ ls
 unfold ruV at b3
 refine Ans.of_run t126 ?_
 unfold reV reC z0q idR staR clkB
 simp only[z7u,Bool.not_true,Bool.not_false,Bool.true_or,Bool.false_or,Bool.true_and,Bool.and_assoc]
 cases h0:decide (0≤id) with
 |false =>
  simp -implicitDefEqProofs only[c126,r126,go_sem,h0]
  exact Fini.ret rfl
 |true =>
 cases h1:decide (id≤2147483647) with
 |false =>
  simp -implicitDefEqProofs only[c126,r126,go_sem,h0,h1]
  exact Fini.ret rfl
 |true =>
 cases h2:decide (((st:Nat):Int)≤1099511627776) with
 |false =>
  simp -implicitDefEqProofs only[c126,r126,go_sem,h0,h1,h2]
  exact Fini.ret rfl
 |true =>
 cases h3:decide (((en:Nat):Int)≤1099511627776) with
 |false =>
  simp -implicitDefEqProofs only[c126,r126,go_sem,h0,h1,h2,h3]
  exact Fini.ret rfl
 |true =>
 cases h4:decide (0≤sta) with
 |false =>
  simp -implicitDefEqProofs only[c126,r126,go_sem,h0,h1,h2,h3,h4]
  exact Fini.ret rfl
 |true =>
 cases h5:decide (sta≤3) with
 |false =>
  simp -implicitDefEqProofs only[c126,r126,go_sem,h0,h1,h2,h3,h4,h5]
  exact Fini.ret rfl
 |true =>
 simp -implicitDefEqProofs only[c126,r126,go_sem,h0,h1,h2,h3,h4,h5]
 refine CO.intro b1 ?_
 cases h6:listB mt with
 |false =>
  simp -implicitDefEqProofs only[go_sem,]
  exact Fini.ret rfl
 |true =>
 have hl:=z3u mt.length
 cases h7:(!emI mt.length) with
 |false =>
  rw[h7]at hl
  simp -implicitDefEqProofs only[go_sem,hl]
  exact Fini.ret rfl
 |true =>
 rw[h7]at hl
 simp -implicitDefEqProofs only[go_sem,hl]
 refine CO.intro b2 ?_
 cases h8:mayB any lo hi with
 |false =>
  simp -implicitDefEqProofs only[go_sem,]
  exact Fini.ret rfl
 |true =>
 simp -implicitDefEqProofs only[go_sem]
 exact Fini.ret rfl
set_option maxHeartbeats 4000000 in
theorem zaW (r:ReM):Ans Tryz.prog 125 [reV r,I 117] σ (Bo (zeroB r 117)) σ:=by
 obtain⟨tok,op,id,txt,st,en,sta,mt,any,lo,hi,⟨src,tgt,ra,rl,rh,eq⟩,ls,val⟩:=r
 have b1:=z0N σ (any,lo,hi)
 have b2:=z0W σ ⟨src,tgt,ra,rl,rh,eq⟩
 have b3:=z0L σ val
 unfold bandV at b1
 unfold ruV at b2
 refine Ans.of_run t125 ?_
 unfold reV reC zeroB
 simp only[z7v,Bool.true_or,Bool.false_or,Bool.true_and]
 unfold emS
 unfold emI
 cases h0:(txt.toList==(⟨#[]⟩:ByteArray).toList) with
 |false =>
  simp -implicitDefEqProofs only[c125,r125,go_sem,h0]
  exact Fini.ret rfl
 |true =>
 cases h1:(sta==0) with
 |false =>
  simp -implicitDefEqProofs only[c125,r125,go_sem,h0,h1]
  exact Fini.ret rfl
 |true =>
 simp -implicitDefEqProofs only[c125,r125,go_sem,h0,h1]
 refine CO.intro b2 ?_
 cases h2:noRl ⟨src,tgt,ra,rl,rh,eq⟩ with
 |false =>
  simp -implicitDefEqProofs only[go_sem]
  exact Fini.ret rfl
 |true =>
 cases h3:(((ls.length:Nat):Int)==0) with
 |false =>
  simp -implicitDefEqProofs only[go_sem,h3]
  exact Fini.ret rfl
 |true =>
 simp -implicitDefEqProofs only[go_sem,h3]
 refine CO.intro b3 ?_
 cases h4:zF val with
 |false =>
  simp -implicitDefEqProofs only[go_sem]
  exact Fini.ret rfl
 |true =>
 simp -implicitDefEqProofs only[go_sem]
 exact Fini.ret rfl
set_option maxHeartbeats 4000000 in
theorem z9D (r:ReM):Ans Tryz.prog 126 [reV r,I 117] σ (Bo (z0q r 117)) σ:=by
 obtain⟨tok,op,id,txt,st,en,sta,mt,any,lo,hi,⟨src,tgt,ra,rl,rh,eq⟩,ls,val⟩:=r
 have b0:=z1R σ txt
 have b1:=z0V σ mt
 have b2:=z1Q σ any lo hi
 have b3:=z1h σ ⟨src,tgt,ra,rl,rh,eq⟩
 have b4:=z1j σ ls
 unfold ruV at b3
 refine Ans.of_run t126 ?_
 unfold reV reC z0q idR staR clkB
 simp only[z7v,Bool.not_true,Bool.not_false,Bool.true_or,Bool.false_or,Bool.true_and,Bool.and_assoc]
 cases h0:decide (0≤id) with
 |false =>
  simp -implicitDefEqProofs only[c126,r126,go_sem,h0]
  exact Fini.ret rfl
 |true =>
 cases h1:decide (id≤2147483647) with
 |false =>
  simp -implicitDefEqProofs only[c126,r126,go_sem,h0,h1]
  exact Fini.ret rfl
 |true =>
 cases h2:decide (((st:Nat):Int)≤1099511627776) with
 |false =>
  simp -implicitDefEqProofs only[c126,r126,go_sem,h0,h1,h2]
  exact Fini.ret rfl
 |true =>
 cases h3:decide (((en:Nat):Int)≤1099511627776) with
 |false =>
  simp -implicitDefEqProofs only[c126,r126,go_sem,h0,h1,h2,h3]
  exact Fini.ret rfl
 |true =>
 cases h4:decide (0≤sta) with
 |false =>
  simp -implicitDefEqProofs only[c126,r126,go_sem,h0,h1,h2,h3,h4]
  exact Fini.ret rfl
 |true =>
 cases h5:decide (sta≤3) with
 |false =>
  simp -implicitDefEqProofs only[c126,r126,go_sem,h0,h1,h2,h3,h4,h5]
  exact Fini.ret rfl
 |true =>
 simp -implicitDefEqProofs only[c126,r126,go_sem,h0,h1,h2,h3,h4,h5]
 refine CO.intro b1 ?_
 cases h6:listB mt with
 |false =>
  simp -implicitDefEqProofs only[go_sem,]
  exact Fini.ret rfl
 |true =>
 have hl:=z3u mt.length
 cases h7:(!emI mt.length) with
 |false =>
  rw[h7]at hl
  simp -implicitDefEqProofs only[go_sem,hl]
  exact Fini.ret rfl
 |true =>
 rw[h7]at hl
 simp -implicitDefEqProofs only[go_sem,hl]
 refine CO.intro b2 ?_
 cases h8:mayB any lo hi with
 |false =>
  simp -implicitDefEqProofs only[go_sem,]
  exact Fini.ret rfl
 |true =>
 simp -implicitDefEqProofs only[go_sem]
 exact Fini.ret rfl
end
section
variable (σ:St)
set_option maxHeartbeats 4000000 in
theorem zcY (r:ReM):Ans Tryz.prog 125 [reV r,I 8] σ (Bo (zeroB r 8)) σ:=by
 obtain⟨tok,op,id,txt,st,en,sta,mt,any,lo,hi,⟨src,tgt,ra,rl,rh,eq⟩,ls,val⟩:=r
 have b1:=z0N σ (any,lo,hi)
 have b2:=z0W σ ⟨src,tgt,ra,rl,rh,eq⟩
 have b3:=z0L σ val
 unfold bandV at b1
 unfold ruV at b2
 refine Ans.of_run t125 ?_
 unfold reV reC zeroB
 simp only[hs_8,Bool.true_or,Bool.false_or,Bool.true_and]
 unfold emS
 unfold emU
 unfold emI
 cases h0:(id==0) with
 |false =>
  simp -implicitDefEqProofs only[c125,r125,go_sem,h0]
  exact Fini.ret rfl
 |true =>
 cases h1:(txt.toList==(⟨#[]⟩:ByteArray).toList) with
 |false =>
  simp -implicitDefEqProofs only[c125,r125,go_sem,h0,h1]
  exact Fini.ret rfl
 |true =>
 cases h2:(((st:Nat):Int)==0) with
 |false =>
  simp -implicitDefEqProofs only[c125,r125,go_sem,h0,h1,h2]
  exact Fini.ret rfl
 |true =>
 cases h3:(((en:Nat):Int)==0) with
 |false =>
  simp -implicitDefEqProofs only[c125,r125,go_sem,h0,h1,h2,h3]
  exact Fini.ret rfl
 |true =>
 cases h4:(((mt.length:Nat):Int)==0) with
 |false =>
  simp -implicitDefEqProofs only[c125,r125,go_sem,h0,h1,h2,h3,h4]
  exact Fini.ret rfl
 |true =>
 simp -implicitDefEqProofs only[c125,r125,go_sem,h0,h1,h2,h3,h4]
 refine CO.intro b1 ?_
 cases h5:noBd (any,lo,hi) with
 |false =>
  simp -implicitDefEqProofs only[go_sem]
  exact Fini.ret rfl
 |true =>
 simp -implicitDefEqProofs only[go_sem]
 refine CO.intro b2 ?_
 cases h6:noRl ⟨src,tgt,ra,rl,rh,eq⟩ with
 |false =>
  simp -implicitDefEqProofs only[go_sem]
  exact Fini.ret rfl
 |true =>
 cases h7:(((ls.length:Nat):Int)==0) with
 |false =>
  simp -implicitDefEqProofs only[go_sem,h7]
  exact Fini.ret rfl
 |true =>
 simp -implicitDefEqProofs only[go_sem,h7]
 refine CO.intro b3 ?_
 cases h8:zF val with
 |false =>
  simp -implicitDefEqProofs only[go_sem]
  exact Fini.ret rfl
 |true =>
 simp -implicitDefEqProofs only[go_sem]
 exact Fini.ret rfl
set_option maxHeartbeats 4000000 in
theorem zcm (r:ReM):Ans Tryz.prog 126 [reV r,I 8] σ (Bo (z0q r 8)) σ:=by
 obtain⟨tok,op,id,txt,st,en,sta,mt,any,lo,hi,⟨src,tgt,ra,rl,rh,eq⟩,ls,val⟩:=r
 have b0:=z1R σ txt
 have b1:=z0V σ mt
 have b2:=z1Q σ any lo hi
 have b3:=z1h σ ⟨src,tgt,ra,rl,rh,eq⟩
 have b4:=z1j σ ls
 unfold ruV at b3
 refine Ans.of_run t126 ?_
 unfold reV reC z0q idR staR clkB
 simp only[hs_8,Bool.not_true,Bool.not_false,Bool.true_or,Bool.false_or,Bool.true_and,Bool.and_assoc]
 cases h0:decide (0≤id) with
 |false =>
  simp -implicitDefEqProofs only[c126,r126,go_sem,h0]
  exact Fini.ret rfl
 |true =>
 cases h1:decide (id≤2147483647) with
 |false =>
  simp -implicitDefEqProofs only[c126,r126,go_sem,h0,h1]
  exact Fini.ret rfl
 |true =>
 cases h2:decide (((st:Nat):Int)≤1099511627776) with
 |false =>
  simp -implicitDefEqProofs only[c126,r126,go_sem,h0,h1,h2]
  exact Fini.ret rfl
 |true =>
 cases h3:decide (((en:Nat):Int)≤1099511627776) with
 |false =>
  simp -implicitDefEqProofs only[c126,r126,go_sem,h0,h1,h2,h3]
  exact Fini.ret rfl
 |true =>
 cases h4:decide (0≤sta) with
 |false =>
  simp -implicitDefEqProofs only[c126,r126,go_sem,h0,h1,h2,h3,h4]
  exact Fini.ret rfl
 |true =>
 cases h5:decide (sta≤3) with
 |false =>
  simp -implicitDefEqProofs only[c126,r126,go_sem,h0,h1,h2,h3,h4,h5]
  exact Fini.ret rfl
 |true =>
 simp -implicitDefEqProofs only[c126,r126,go_sem,h0,h1,h2,h3,h4,h5]
 refine CO.intro b1 ?_
 cases h6:listB mt with
 |false =>
  simp -implicitDefEqProofs only[go_sem,]
  exact Fini.ret rfl
 |true =>
 simp -implicitDefEqProofs only[go_sem]
 exact Fini.ret rfl
set_option maxHeartbeats 4000000 in
theorem zaX (r:ReM):Ans Tryz.prog 125 [reV r,I 128] σ (Bo (zeroB r 128)) σ:=by
 obtain⟨tok,op,id,txt,st,en,sta,mt,any,lo,hi,⟨src,tgt,ra,rl,rh,eq⟩,ls,val⟩:=r
 have b1:=z0N σ (any,lo,hi)
 have b2:=z0W σ ⟨src,tgt,ra,rl,rh,eq⟩
 have b3:=z0L σ val
 unfold bandV at b1
 unfold ruV at b2
 refine Ans.of_run t125 ?_
 unfold reV reC zeroB
 simp only[z7w,Bool.true_or,Bool.false_or,Bool.true_and]
 unfold emS
 unfold emU
 unfold emI
 cases h0:(id==0) with
 |false =>
  simp -implicitDefEqProofs only[c125,r125,go_sem,h0]
  exact Fini.ret rfl
 |true =>
 cases h1:(txt.toList==(⟨#[]⟩:ByteArray).toList) with
 |false =>
  simp -implicitDefEqProofs only[c125,r125,go_sem,h0,h1]
  exact Fini.ret rfl
 |true =>
 cases h2:(((st:Nat):Int)==0) with
 |false =>
  simp -implicitDefEqProofs only[c125,r125,go_sem,h0,h1,h2]
  exact Fini.ret rfl
 |true =>
 cases h3:(((en:Nat):Int)==0) with
 |false =>
  simp -implicitDefEqProofs only[c125,r125,go_sem,h0,h1,h2,h3]
  exact Fini.ret rfl
 |true =>
 cases h4:(sta==0) with
 |false =>
  simp -implicitDefEqProofs only[c125,r125,go_sem,h0,h1,h2,h3,h4]
  exact Fini.ret rfl
 |true =>
 cases h5:(((mt.length:Nat):Int)==0) with
 |false =>
  simp -implicitDefEqProofs only[c125,r125,go_sem,h0,h1,h2,h3,h4,h5]
  exact Fini.ret rfl
 |true =>
 simp -implicitDefEqProofs only[c125,r125,go_sem,h0,h1,h2,h3,h4,h5]
 refine CO.intro b1 ?_
 cases h6:noBd (any,lo,hi) with
 |false =>
  simp -implicitDefEqProofs only[go_sem]
  exact Fini.ret rfl
 |true =>
 cases h7:(((ls.length:Nat):Int)==0) with
 |false =>
  simp -implicitDefEqProofs only[go_sem,h7]
  exact Fini.ret rfl
 |true =>
 simp -implicitDefEqProofs only[go_sem,h7]
 refine CO.intro b3 ?_
 cases h8:zF val with
 |false =>
  simp -implicitDefEqProofs only[go_sem]
  exact Fini.ret rfl
 |true =>
 simp -implicitDefEqProofs only[go_sem]
 exact Fini.ret rfl
set_option maxHeartbeats 4000000 in
theorem z9E (r:ReM):Ans Tryz.prog 126 [reV r,I 128] σ (Bo (z0q r 128)) σ:=by
 obtain⟨tok,op,id,txt,st,en,sta,mt,any,lo,hi,⟨src,tgt,ra,rl,rh,eq⟩,ls,val⟩:=r
 have b0:=z1R σ txt
 have b1:=z0V σ mt
 have b2:=z1Q σ any lo hi
 have b3:=z1h σ ⟨src,tgt,ra,rl,rh,eq⟩
 have b4:=z1j σ ls
 unfold ruV at b3
 refine Ans.of_run t126 ?_
 unfold reV reC z0q idR staR clkB
 simp only[z7w,Bool.not_true,Bool.not_false,Bool.true_or,Bool.false_or,Bool.true_and,Bool.and_assoc]
 cases h0:decide (0≤id) with
 |false =>
  simp -implicitDefEqProofs only[c126,r126,go_sem,h0]
  exact Fini.ret rfl
 |true =>
 cases h1:decide (id≤2147483647) with
 |false =>
  simp -implicitDefEqProofs only[c126,r126,go_sem,h0,h1]
  exact Fini.ret rfl
 |true =>
 cases h2:decide (((st:Nat):Int)≤1099511627776) with
 |false =>
  simp -implicitDefEqProofs only[c126,r126,go_sem,h0,h1,h2]
  exact Fini.ret rfl
 |true =>
 cases h3:decide (((en:Nat):Int)≤1099511627776) with
 |false =>
  simp -implicitDefEqProofs only[c126,r126,go_sem,h0,h1,h2,h3]
  exact Fini.ret rfl
 |true =>
 cases h4:decide (0≤sta) with
 |false =>
  simp -implicitDefEqProofs only[c126,r126,go_sem,h0,h1,h2,h3,h4]
  exact Fini.ret rfl
 |true =>
 cases h5:decide (sta≤3) with
 |false =>
  simp -implicitDefEqProofs only[c126,r126,go_sem,h0,h1,h2,h3,h4,h5]
  exact Fini.ret rfl
 |true =>
 simp -implicitDefEqProofs only[c126,r126,go_sem,h0,h1,h2,h3,h4,h5]
 refine CO.intro b1 ?_
 cases h6:listB mt with
 |false =>
  simp -implicitDefEqProofs only[go_sem,]
  exact Fini.ret rfl
 |true =>
 simp -implicitDefEqProofs only[go_sem]
 refine CO.intro b3 ?_
 cases h7:ruIs ⟨src,tgt,ra,rl,rh,eq⟩ with
 |false =>
  simp -implicitDefEqProofs only[go_sem,]
  exact Fini.ret rfl
 |true =>
 simp -implicitDefEqProofs only[go_sem]
 exact Fini.ret rfl
end
section
variable (σ:St)
set_option maxHeartbeats 4000000 in
theorem zaY (r:ReM):Ans Tryz.prog 125 [reV r,I 768] σ (Bo (zeroB r 768)) σ:=by
 obtain⟨tok,op,id,txt,st,en,sta,mt,any,lo,hi,⟨src,tgt,ra,rl,rh,eq⟩,ls,val⟩:=r
 have b1:=z0N σ (any,lo,hi)
 have b2:=z0W σ ⟨src,tgt,ra,rl,rh,eq⟩
 have b3:=z0L σ val
 unfold bandV at b1
 unfold ruV at b2
 refine Ans.of_run t125 ?_
 unfold reV reC zeroB
 simp only[z7x,Bool.true_or,Bool.false_or,Bool.true_and]
 unfold emS
 unfold emU
 unfold emI
 cases h0:(id==0) with
 |false =>
  simp -implicitDefEqProofs only[c125,r125,go_sem,h0]
  exact Fini.ret rfl
 |true =>
 cases h1:(txt.toList==(⟨#[]⟩:ByteArray).toList) with
 |false =>
  simp -implicitDefEqProofs only[c125,r125,go_sem,h0,h1]
  exact Fini.ret rfl
 |true =>
 cases h2:(((st:Nat):Int)==0) with
 |false =>
  simp -implicitDefEqProofs only[c125,r125,go_sem,h0,h1,h2]
  exact Fini.ret rfl
 |true =>
 cases h3:(((en:Nat):Int)==0) with
 |false =>
  simp -implicitDefEqProofs only[c125,r125,go_sem,h0,h1,h2,h3]
  exact Fini.ret rfl
 |true =>
 cases h4:(sta==0) with
 |false =>
  simp -implicitDefEqProofs only[c125,r125,go_sem,h0,h1,h2,h3,h4]
  exact Fini.ret rfl
 |true =>
 cases h5:(((mt.length:Nat):Int)==0) with
 |false =>
  simp -implicitDefEqProofs only[c125,r125,go_sem,h0,h1,h2,h3,h4,h5]
  exact Fini.ret rfl
 |true =>
 simp -implicitDefEqProofs only[c125,r125,go_sem,h0,h1,h2,h3,h4,h5]
 refine CO.intro b1 ?_
 cases h6:noBd (any,lo,hi) with
 |false =>
  simp -implicitDefEqProofs only[go_sem]
  exact Fini.ret rfl
 |true =>
 simp -implicitDefEqProofs only[go_sem]
 refine CO.intro b2 ?_
 cases h7:noRl ⟨src,tgt,ra,rl,rh,eq⟩ with
 |false =>
  simp -implicitDefEqProofs only[go_sem]
  exact Fini.ret rfl
 |true =>
 simp -implicitDefEqProofs only[go_sem]
 exact Fini.ret rfl
set_option maxHeartbeats 4000000 in
theorem z9F (r:ReM):Ans Tryz.prog 126 [reV r,I 768] σ (Bo (z0q r 768)) σ:=by
 obtain⟨tok,op,id,txt,st,en,sta,mt,any,lo,hi,⟨src,tgt,ra,rl,rh,eq⟩,ls,val⟩:=r
 have b0:=z1R σ txt
 have b1:=z0V σ mt
 have b2:=z1Q σ any lo hi
 have b3:=z1h σ ⟨src,tgt,ra,rl,rh,eq⟩
 have b4:=z1j σ ls
 unfold ruV at b3
 refine Ans.of_run t126 ?_
 unfold reV reC z0q idR staR clkB
 simp only[z7x,Bool.not_true,Bool.not_false,Bool.true_or,Bool.false_or,Bool.true_and,Bool.and_assoc]
 cases h0:decide (0≤id) with
 |false =>
  simp -implicitDefEqProofs only[c126,r126,go_sem,h0]
  exact Fini.ret rfl
 |true =>
 cases h1:decide (id≤2147483647) with
 |false =>
  simp -implicitDefEqProofs only[c126,r126,go_sem,h0,h1]
  exact Fini.ret rfl
 |true =>
 cases h2:decide (((st:Nat):Int)≤1099511627776) with
 |false =>
  simp -implicitDefEqProofs only[c126,r126,go_sem,h0,h1,h2]
  exact Fini.ret rfl
 |true =>
 cases h3:decide (((en:Nat):Int)≤1099511627776) with
 |false =>
  simp -implicitDefEqProofs only[c126,r126,go_sem,h0,h1,h2,h3]
  exact Fini.ret rfl
 |true =>
 cases h4:decide (0≤sta) with
 |false =>
  simp -implicitDefEqProofs only[c126,r126,go_sem,h0,h1,h2,h3,h4]
  exact Fini.ret rfl
 |true =>
 cases h5:decide (sta≤3) with
 |false =>
  simp -implicitDefEqProofs only[c126,r126,go_sem,h0,h1,h2,h3,h4,h5]
  exact Fini.ret rfl
 |true =>
 simp -implicitDefEqProofs only[c126,r126,go_sem,h0,h1,h2,h3,h4,h5]
 refine CO.intro b1 ?_
 cases h6:listB mt with
 |false =>
  simp -implicitDefEqProofs only[go_sem,]
  exact Fini.ret rfl
 |true =>
 simp -implicitDefEqProofs only[go_sem]
 refine CO.intro b4 ?_
 cases h7:setB ls with
 |false =>
  simp -implicitDefEqProofs only[go_sem,]
  exact Fini.ret rfl
 |true =>
 simp -implicitDefEqProofs only[go_sem]
 exact Fini.ret rfl
set_option maxHeartbeats 4000000 in
theorem zcn (r:ReM):Ans Tryz.prog 125 [reV r,I 16] σ (Bo (zeroB r 16)) σ:=by
 obtain⟨tok,op,id,txt,st,en,sta,mt,any,lo,hi,⟨src,tgt,ra,rl,rh,eq⟩,ls,val⟩:=r
 have b1:=z0N σ (any,lo,hi)
 have b2:=z0W σ ⟨src,tgt,ra,rl,rh,eq⟩
 have b3:=z0L σ val
 unfold bandV at b1
 unfold ruV at b2
 refine Ans.of_run t125 ?_
 unfold reV reC zeroB
 simp only[hs_16,Bool.true_or,Bool.false_or,Bool.true_and]
 unfold emS
 unfold emU
 unfold emI
 cases h0:(id==0) with
 |false =>
  simp -implicitDefEqProofs only[c125,r125,go_sem,h0]
  exact Fini.ret rfl
 |true =>
 cases h1:(txt.toList==(⟨#[]⟩:ByteArray).toList) with
 |false =>
  simp -implicitDefEqProofs only[c125,r125,go_sem,h0,h1]
  exact Fini.ret rfl
 |true =>
 cases h2:(((st:Nat):Int)==0) with
 |false =>
  simp -implicitDefEqProofs only[c125,r125,go_sem,h0,h1,h2]
  exact Fini.ret rfl
 |true =>
 cases h3:(((en:Nat):Int)==0) with
 |false =>
  simp -implicitDefEqProofs only[c125,r125,go_sem,h0,h1,h2,h3]
  exact Fini.ret rfl
 |true =>
 cases h4:(sta==0) with
 |false =>
  simp -implicitDefEqProofs only[c125,r125,go_sem,h0,h1,h2,h3,h4]
  exact Fini.ret rfl
 |true =>
 simp -implicitDefEqProofs only[c125,r125,go_sem,h0,h1,h2,h3,h4]
 refine CO.intro b1 ?_
 cases h5:noBd (any,lo,hi) with
 |false =>
  simp -implicitDefEqProofs only[go_sem]
  exact Fini.ret rfl
 |true =>
 simp -implicitDefEqProofs only[go_sem]
 refine CO.intro b2 ?_
 cases h6:noRl ⟨src,tgt,ra,rl,rh,eq⟩ with
 |false =>
  simp -implicitDefEqProofs only[go_sem]
  exact Fini.ret rfl
 |true =>
 cases h7:(((ls.length:Nat):Int)==0) with
 |false =>
  simp -implicitDefEqProofs only[go_sem,h7]
  exact Fini.ret rfl
 |true =>
 simp -implicitDefEqProofs only[go_sem,h7]
 refine CO.intro b3 ?_
 cases h8:zF val with
 |false =>
  simp -implicitDefEqProofs only[go_sem]
  exact Fini.ret rfl
 |true =>
 simp -implicitDefEqProofs only[go_sem]
 exact Fini.ret rfl
set_option maxHeartbeats 4000000 in
theorem zaZ (r:ReM):Ans Tryz.prog 126 [reV r,I 16] σ (Bo (z0q r 16)) σ:=by
 obtain⟨tok,op,id,txt,st,en,sta,mt,any,lo,hi,⟨src,tgt,ra,rl,rh,eq⟩,ls,val⟩:=r
 have b0:=z1R σ txt
 have b1:=z0V σ mt
 have b2:=z1Q σ any lo hi
 have b3:=z1h σ ⟨src,tgt,ra,rl,rh,eq⟩
 have b4:=z1j σ ls
 unfold ruV at b3
 refine Ans.of_run t126 ?_
 unfold reV reC z0q idR staR clkB
 simp only[hs_16,Bool.not_true,Bool.not_false,Bool.true_or,Bool.false_or,Bool.true_and,Bool.and_assoc]
 cases h0:decide (0≤id) with
 |false =>
  simp -implicitDefEqProofs only[c126,r126,go_sem,h0]
  exact Fini.ret rfl
 |true =>
 cases h1:decide (id≤2147483647) with
 |false =>
  simp -implicitDefEqProofs only[c126,r126,go_sem,h0,h1]
  exact Fini.ret rfl
 |true =>
 cases h2:decide (((st:Nat):Int)≤1099511627776) with
 |false =>
  simp -implicitDefEqProofs only[c126,r126,go_sem,h0,h1,h2]
  exact Fini.ret rfl
 |true =>
 cases h3:decide (((en:Nat):Int)≤1099511627776) with
 |false =>
  simp -implicitDefEqProofs only[c126,r126,go_sem,h0,h1,h2,h3]
  exact Fini.ret rfl
 |true =>
 cases h4:decide (0≤sta) with
 |false =>
  simp -implicitDefEqProofs only[c126,r126,go_sem,h0,h1,h2,h3,h4]
  exact Fini.ret rfl
 |true =>
 cases h5:decide (sta≤3) with
 |false =>
  simp -implicitDefEqProofs only[c126,r126,go_sem,h0,h1,h2,h3,h4,h5]
  exact Fini.ret rfl
 |true =>
 simp -implicitDefEqProofs only[c126,r126,go_sem,h0,h1,h2,h3,h4,h5]
 refine CO.intro b1 ?_
 cases h6:listB mt with
 |false =>
  simp -implicitDefEqProofs only[go_sem,]
  exact Fini.ret rfl
 |true =>
 simp -implicitDefEqProofs only[go_sem]
 exact Fini.ret rfl
end
section
variable (σ:St)
theorem z9G (r:ReM) (op:Int):Ans Tryz.prog 125 [reV r,I (fOf op).1] σ (Bo (zeroB r (fOf op).1)) σ:=by
 have h:=z9B op
 generalize (fOf op).1=f at h
 simp only[List.mem_cons,List.not_mem_nil,or_false]at h
 rcases h with rfl|rfl|rfl|rfl|rfl|rfl|rfl|rfl|rfl
 · exact zcV σ r
 · exact zcW σ r
 · exact zcX σ r
 · exact zaV σ r
 · exact zaW σ r
 · exact zcY σ r
 · exact zaX σ r
 · exact zaY σ r
 · exact zcn σ r
theorem z8a (r:ReM) (op:Int):Ans Tryz.prog 126 [reV r,I (fOf op).1] σ (Bo (z0q r (fOf op).1)) σ:=by
 have h:=z9B op
 generalize (fOf op).1=f at h
 simp only[List.mem_cons,List.not_mem_nil,or_false]at h
 rcases h with rfl|rfl|rfl|rfl|rfl|rfl|rfl|rfl|rfl
 · exact zcj σ r
 · exact zck σ r
 · exact zcl σ r
 · exact z9C σ r
 · exact z9D σ r
 · exact zcm σ r
 · exact z9E σ r
 · exact z9F σ r
 · exact zaZ σ r
theorem z7y (r:ReM):Ans Tryz.prog 87 [reV r] σ (Bo (mayR r)) σ:=by
 have h1:=z52 σ r.op
 have h2:=z9G σ r r.op
 have h3:=z8a σ r r.op
 refine Ans.of_run t87 ?_
 unfold mayR
 unfold reV reC at *
 simp -implicitDefEqProofs only[c87,r87,go_sem]
 refine CO.intro h1 ?_
 cases(fOf r.op).2 with
 |false =>
  simp -implicitDefEqProofs only[go_sem]
  exact Fini.ret rfl
 |true =>
  simp -implicitDefEqProofs only[go_sem]
  refine CO.intro h2 ?_
  cases zeroB r (fOf r.op).1 with
  |false =>
   simp -implicitDefEqProofs only[go_sem]
   exact Fini.ret rfl
  |true =>
   simp -implicitDefEqProofs only[go_sem]
   refine CO.intro h3 ?_
   simp -implicitDefEqProofs only[go_sem]
   exact Fini.ret rfl
theorem z7z (r:ReM):Ans Tryz.prog 35 [reV r] σ (Bo (reIs r)) σ:=by
 have h1:=z1R σ r.tok
 have h2:=z7y σ r
 refine Ans.of_run t35 ?_
 unfold reIs
 unfold reV reC at *
 simp -implicitDefEqProofs only[c35,r35,go_sem]
 refine CO.intro h1 ?_
 cases tokB r.tok with
 |false =>
  simp -implicitDefEqProofs only[go_sem]
  exact Fini.ret rfl
 |true =>
  simp -implicitDefEqProofs only[go_sem]
  refine CO.intro h2 ?_
  simp -implicitDefEqProofs only[go_sem]
  exact Fini.ret rfl
end
def x0 (op:Int):ReM:=⟨⟨#[]⟩,op,0,⟨#[]⟩,0,0,0,[],false,0,0,noRu,[],0⟩
def opC (op:Int):UInt8:=op.toNat.toUInt8
def layF (f k:Int) (ps:List Byt) (B:Byt):Byt:=if hasF f k then B++ps.flatten else B
def putB1 (f:Int) (r:ReM):Byt:=layF f 4 [putN r.st,putN r.en] (layF f 2 [txtB r.txt] (layF f 1 [putN r.id.toNat] [opC r.op]))
def putB2 (f:Int) (r:ReM):Byt:=layF f 64 [putBd (r.any,r.lo,r.hi)] (layF f 16 [z14 r.mt] (layF f 8 [[opC r.sta]] (putB1 f r)))
def z0k (f:Int) (r:ReM):Byt:=layF f 512 [putV r.val] (layF f 256 [z1s r.ls] (layF f 128 [z0S r.ru] (putB2 f r)))
def z2v (r:ReM):Byt:=if mayR r then z0k (fOf r.op).1 r else[]
def laid (σ:St) (B:Byt):St:=σ++[.row 1 (byv B),.box [.osl σ.length B.length]]
theorem z3F {c:Int} (h:0≤c) (h1:c≤17):IntKind.u8.wrap c=(((opC c).toNat:Nat):Int):=by
 obtain⟨n,rfl⟩:=Int.eq_ofNat_of_zero_le h
 have:n<18:=by omega
 match n,this with
 |0,_|1,_|2,_|3,_|4,_|5,_|6,_|7,_|8,_|9,_|10,_|11,_|12,_|13,_|14,_|15,_|16,_|17,_=>rfl
section
variable (σ:St)
theorem z28 (f k:Int) (ps:List Byt) (B:Byt) (hp:hasF f k=true→0<ps.flatten.length) (hps:ps.length≤100) (hl:ps.flatten.length≤1000000) (hB:B.length≤1000000) :
  Ans Tryz.prog 91 [I k,.sl 1 (bsv ps),.rp [I f],.ptr (σ.length+1) 0] (laid σ B) (.tup []) (laid σ (layF f k ps B)):=by
 have e:decide (0<aI f k)=hasF f k:=rfl
 unfold layF
 cases hF:hasF f k with
 |false =>
  rw[hF]at e
  unfold laid
  refine Ans.of_run t91 ?_
  simp -implicitDefEqProofs only[c91,r91,go_sem,e]
  exact Fini.normal rfl
 |true =>
  rw[hF]at e
  have hc:=fun s=>z64 s ps hps (hp hF) hl
  have q1:B.length+ps.flatten.length≤4294967296:=by omega
  unfold laid
  refine Ans.of_run t91 ?_
  simp -implicitDefEqProofs only[c91,r91,go_sem,e,g1]
  refine CD.intro (hc _) ?_
  simp -implicitDefEqProofs only[go_sem,g0,s0,g1,s1,z06,z0b,bc,q1]
  simp only[if_true,z08,List.length_append]
  exact Fini.normal rfl
theorem z0D {f k:Int} {ps:List Byt} {B:Byt} {n m:Nat} (hB:B.length≤n) (hp:hasF f k=true→ps.flatten.length≤m):(layF f k ps B).length≤n+m:=by
 unfold layF
 split
 · rename_i h
   have:=hp h
   rw[List.length_append];omega
 · omega
structure BdOk (r:ReM):Prop where
 op0:0≤r.op
 op1:r.op≤17
 id0:0≤r.id
 id1:r.id≤2147483647
 txt:r.txt.size≤16
 st:r.st≤1099511627776
 en:r.en≤1099511627776
 sta0:0≤r.sta
 sta1:r.sta≤3
 mt:listB r.mt=true
 ru:hasF (fOf r.op).1 128=true→ruIs r.ru=true
 ls:hasF (fOf r.op).1 256=true→setB r.ls=true
theorem bd_ok {r:ReM} (h:mayR r=true):BdOk r:=by
 have hop:1≤r.op∧r.op≤17:=by
  have:(fOf r.op).2=true:=by unfold mayR at h;simp only[Bool.and_eq_true]at h;exact h.1
  unfold fOf at this
  split at this
  · assumption
  · cases this
 unfold mayR at h
 simp only[Bool.and_eq_true]at h
 obtain⟨_,hz,hr⟩:=h
 unfold zeroB at hz
 unfold z0q idR clkB staR at hr
 simp only[Bool.and_eq_true,Bool.or_eq_true,decide_eq_true_eq,Bool.not_eq_true']at hz hr
 obtain⟨hid,htx,hst,hen,hsta,hmt,_,_,hru,hls⟩:=hr
 refine⟨by omega,hop.2,hid.1,hid.2,?_,by omega,by omega,hsta.1,hsta.2,hmt,fun h=>?_,fun h=>?_⟩
 · rcases htx with h|h
   · rcases hz.2.1 with h'|h'
     · rw[h]at h';cases h'
     · unfold emS at h'
       have:=eq_of_beq h'
       rw[ByteArray.toList_eq,ByteArray.toList_eq]at this
       have h0:r.txt.size=0:=by rw[←z2d,this];rfl
       omega
   · unfold tokB at h
     simp only[Bool.and_eq_true,decide_eq_true_eq]at h
     omega
 · rcases hru with h'|h'
   · rw[h]at h';cases h'
   · exact h'
 · rcases hls with h'|h'
   · rw[h]at h';cases h'
   · exact h'
theorem z4q {M:List Mtr} (h:listB M=true):0<([z14 M]:List Byt).flatten.length∧([z14 M]:List Byt).flatten.length≤510:=by
 have e:z14 M=putL M:=by unfold z14;rw[h];rfl
 have:=z5r M
 have:=z5q h
 simp only[List.flatten_cons,List.flatten_nil,List.append_nil,e]
 omega
theorem z68 {r:RuM} (h:ruIs r=true):0<([z0S r]:List Byt).flatten.length∧([z0S r]:List Byt).flatten.length≤100000:=by
 have e:z0S r=putR r:=by unfold z0S;rw[h];rfl
 have h0:=z5p r
 have h1:=z3D h r.eq.length (Nat.le_refl _)
 have h5:=(z32 h).2.2.2.1
 rw[h0]at h1
 have hp:0<(putR r).length:=by
  have:=z5r r.src
  unfold putR
  simp only[List.length_append];omega
 simp only[List.flatten_cons,List.flatten_nil,List.append_nil,e]
 omega
theorem z69 {L:List Lab} (h:setB L=true):0<([z1s L]:List Byt).flatten.length∧([z1s L]:List Byt).flatten.length≤1000:=by
 have e:z1s L=z51 L:=by unfold z1s;rw[h];rfl
 have h0:=z5v L
 have h1:=z3E h L.length (Nat.le_refl _)
 have h2:=(z4n h).1
 rw[h0]at h1
 have hp:0<(z51 L).length:=by
  have:=z3U L.length
  unfold z51 z2e
  cases h:putN L.length with
  |nil=>exact absurd h this
  |cons a b=>simp
 simp only[List.flatten_cons,List.flatten_nil,List.append_nil,e]
 omega
end
theorem z6O (r:RuM):([z0S r]:List Byt).flatten.length≤100000:=by
 cases h:ruIs r with
 |true=>exact(z68 h).2
 |false=>unfold z0S;rw[h];exact Nat.zero_le _
theorem z6P (L:List Lab):([z1s L]:List Byt).flatten.length≤1000:=by
 cases h:setB L with
 |true=>exact(z69 h).2
 |false=>unfold z1s;rw[h];exact Nat.zero_le _
section
variable (σ:St)
set_option maxHeartbeats 4000000 in
theorem z7A (r:ReM):Ans Tryz.prog 37 [reV r] σ (.sl 1 (byv (z2v r))) σ:=by
 have hi:=fun s=>z7y s r
 unfold z2v
 cases hM:mayR r with
 |false =>
  have:Ans Tryz.prog 37 [reV r] σ .nils σ:=by
   refine Ans.of_run t37 ?_
   unfold reV reC at hi⊢
   simp -implicitDefEqProofs only[c37,r37,go_sem]
   refine CO.intro (hi _) ?_
   rw[hM]
   simp -implicitDefEqProofs only[go_sem]
   exact Fini.ret rfl
  exact this.subR (.nils 1)
 |true =>
  obtain⟨op0,op1,id0,id1,htx,hst,hen,sta0,sta1,hmt,hru,hls⟩:=bd_ok hM
  rw[if_pos rfl]
  unfold z0k putB2 putB1
  have hf:=fun s=>z52 s r.op
  generalize (fOf r.op).1=f at hf hru hls⊢
  generalize (fOf r.op).2=ok at hf
  have p1:=z0m (n:=r.id.toNat) (by omega)
  have p2:=z0R r.txt (by omega)
  have p3:=z0m (n:=r.st) (by omega)
  have p4:=z0m (n:=r.en) (by omega)
  have p5:=z4q hmt
  have p6:=z37 (r.any,r.lo,r.hi)
  have p6':0<(putBd (r.any,r.lo,r.hi)).length:=by unfold putBd;split<;>simp
  have p7:=z6O r.ru
  have p8:=z6P r.ls
  have y1:0<(putN r.id.toNat).length:=List.length_pos_iff.2 (z3U _)
  have y2:0<(txtB r.txt).length:=by
   have:0<(putN r.txt.size).length:=List.length_pos_iff.2 (z3U _)
   unfold txtB;rw[List.length_append];omega
  have y3:0<(putN r.st).length:=List.length_pos_iff.2 (z3U _)
  have f1:∀b:Byt,([b]:List Byt).flatten=b:=fun b=>by simp
  have f2:∀b c:Byt,([b,c]:List Byt).flatten.length=b.length+c.length:=fun b c=>by simp
  have L1:=z28 σ f 1 [putN r.id.toNat] [opC r.op] (fun _=>by rw[f1];omega) (by simp) (by rw[f1];omega) (by simp)
  have n1:(layF f 1 [putN r.id.toNat] [opC r.op]).length≤1+10:=z0D (by simp) (fun _=>by rw[f1];omega)
  generalize layF f 1 [putN r.id.toNat] [opC r.op]=B1 at L1 n1⊢
  have L2:=z28 σ f 2 [txtB r.txt] B1 (fun _=>by rw[f1];omega) (by simp) (by rw[f1];omega) (by omega)
  have n2:(layF f 2 [txtB r.txt] B1).length≤11+40:=z0D n1 (fun _=>by rw[f1];omega)
  generalize layF f 2 [txtB r.txt] B1=B2 at L2 n2⊢
  have L3:=z28 σ f 4 [putN r.st,putN r.en] B2 (fun _=>by rw[f2];omega) (by simp) (by rw[f2];omega) (by omega)
  have n3:(layF f 4 [putN r.st,putN r.en] B2).length≤51+20:=z0D n2 (fun _=>by rw[f2];omega)
  generalize layF f 4 [putN r.st,putN r.en] B2=B3 at L3 n3⊢
  have L4:=z28 σ f 8 [[opC r.sta]] B3 (fun _=>by simp) (by simp) (by simp) (by omega)
  have n4:(layF f 8 [[opC r.sta]] B3).length≤71+1:=z0D n3 (fun _=>by simp)
  generalize layF f 8 [[opC r.sta]] B3=B4 at L4 n4⊢
  have L5:=z28 σ f 16 [z14 r.mt] B4 (fun _=>by omega) (by simp) (by omega) (by omega)
  have n5:(layF f 16 [z14 r.mt] B4).length≤72+510:=z0D n4 (fun _=>by omega)
  generalize layF f 16 [z14 r.mt] B4=B5 at L5 n5⊢
  have L6:=z28 σ f 64 [putBd (r.any,r.lo,r.hi)] B5 (fun _=>by rw[f1];omega) (by simp) (by rw[f1];omega) (by omega)
  have n6:(layF f 64 [putBd (r.any,r.lo,r.hi)] B5).length≤582+17:=z0D n5 (fun _=>by rw[f1];omega)
  generalize layF f 64 [putBd (r.any,r.lo,r.hi)] B5=B6 at L6 n6⊢
  have L7:=z28 σ f 128 [z0S r.ru] B6 (fun h=>(z68 (hru h)).1) (by simp) (by omega) (by omega)
  have n7:(layF f 128 [z0S r.ru] B6).length≤599+100000:=z0D n6 (fun _=>by omega)
  generalize layF f 128 [z0S r.ru] B6=B7 at L7 n7⊢
  have L8:=z28 σ f 256 [z1s r.ls] B7 (fun h=>(z69 (hls h)).1) (by simp) (by omega) (by omega)
  have n8:(layF f 256 [z1s r.ls] B7).length≤100599+1000:=z0D n7 (fun _=>by omega)
  generalize layF f 256 [z1s r.ls] B7=B8 at L8 n8⊢
  have L9:=z28 σ f 512 [putV r.val] B8 (fun _=>by rw[f1];exact Nat.zero_lt_succ _) (by simp) (by rw[f1];exact Nat.le_of_ble_eq_true rfl) (by omega)
  generalize layF f 512 [putV r.val] B8=B9 at L9⊢
  have m1:=fun s=>z7q s r.id.toNat (by omega)
  have m2:=fun s=>z1d s r.txt (by omega)
  have m3:=fun s=>z7q s r.st (by omega)
  have m4:=fun s=>z7q s r.en (by omega)
  have m5:=fun s=>z3i s r.mt
  have m6:=fun s=>z4k s (r.any,r.lo,r.hi)
  have m7:=fun s=>z6L s r.ru
  have m8:=fun s=>z89 s r.ls
  have m9:=fun s=>z2r s r.val
  have mA:=fun s=>z2I s (bitsF r.val)
  have w1:IntKind.u64.wrap r.id=((r.id.toNat:Nat):Int):=by
   rw[show r.id=((r.id.toNat:Nat):Int) from by omega,z1x (by omega)];rfl
  have w2:=z3F op0 op1
  have w3:=z3F sta0 (by omega)
  clear p1 p2 p3 p4 p5 p6 p6' p7 p8 y1 y2 y3 f1 f2 n1 n2 n3 n4 n5 n6 n7 n8 hru hls hmt
  obtain⟨tok,op,id,txt,st,en,sta,mt,any,lo,hi',⟨src,tgt,ra,rl,rh,eq⟩,ls,val⟩:=r
  simp only at *
  refine Ans.of_run' t37 (fun hbel _=>?_)
  unfold reV reC at hi⊢
  unfold bandV at m6
  unfold ruV at m7
  simp -implicitDefEqProofs only[c37,r37,go_sem]
  refine CO.intro (hi _) ?_
  rw[hM]
  simp -implicitDefEqProofs only[go_sem,w2,g0,g1,s0,s1,List.append_assoc,List.length_append]
  refine CO.intro (hf _) ?_
  simp -implicitDefEqProofs only[go_sem,w1]
  refine CO.intro (m1 _) ?_
  simp -implicitDefEqProofs only[go_sem]
  refine CO.intro L1 ?_
  simp -implicitDefEqProofs only[go_sem]
  refine CO.intro (m2 _) ?_
  simp -implicitDefEqProofs only[go_sem]
  refine CO.intro L2 ?_
  simp -implicitDefEqProofs only[go_sem]
  refine CD.intro (m3 _) ?_
  simp -implicitDefEqProofs only[go_sem]
  refine CD.intro (m4 _) ?_
  simp -implicitDefEqProofs only[go_sem]
  refine CD.intro L3 ?_
  simp -implicitDefEqProofs only[go_sem,w3]
  refine CO.intro L4 ?_
  simp -implicitDefEqProofs only[go_sem]
  refine CO.intro (m5 _) ?_
  simp -implicitDefEqProofs only[go_sem]
  refine CO.intro L5 ?_
  simp -implicitDefEqProofs only[go_sem]
  refine CO.intro (m6 _) ?_
  simp -implicitDefEqProofs only[go_sem]
  refine CO.intro L6 ?_
  simp -implicitDefEqProofs only[go_sem]
  refine CO.intro (m7 _) ?_
  simp -implicitDefEqProofs only[go_sem]
  refine CO.intro L7 ?_
  simp -implicitDefEqProofs only[go_sem]
  refine CO.intro (m8 _) ?_
  simp -implicitDefEqProofs only[go_sem]
  refine CO.intro L8 ?_
  simp -implicitDefEqProofs only[go_sem]
  refine CO.intro (m9 _) ?_
  simp -implicitDefEqProofs only[go_sem]
  refine CO.intro (mA _) ?_
  simp -implicitDefEqProofs only[go_sem]
  refine CO.intro L9 ?_
  unfold laid
  simp -implicitDefEqProofs only[go_sem,g0,g1,s0,s1,z06]
  exact Fini.trim2 (σ':=σ) (ex:=[_,_]) rfl rfl (Nat.le_refl _) (z0M _ _) hbel
end
def z6a (r:ReM):Byt:=if reIs r then txtB r.tok++z2v r else[]
theorem z53 (r:ReM):(z2v r).length≤200000:=by
 unfold z2v
 cases hM:mayR r with
 |false=>exact Nat.zero_le _
 |true =>
  obtain⟨op0,op1,id0,id1,htx,hst,hen,sta0,sta1,hmt,hru,hls⟩:=bd_ok hM
  rw[if_pos rfl]
  unfold z0k putB2 putB1
  have f1:∀b:Byt,([b]:List Byt).flatten=b:=fun b=>by simp
  have f2:∀b c:Byt,([b,c]:List Byt).flatten.length=b.length+c.length:=fun b c=>by simp
  refine Nat.le_trans (z0D (n:=101600) (m:=8) (z0D (n:=100600) (m:=1000) (z0D (n:=600) (m:=100000) (z0D (n:=583) (m:=17) (z0D (n:=73) (m:=510) (z0D (n:=72) (m:=1) (z0D (n:=52) (m:=20) (z0D (n:=12) (m:=40) (z0D (n:=2) (m:=10) (by simp) ?_) ?_) ?_) ?_) ?_) ?_) ?_) ?_) ?_) (by decide)<;>intro _
  · rw[f1];exact z0m (by omega)
  · rw[f1];have:=z0R r.txt (by omega);omega
  · rw[f2];have:=z0m (n:=r.st) (by omega);have:=z0m (n:=r.en) (by omega);omega
  · simp
  · exact(z4q hmt).2
  · rw[f1];exact z37 _
  · exact z6O _
  · exact z6P _
  · rw[f1];exact Nat.le_of_eq (z18 _)
theorem z7B {r:ReM} (h:reIs r=true):r.tok.size≤16∧4≤r.tok.size∧mayR r=true:=by
 unfold reIs tokB at h
 simp only[Bool.and_eq_true,decide_eq_true_eq]at h
 exact⟨h.1.2,h.1.1,h.2⟩
section
variable (σ:St)
theorem z6b (r:ReM):Ans Tryz.prog 39 [reV r] σ (.sl 1 (byv (z6a r))) σ:=by
 have hi:=fun s=>z7z s r
 unfold z6a
 cases hM:reIs r with
 |false =>
  have:Ans Tryz.prog 39 [reV r] σ .nils σ:=by
   refine Ans.of_run t39 ?_
   unfold reV reC at hi⊢
   simp -implicitDefEqProofs only[c39,r39,go_sem]
   refine CO.intro (hi _) ?_
   rw[hM]
   simp -implicitDefEqProofs only[go_sem]
   exact Fini.ret rfl
  exact this.subR (.nils 1)
 |true =>
  obtain⟨ht,_,_⟩:=z7B hM
  have hl:=z53 r
  have m1:=fun s=>z3W s r.tok (by omega)
  have m2:=fun s=>z7A s r
  have p1:=z0R r.tok (by omega)
  rw[if_pos rfl]
  generalize z2v r=B at hl m2⊢
  have q1:(txtB r.tok).length+B.length≤4294967296:=by omega
  have hbb:=fun n=>z0M n (txtB r.tok++B)
  simp only[z08]at hbb⊢
  refine Ans.of_run' t39 (fun hbel _=>?_)
  unfold reV reC at hi m2⊢
  simp -implicitDefEqProofs only[c39,r39,go_sem]
  refine CO.intro (hi _) ?_
  rw[hM]
  simp -implicitDefEqProofs only[go_sem]
  refine CD.intro (m1 _) ?_
  simp -implicitDefEqProofs only[go_sem]
  refine CD.intro (m2 _) ?_
  simp -implicitDefEqProofs only[go_sem,g0,s0,z06,z0b,bc,q1,List.length_append]
  exact Fini.trim2 (σ':=σ) (ex:=[_]) rfl rfl (Nat.le_refl _) (hbb _) hbel
end
structure ReSm (r:ReM):Prop where
 mt:∀x∈r.mt,x.2.1.size≤100000
 ru:RSm r.ru
 ls:∀x∈r.ls,x.1.size≤100000
def docB (r:ReM) (s:ByteArray):Bool :=
 (hasC s 73||r.id==0)&&(decide (0≤r.id)&&(decide (r.id≤2147483647)&&((!hasC s 84||tokB r.txt)&&((hasC s 84||emS r.txt)&&((hasC s 83||emU r.st)&&((hasC s 83||emU r.en)&&(clkB r.st&&(clkB r.en&&((hasC s 90||r.sta==0)&&(decide (0≤r.sta)&&(decide (r.sta≤3)&&((hasC s 77||emI r.mt.length)&&((!hasC s 83|| !emI r.mt.length)&&(listB r.mt&&((hasC s 66||noBd (r.any,r.lo,r.hi))&&(mayB r.any r.lo r.hi&&((!hasC s 82||ruIs r.ru)&&((hasC s 82||noRl r.ru)&&(if hasC s 76 then setB r.ls else emI r.ls.length&&zF r.val)))))))))))))))))))
theorem ne_of {x:Int} {v:Bool} (h:(x==0)=v):(x != 0)= !v:=by rw[bne,h]
theorem lt_of {x:Int} {v:Bool} (h:decide (0≤x)=v):decide (x<0)= !v:=by
 rw[←h,Bool.eq_iff_iff];simp
theorem gt_of {x c:Int} {v:Bool} (h:decide (x≤c)=v):decide (c<x)= !v:=by
 rw[←h,Bool.eq_iff_iff];simp
abbrev S0:ByteArray:=⟨#[45]⟩
theorem hc_0:hasC S0 73=false∧hasC S0 84=false∧hasC S0 83=false∧hasC S0 90=false∧hasC S0 77=false∧hasC S0 66=false∧hasC S0 82=false∧hasC S0 76=false:=by decide +kernel
theorem hn_0:(S0.toList==(⟨#[]⟩:ByteArray).toList)=false:=by decide +kernel
abbrev S1:ByteArray:=⟨#[73]⟩
theorem hc_1:hasC S1 73=true∧hasC S1 84=false∧hasC S1 83=false∧hasC S1 90=false∧hasC S1 77=false∧hasC S1 66=false∧hasC S1 82=false∧hasC S1 76=false:=by decide +kernel
theorem hn_1:(S1.toList==(⟨#[]⟩:ByteArray).toList)=false:=by decide +kernel
abbrev S3:ByteArray:=⟨#[73,84]⟩
theorem hc_3:hasC S3 73=true∧hasC S3 84=true∧hasC S3 83=false∧hasC S3 90=false∧hasC S3 77=false∧hasC S3 66=false∧hasC S3 82=false∧hasC S3 76=false:=by decide +kernel
theorem hn_3:(S3.toList==(⟨#[]⟩:ByteArray).toList)=false:=by decide +kernel
abbrev S116:ByteArray:=⟨#[83,69,77,66]⟩
theorem z9H:hasC S116 73=false∧hasC S116 84=false∧hasC S116 83=true∧hasC S116 90=false∧hasC S116 77=true∧hasC S116 66=true∧hasC S116 82=false∧hasC S116 76=false:=by decide +kernel
theorem zcZ:(S116.toList==(⟨#[]⟩:ByteArray).toList)=false:=by decide +kernel
abbrev S117:ByteArray:=⟨#[73,83,69,77,66]⟩
theorem z9I:hasC S117 73=true∧hasC S117 84=false∧hasC S117 83=true∧hasC S117 90=false∧hasC S117 77=true∧hasC S117 66=true∧hasC S117 82=false∧hasC S117 76=false:=by decide +kernel
theorem zd0:(S117.toList==(⟨#[]⟩:ByteArray).toList)=false:=by decide +kernel
abbrev S8:ByteArray:=⟨#[90]⟩
theorem hc_8:hasC S8 73=false∧hasC S8 84=false∧hasC S8 83=false∧hasC S8 90=true∧hasC S8 77=false∧hasC S8 66=false∧hasC S8 82=false∧hasC S8 76=false:=by decide +kernel
theorem hn_8:(S8.toList==(⟨#[]⟩:ByteArray).toList)=false:=by decide +kernel
abbrev S128:ByteArray:=⟨#[82]⟩
theorem z9J:hasC S128 73=false∧hasC S128 84=false∧hasC S128 83=false∧hasC S128 90=false∧hasC S128 77=false∧hasC S128 66=false∧hasC S128 82=true∧hasC S128 76=false:=by decide +kernel
theorem zd1:(S128.toList==(⟨#[]⟩:ByteArray).toList)=false:=by decide +kernel
abbrev S768:ByteArray:=⟨#[76,86]⟩
theorem z9K:hasC S768 73=false∧hasC S768 84=false∧hasC S768 83=false∧hasC S768 90=false∧hasC S768 77=false∧hasC S768 66=false∧hasC S768 82=false∧hasC S768 76=true:=by decide +kernel
theorem zd2:(S768.toList==(⟨#[]⟩:ByteArray).toList)=false:=by decide +kernel
abbrev S16:ByteArray:=⟨#[77]⟩
theorem hc_16:hasC S16 73=false∧hasC S16 84=false∧hasC S16 83=false∧hasC S16 90=false∧hasC S16 77=true∧hasC S16 66=false∧hasC S16 82=false∧hasC S16 76=false:=by decide +kernel
theorem hn_16:(S16.toList==(⟨#[]⟩:ByteArray).toList)=false:=by decide +kernel
attribute [go_sem] Bool.not_false Bool.not_true hn_0 hn_1 hn_3 zcZ zd0 hn_8 zd1 zd2 hn_16
section
variable (σ:St)
set_option maxHeartbeats 8000000 in
theorem z3G (r:ReM) (hr:ReSm r) (hd:dOf r.op=S0):Ans Tryz.prog 89 [reV r] σ (Bo (docB r S0)) σ:=by
 obtain⟨tok,op,id,txt,st,en,sta,mt,any,lo,hi,⟨src,tgt,ra,rl,rh,eq⟩,ls,val⟩:=r
 obtain⟨hm,hru,hls⟩:=hr
 simp only at hm hru hls hd
 have k1:=z0z σ op
 rw[hd]at k1
 have ii:=fun c h=>z1t σ S0 c h
 have i73:=ii 73 (by decide)
 have i84:=ii 84 (by decide)
 have i83:=ii 83 (by decide)
 have i90:=ii 90 (by decide)
 have i77:=ii 77 (by decide)
 have i66:=ii 66 (by decide)
 have i82:=ii 82 (by decide)
 have i76:=ii 76 (by decide)
 simp only[hc_0]at i73 i84 i83 i90 i77 i66 i82 i76
 have b0:=z1k σ txt
 have b1:=z0K σ mt hm
 have b2:=z0O σ (any,lo,hi)
 have b3:=z1i σ any lo hi
 have b4:=z15 σ ⟨src,tgt,ra,rl,rh,eq⟩ hru
 have b5:=z0X σ ⟨src,tgt,ra,rl,rh,eq⟩
 have b6:=z1l σ ls hls
 have b7:=z0t σ val
 unfold bandV at b2
 unfold ruV at b4 b5
 unfold docB
 simp only[hc_0,Bool.true_or,Bool.false_or,Bool.not_true,Bool.not_false,Bool.true_and,if_true,Bool.false_eq_true,if_false]
 refine Ans.of_run t89 ?_
 unfold reV reC
 simp -implicitDefEqProofs only[c89,r89,go_sem]
 refine CO.intro k1 ?_
 simp -implicitDefEqProofs only[go_sem]
 refine CO.intro i73 ?_
 cases h0:(id==0) with
 |false =>
  have fh00:=ne_of h0
  simp -implicitDefEqProofs only[go_sem,h0,fh00]
  exact Fini.ret rfl
 |true =>
 have fh00:=ne_of h0
 cases h1:(decide (0≤id)) with
 |false =>
  have fh10:=lt_of h1
  simp -implicitDefEqProofs only[go_sem,h0,fh00,h1,fh10]
  exact Fini.ret rfl
 |true =>
 have fh10:=lt_of h1
 cases h2:(decide (id≤2147483647)) with
 |false =>
  have fh20:=gt_of h2
  simp -implicitDefEqProofs only[go_sem,h0,fh00,h1,fh10,h2,fh20]
  exact Fini.ret rfl
 |true =>
 have fh20:=gt_of h2
 simp -implicitDefEqProofs only[go_sem,h0,fh00,h1,fh10,h2,fh20]
 refine CO.intro i84 ?_
 simp -implicitDefEqProofs only[go_sem]
 refine CO.intro i84 ?_
 unfold emS
 cases h3:(txt.toList==(⟨#[]⟩:ByteArray).toList) with
 |false =>
  simp -implicitDefEqProofs only[go_sem,h3]
  exact Fini.ret rfl
 |true =>
 simp -implicitDefEqProofs only[go_sem,h3]
 refine CO.intro i83 ?_
 unfold emU
 cases h4:(((st:Nat):Int)==0) with
 |false =>
  have fh40:=ne_of h4
  simp -implicitDefEqProofs only[go_sem,h4,fh40]
  exact Fini.ret rfl
 |true =>
 have fh40:=ne_of h4
 cases h5:(((en:Nat):Int)==0) with
 |false =>
  have fh50:=ne_of h5
  simp -implicitDefEqProofs only[go_sem,h4,fh40,h5,fh50]
  exact Fini.ret rfl
 |true =>
 have fh50:=ne_of h5
 unfold clkB
 cases h6:(decide (((st:Nat):Int)≤1099511627776)) with
 |false =>
  have fh60:=gt_of h6
  simp -implicitDefEqProofs only[go_sem,h4,fh40,h5,fh50,h6,fh60]
  exact Fini.ret rfl
 |true =>
 have fh60:=gt_of h6
 cases h7:(decide (((en:Nat):Int)≤1099511627776)) with
 |false =>
  have fh70:=gt_of h7
  simp -implicitDefEqProofs only[go_sem,h4,fh40,h5,fh50,h6,fh60,h7,fh70]
  exact Fini.ret rfl
 |true =>
 have fh70:=gt_of h7
 simp -implicitDefEqProofs only[go_sem,h4,fh40,h5,fh50,h6,fh60,h7,fh70]
 refine CO.intro i90 ?_
 cases h8:(sta==0) with
 |false =>
  have fh80:=ne_of h8
  simp -implicitDefEqProofs only[go_sem,h8,fh80]
  exact Fini.ret rfl
 |true =>
 have fh80:=ne_of h8
 cases h9:(decide (0≤sta)) with
 |false =>
  have fh90:=lt_of h9
  simp -implicitDefEqProofs only[go_sem,h8,fh80,h9,fh90]
  exact Fini.ret rfl
 |true =>
 have fh90:=lt_of h9
 cases h10:(decide (sta≤3)) with
 |false =>
  have fh100:=gt_of h10
  simp -implicitDefEqProofs only[go_sem,h8,fh80,h9,fh90,h10,fh100]
  exact Fini.ret rfl
 |true =>
 have fh100:=gt_of h10
 simp -implicitDefEqProofs only[go_sem,h8,fh80,h9,fh90,h10,fh100]
 refine CO.intro i77 ?_
 have hl:=z3u mt.length
 cases hm0:(emI mt.length) with
 |false =>
  rw[hm0]at hl
  simp -implicitDefEqProofs only[go_sem,hl]
  exact Fini.ret rfl
 |true =>
 rw[hm0]at hl
 simp -implicitDefEqProofs only[go_sem,hl]
 refine CO.intro i83 ?_
 simp -implicitDefEqProofs only[go_sem]
 refine CO.intro b1 ?_
 cases h11:(listB mt) with
 |false =>
  simp -implicitDefEqProofs only[go_sem]
  exact Fini.ret rfl
 |true =>
 simp -implicitDefEqProofs only[go_sem]
 refine CO.intro i66 ?_
 simp -implicitDefEqProofs only[go_sem]
 refine CO.intro b2 ?_
 cases h12:(noBd (any,lo,hi)) with
 |false =>
  simp -implicitDefEqProofs only[go_sem]
  exact Fini.ret rfl
 |true =>
 simp -implicitDefEqProofs only[go_sem]
 refine CO.intro b3 ?_
 cases h13:(mayB any lo hi) with
 |false =>
  simp -implicitDefEqProofs only[go_sem]
  exact Fini.ret rfl
 |true =>
 simp -implicitDefEqProofs only[go_sem]
 refine CO.intro i82 ?_
 simp -implicitDefEqProofs only[go_sem]
 refine CO.intro i82 ?_
 simp -implicitDefEqProofs only[go_sem]
 refine CO.intro b5 ?_
 cases h14:(noRl ⟨src,tgt,ra,rl,rh,eq⟩) with
 |false =>
  simp -implicitDefEqProofs only[go_sem]
  exact Fini.ret rfl
 |true =>
 simp -implicitDefEqProofs only[go_sem]
 refine CO.intro i76 ?_
 unfold emI zF
 cases h15:(((ls.length:Nat):Int)==0) with
 |false =>
  simp -implicitDefEqProofs only[go_sem,h15]
  exact Fini.ret rfl
 |true =>
 simp -implicitDefEqProofs only[go_sem,h15]
 refine CO.intro b7 ?_
 simp -implicitDefEqProofs only[go_sem]
 exact Fini.ret rfl
set_option maxHeartbeats 8000000 in
theorem z38 (r:ReM) (hr:ReSm r) (hd:dOf r.op=S1):Ans Tryz.prog 89 [reV r] σ (Bo (docB r S1)) σ:=by
 obtain⟨tok,op,id,txt,st,en,sta,mt,any,lo,hi,⟨src,tgt,ra,rl,rh,eq⟩,ls,val⟩:=r
 obtain⟨hm,hru,hls⟩:=hr
 simp only at hm hru hls hd
 have k1:=z0z σ op
 rw[hd]at k1
 have ii:=fun c h=>z1t σ S1 c h
 have i73:=ii 73 (by decide)
 have i84:=ii 84 (by decide)
 have i83:=ii 83 (by decide)
 have i90:=ii 90 (by decide)
 have i77:=ii 77 (by decide)
 have i66:=ii 66 (by decide)
 have i82:=ii 82 (by decide)
 have i76:=ii 76 (by decide)
 simp only[hc_1]at i73 i84 i83 i90 i77 i66 i82 i76
 have b0:=z1k σ txt
 have b1:=z0K σ mt hm
 have b2:=z0O σ (any,lo,hi)
 have b3:=z1i σ any lo hi
 have b4:=z15 σ ⟨src,tgt,ra,rl,rh,eq⟩ hru
 have b5:=z0X σ ⟨src,tgt,ra,rl,rh,eq⟩
 have b6:=z1l σ ls hls
 have b7:=z0t σ val
 unfold bandV at b2
 unfold ruV at b4 b5
 unfold docB
 simp only[hc_1,Bool.true_or,Bool.false_or,Bool.not_true,Bool.not_false,Bool.true_and,if_true,Bool.false_eq_true,if_false]
 refine Ans.of_run t89 ?_
 unfold reV reC
 simp -implicitDefEqProofs only[c89,r89,go_sem]
 refine CO.intro k1 ?_
 simp -implicitDefEqProofs only[go_sem]
 refine CO.intro i73 ?_
 cases h0:(decide (0≤id)) with
 |false =>
  have fh00:=lt_of h0
  simp -implicitDefEqProofs only[go_sem,h0,fh00]
  exact Fini.ret rfl
 |true =>
 have fh00:=lt_of h0
 cases h1:(decide (id≤2147483647)) with
 |false =>
  have fh10:=gt_of h1
  simp -implicitDefEqProofs only[go_sem,h0,fh00,h1,fh10]
  exact Fini.ret rfl
 |true =>
 have fh10:=gt_of h1
 simp -implicitDefEqProofs only[go_sem,h0,fh00,h1,fh10]
 refine CO.intro i84 ?_
 simp -implicitDefEqProofs only[go_sem]
 refine CO.intro i84 ?_
 unfold emS
 cases h2:(txt.toList==(⟨#[]⟩:ByteArray).toList) with
 |false =>
  simp -implicitDefEqProofs only[go_sem,h2]
  exact Fini.ret rfl
 |true =>
 simp -implicitDefEqProofs only[go_sem,h2]
 refine CO.intro i83 ?_
 unfold emU
 cases h3:(((st:Nat):Int)==0) with
 |false =>
  have fh30:=ne_of h3
  simp -implicitDefEqProofs only[go_sem,h3,fh30]
  exact Fini.ret rfl
 |true =>
 have fh30:=ne_of h3
 cases h4:(((en:Nat):Int)==0) with
 |false =>
  have fh40:=ne_of h4
  simp -implicitDefEqProofs only[go_sem,h3,fh30,h4,fh40]
  exact Fini.ret rfl
 |true =>
 have fh40:=ne_of h4
 unfold clkB
 cases h5:(decide (((st:Nat):Int)≤1099511627776)) with
 |false =>
  have fh50:=gt_of h5
  simp -implicitDefEqProofs only[go_sem,h3,fh30,h4,fh40,h5,fh50]
  exact Fini.ret rfl
 |true =>
 have fh50:=gt_of h5
 cases h6:(decide (((en:Nat):Int)≤1099511627776)) with
 |false =>
  have fh60:=gt_of h6
  simp -implicitDefEqProofs only[go_sem,h3,fh30,h4,fh40,h5,fh50,h6,fh60]
  exact Fini.ret rfl
 |true =>
 have fh60:=gt_of h6
 simp -implicitDefEqProofs only[go_sem,h3,fh30,h4,fh40,h5,fh50,h6,fh60]
 refine CO.intro i90 ?_
 cases h7:(sta==0) with
 |false =>
  have fh70:=ne_of h7
  simp -implicitDefEqProofs only[go_sem,h7,fh70]
  exact Fini.ret rfl
 |true =>
 have fh70:=ne_of h7
 cases h8:(decide (0≤sta)) with
 |false =>
  have fh80:=lt_of h8
  simp -implicitDefEqProofs only[go_sem,h7,fh70,h8,fh80]
  exact Fini.ret rfl
 |true =>
 have fh80:=lt_of h8
 cases h9:(decide (sta≤3)) with
 |false =>
  have fh90:=gt_of h9
  simp -implicitDefEqProofs only[go_sem,h7,fh70,h8,fh80,h9,fh90]
  exact Fini.ret rfl
 |true =>
 have fh90:=gt_of h9
 simp -implicitDefEqProofs only[go_sem,h7,fh70,h8,fh80,h9,fh90]
 refine CO.intro i77 ?_
 have hl:=z3u mt.length
 cases hm0:(emI mt.length) with
 |false =>
  rw[hm0]at hl
  simp -implicitDefEqProofs only[go_sem,hl]
  exact Fini.ret rfl
 |true =>
 rw[hm0]at hl
 simp -implicitDefEqProofs only[go_sem,hl]
 refine CO.intro i83 ?_
 simp -implicitDefEqProofs only[go_sem]
 refine CO.intro b1 ?_
 cases h10:(listB mt) with
 |false =>
  simp -implicitDefEqProofs only[go_sem]
  exact Fini.ret rfl
 |true =>
 simp -implicitDefEqProofs only[go_sem]
 refine CO.intro i66 ?_
 simp -implicitDefEqProofs only[go_sem]
 refine CO.intro b2 ?_
 cases h11:(noBd (any,lo,hi)) with
 |false =>
  simp -implicitDefEqProofs only[go_sem]
  exact Fini.ret rfl
 |true =>
 simp -implicitDefEqProofs only[go_sem]
 refine CO.intro b3 ?_
 cases h12:(mayB any lo hi) with
 |false =>
  simp -implicitDefEqProofs only[go_sem]
  exact Fini.ret rfl
 |true =>
 simp -implicitDefEqProofs only[go_sem]
 refine CO.intro i82 ?_
 simp -implicitDefEqProofs only[go_sem]
 refine CO.intro i82 ?_
 simp -implicitDefEqProofs only[go_sem]
 refine CO.intro b5 ?_
 cases h13:(noRl ⟨src,tgt,ra,rl,rh,eq⟩) with
 |false =>
  simp -implicitDefEqProofs only[go_sem]
  exact Fini.ret rfl
 |true =>
 simp -implicitDefEqProofs only[go_sem]
 refine CO.intro i76 ?_
 unfold emI zF
 cases h14:(((ls.length:Nat):Int)==0) with
 |false =>
  simp -implicitDefEqProofs only[go_sem,h14]
  exact Fini.ret rfl
 |true =>
 simp -implicitDefEqProofs only[go_sem,h14]
 refine CO.intro b7 ?_
 simp -implicitDefEqProofs only[go_sem]
 exact Fini.ret rfl
set_option maxHeartbeats 8000000 in
theorem z7C (r:ReM) (hr:ReSm r) (hd:dOf r.op=S3):Ans Tryz.prog 89 [reV r] σ (Bo (docB r S3)) σ:=by
 obtain⟨tok,op,id,txt,st,en,sta,mt,any,lo,hi,⟨src,tgt,ra,rl,rh,eq⟩,ls,val⟩:=r
 obtain⟨hm,hru,hls⟩:=hr
 simp only at hm hru hls hd
 have k1:=z0z σ op
 rw[hd]at k1
 have ii:=fun c h=>z1t σ S3 c h
 have i73:=ii 73 (by decide)
 have i84:=ii 84 (by decide)
 have i83:=ii 83 (by decide)
 have i90:=ii 90 (by decide)
 have i77:=ii 77 (by decide)
 have i66:=ii 66 (by decide)
 have i82:=ii 82 (by decide)
 have i76:=ii 76 (by decide)
 simp only[hc_3]at i73 i84 i83 i90 i77 i66 i82 i76
 have b0:=z1k σ txt
 have b1:=z0K σ mt hm
 have b2:=z0O σ (any,lo,hi)
 have b3:=z1i σ any lo hi
 have b4:=z15 σ ⟨src,tgt,ra,rl,rh,eq⟩ hru
 have b5:=z0X σ ⟨src,tgt,ra,rl,rh,eq⟩
 have b6:=z1l σ ls hls
 have b7:=z0t σ val
 unfold bandV at b2
 unfold ruV at b4 b5
 unfold docB
 simp only[hc_3,Bool.true_or,Bool.false_or,Bool.not_true,Bool.not_false,Bool.true_and,if_true,Bool.false_eq_true,if_false]
 refine Ans.of_run t89 ?_
 unfold reV reC
 simp -implicitDefEqProofs only[c89,r89,go_sem]
 refine CO.intro k1 ?_
 simp -implicitDefEqProofs only[go_sem]
 refine CO.intro i73 ?_
 cases h0:(decide (0≤id)) with
 |false =>
  have fh00:=lt_of h0
  simp -implicitDefEqProofs only[go_sem,h0,fh00]
  exact Fini.ret rfl
 |true =>
 have fh00:=lt_of h0
 cases h1:(decide (id≤2147483647)) with
 |false =>
  have fh10:=gt_of h1
  simp -implicitDefEqProofs only[go_sem,h0,fh00,h1,fh10]
  exact Fini.ret rfl
 |true =>
 have fh10:=gt_of h1
 simp -implicitDefEqProofs only[go_sem,h0,fh00,h1,fh10]
 refine CO.intro i84 ?_
 simp -implicitDefEqProofs only[go_sem]
 refine CO.intro b0 ?_
 cases h2:(tokB txt) with
 |false =>
  simp -implicitDefEqProofs only[go_sem]
  exact Fini.ret rfl
 |true =>
 simp -implicitDefEqProofs only[go_sem]
 refine CO.intro i84 ?_
 simp -implicitDefEqProofs only[go_sem]
 refine CO.intro i83 ?_
 unfold emU
 cases h3:(((st:Nat):Int)==0) with
 |false =>
  have fh30:=ne_of h3
  simp -implicitDefEqProofs only[go_sem,h3,fh30]
  exact Fini.ret rfl
 |true =>
 have fh30:=ne_of h3
 cases h4:(((en:Nat):Int)==0) with
 |false =>
  have fh40:=ne_of h4
  simp -implicitDefEqProofs only[go_sem,h3,fh30,h4,fh40]
  exact Fini.ret rfl
 |true =>
 have fh40:=ne_of h4
 unfold clkB
 cases h5:(decide (((st:Nat):Int)≤1099511627776)) with
 |false =>
  have fh50:=gt_of h5
  simp -implicitDefEqProofs only[go_sem,h3,fh30,h4,fh40,h5,fh50]
  exact Fini.ret rfl
 |true =>
 have fh50:=gt_of h5
 cases h6:(decide (((en:Nat):Int)≤1099511627776)) with
 |false =>
  have fh60:=gt_of h6
  simp -implicitDefEqProofs only[go_sem,h3,fh30,h4,fh40,h5,fh50,h6,fh60]
  exact Fini.ret rfl
 |true =>
 have fh60:=gt_of h6
 simp -implicitDefEqProofs only[go_sem,h3,fh30,h4,fh40,h5,fh50,h6,fh60]
 refine CO.intro i90 ?_
 cases h7:(sta==0) with
 |false =>
  have fh70:=ne_of h7
  simp -implicitDefEqProofs only[go_sem,h7,fh70]
  exact Fini.ret rfl
 |true =>
 have fh70:=ne_of h7
 cases h8:(decide (0≤sta)) with
 |false =>
  have fh80:=lt_of h8
  simp -implicitDefEqProofs only[go_sem,h7,fh70,h8,fh80]
  exact Fini.ret rfl
 |true =>
 have fh80:=lt_of h8
 cases h9:(decide (sta≤3)) with
 |false =>
  have fh90:=gt_of h9
  simp -implicitDefEqProofs only[go_sem,h7,fh70,h8,fh80,h9,fh90]
  exact Fini.ret rfl
 |true =>
 have fh90:=gt_of h9
 simp -implicitDefEqProofs only[go_sem,h7,fh70,h8,fh80,h9,fh90]
 refine CO.intro i77 ?_
 have hl:=z3u mt.length
 cases hm0:(emI mt.length) with
 |false =>
  rw[hm0]at hl
  simp -implicitDefEqProofs only[go_sem,hl]
  exact Fini.ret rfl
 |true =>
 rw[hm0]at hl
 simp -implicitDefEqProofs only[go_sem,hl]
 refine CO.intro i83 ?_
 simp -implicitDefEqProofs only[go_sem]
 refine CO.intro b1 ?_
 cases h10:(listB mt) with
 |false =>
  simp -implicitDefEqProofs only[go_sem]
  exact Fini.ret rfl
 |true =>
 simp -implicitDefEqProofs only[go_sem]
 refine CO.intro i66 ?_
 simp -implicitDefEqProofs only[go_sem]
 refine CO.intro b2 ?_
 cases h11:(noBd (any,lo,hi)) with
 |false =>
  simp -implicitDefEqProofs only[go_sem]
  exact Fini.ret rfl
 |true =>
 simp -implicitDefEqProofs only[go_sem]
 refine CO.intro b3 ?_
 cases h12:(mayB any lo hi) with
 |false =>
  simp -implicitDefEqProofs only[go_sem]
  exact Fini.ret rfl
 |true =>
 simp -implicitDefEqProofs only[go_sem]
 refine CO.intro i82 ?_
 simp -implicitDefEqProofs only[go_sem]
 refine CO.intro i82 ?_
 simp -implicitDefEqProofs only[go_sem]
 refine CO.intro b5 ?_
 cases h13:(noRl ⟨src,tgt,ra,rl,rh,eq⟩) with
 |false =>
  simp -implicitDefEqProofs only[go_sem]
  exact Fini.ret rfl
 |true =>
 simp -implicitDefEqProofs only[go_sem]
 refine CO.intro i76 ?_
 unfold emI zF
 cases h14:(((ls.length:Nat):Int)==0) with
 |false =>
  simp -implicitDefEqProofs only[go_sem,h14]
  exact Fini.ret rfl
 |true =>
 simp -implicitDefEqProofs only[go_sem,h14]
 refine CO.intro b7 ?_
 simp -implicitDefEqProofs only[go_sem]
 exact Fini.ret rfl
end
section
variable (σ:St)
set_option maxHeartbeats 8000000 in
theorem z8b (r:ReM) (hr:ReSm r) (hd:dOf r.op=S116):Ans Tryz.prog 89 [reV r] σ (Bo (docB r S116)) σ:=by
 obtain⟨tok,op,id,txt,st,en,sta,mt,any,lo,hi,⟨src,tgt,ra,rl,rh,eq⟩,ls,val⟩:=r
 obtain⟨hm,hru,hls⟩:=hr
 simp only at hm hru hls hd
 have k1:=z0z σ op
 rw[hd]at k1
 have ii:=fun c h=>z1t σ S116 c h
 have i73:=ii 73 (by decide)
 have i84:=ii 84 (by decide)
 have i83:=ii 83 (by decide)
 have i90:=ii 90 (by decide)
 have i77:=ii 77 (by decide)
 have i66:=ii 66 (by decide)
 have i82:=ii 82 (by decide)
 have i76:=ii 76 (by decide)
 simp only[z9H]at i73 i84 i83 i90 i77 i66 i82 i76
 have b0:=z1k σ txt
 have b1:=z0K σ mt hm
 have b2:=z0O σ (any,lo,hi)
 have b3:=z1i σ any lo hi
 have b4:=z15 σ ⟨src,tgt,ra,rl,rh,eq⟩ hru
 have b5:=z0X σ ⟨src,tgt,ra,rl,rh,eq⟩
 have b6:=z1l σ ls hls
 have b7:=z0t σ val
 unfold bandV at b2
 unfold ruV at b4 b5
 unfold docB
 simp only[z9H,Bool.true_or,Bool.false_or,Bool.not_true,Bool.not_false,Bool.true_and,if_true,Bool.false_eq_true,if_false]
 refine Ans.of_run t89 ?_
 unfold reV reC
 simp -implicitDefEqProofs only[c89,r89,go_sem]
 refine CO.intro k1 ?_
 simp -implicitDefEqProofs only[go_sem]
 refine CO.intro i73 ?_
 cases h0:(id==0) with
 |false =>
  have fh00:=ne_of h0
  simp -implicitDefEqProofs only[go_sem,h0,fh00]
  exact Fini.ret rfl
 |true =>
 have fh00:=ne_of h0
 cases h1:(decide (0≤id)) with
 |false =>
  have fh10:=lt_of h1
  simp -implicitDefEqProofs only[go_sem,h0,fh00,h1,fh10]
  exact Fini.ret rfl
 |true =>
 have fh10:=lt_of h1
 cases h2:(decide (id≤2147483647)) with
 |false =>
  have fh20:=gt_of h2
  simp -implicitDefEqProofs only[go_sem,h0,fh00,h1,fh10,h2,fh20]
  exact Fini.ret rfl
 |true =>
 have fh20:=gt_of h2
 simp -implicitDefEqProofs only[go_sem,h0,fh00,h1,fh10,h2,fh20]
 refine CO.intro i84 ?_
 simp -implicitDefEqProofs only[go_sem]
 refine CO.intro i84 ?_
 unfold emS
 cases h3:(txt.toList==(⟨#[]⟩:ByteArray).toList) with
 |false =>
  simp -implicitDefEqProofs only[go_sem,h3]
  exact Fini.ret rfl
 |true =>
 simp -implicitDefEqProofs only[go_sem,h3]
 refine CO.intro i83 ?_
 unfold clkB
 cases h4:(decide (((st:Nat):Int)≤1099511627776)) with
 |false =>
  have fh40:=gt_of h4
  simp -implicitDefEqProofs only[go_sem,h4,fh40]
  exact Fini.ret rfl
 |true =>
 have fh40:=gt_of h4
 cases h5:(decide (((en:Nat):Int)≤1099511627776)) with
 |false =>
  have fh50:=gt_of h5
  simp -implicitDefEqProofs only[go_sem,h4,fh40,h5,fh50]
  exact Fini.ret rfl
 |true =>
 have fh50:=gt_of h5
 simp -implicitDefEqProofs only[go_sem,h4,fh40,h5,fh50]
 refine CO.intro i90 ?_
 cases h6:(sta==0) with
 |false =>
  have fh60:=ne_of h6
  simp -implicitDefEqProofs only[go_sem,h6,fh60]
  exact Fini.ret rfl
 |true =>
 have fh60:=ne_of h6
 cases h7:(decide (0≤sta)) with
 |false =>
  have fh70:=lt_of h7
  simp -implicitDefEqProofs only[go_sem,h6,fh60,h7,fh70]
  exact Fini.ret rfl
 |true =>
 have fh70:=lt_of h7
 cases h8:(decide (sta≤3)) with
 |false =>
  have fh80:=gt_of h8
  simp -implicitDefEqProofs only[go_sem,h6,fh60,h7,fh70,h8,fh80]
  exact Fini.ret rfl
 |true =>
 have fh80:=gt_of h8
 simp -implicitDefEqProofs only[go_sem,h6,fh60,h7,fh70,h8,fh80]
 refine CO.intro i77 ?_
 simp -implicitDefEqProofs only[go_sem]
 refine CO.intro i83 ?_
 have hl:(((mt.length:Nat):Int)==0)= !(!emI mt.length):=by rw[Bool.not_not];rfl
 cases hm0:(!emI mt.length) with
 |false =>
  rw[hm0]at hl
  simp -implicitDefEqProofs only[go_sem,hl]
  exact Fini.ret rfl
 |true =>
 rw[hm0]at hl
 simp -implicitDefEqProofs only[go_sem,hl]
 refine CO.intro b1 ?_
 cases h9:(listB mt) with
 |false =>
  simp -implicitDefEqProofs only[go_sem]
  exact Fini.ret rfl
 |true =>
 simp -implicitDefEqProofs only[go_sem]
 refine CO.intro i66 ?_
 simp -implicitDefEqProofs only[go_sem]
 refine CO.intro b3 ?_
 cases h10:(mayB any lo hi) with
 |false =>
  simp -implicitDefEqProofs only[go_sem]
  exact Fini.ret rfl
 |true =>
 simp -implicitDefEqProofs only[go_sem]
 refine CO.intro i82 ?_
 simp -implicitDefEqProofs only[go_sem]
 refine CO.intro i82 ?_
 simp -implicitDefEqProofs only[go_sem]
 refine CO.intro b5 ?_
 cases h11:(noRl ⟨src,tgt,ra,rl,rh,eq⟩) with
 |false =>
  simp -implicitDefEqProofs only[go_sem]
  exact Fini.ret rfl
 |true =>
 simp -implicitDefEqProofs only[go_sem]
 refine CO.intro i76 ?_
 unfold emI zF
 cases h12:(((ls.length:Nat):Int)==0) with
 |false =>
  simp -implicitDefEqProofs only[go_sem,h12]
  exact Fini.ret rfl
 |true =>
 simp -implicitDefEqProofs only[go_sem,h12]
 refine CO.intro b7 ?_
 simp -implicitDefEqProofs only[go_sem]
 exact Fini.ret rfl
set_option maxHeartbeats 8000000 in
theorem z8c (r:ReM) (hr:ReSm r) (hd:dOf r.op=S117):Ans Tryz.prog 89 [reV r] σ (Bo (docB r S117)) σ:=by
 obtain⟨tok,op,id,txt,st,en,sta,mt,any,lo,hi,⟨src,tgt,ra,rl,rh,eq⟩,ls,val⟩:=r
 obtain⟨hm,hru,hls⟩:=hr
 simp only at hm hru hls hd
 have k1:=z0z σ op
 rw[hd]at k1
 have ii:=fun c h=>z1t σ S117 c h
 have i73:=ii 73 (by decide)
 have i84:=ii 84 (by decide)
 have i83:=ii 83 (by decide)
 have i90:=ii 90 (by decide)
 have i77:=ii 77 (by decide)
 have i66:=ii 66 (by decide)
 have i82:=ii 82 (by decide)
 have i76:=ii 76 (by decide)
 simp only[z9I]at i73 i84 i83 i90 i77 i66 i82 i76
 have b0:=z1k σ txt
 have b1:=z0K σ mt hm
 have b2:=z0O σ (any,lo,hi)
 have b3:=z1i σ any lo hi
 have b4:=z15 σ ⟨src,tgt,ra,rl,rh,eq⟩ hru
 have b5:=z0X σ ⟨src,tgt,ra,rl,rh,eq⟩
 have b6:=z1l σ ls hls
 have b7:=z0t σ val
 unfold bandV at b2
 unfold ruV at b4 b5
 unfold docB
 simp only[z9I,Bool.true_or,Bool.false_or,Bool.not_true,Bool.not_false,Bool.true_and,if_true,Bool.false_eq_true,if_false]
 refine Ans.of_run t89 ?_
 unfold reV reC
 simp -implicitDefEqProofs only[c89,r89,go_sem]
 refine CO.intro k1 ?_
 simp -implicitDefEqProofs only[go_sem]
 refine CO.intro i73 ?_
 cases h0:(decide (0≤id)) with
 |false =>
  have fh00:=lt_of h0
  simp -implicitDefEqProofs only[go_sem,h0,fh00]
  exact Fini.ret rfl
 |true =>
 have fh00:=lt_of h0
 cases h1:(decide (id≤2147483647)) with
 |false =>
  have fh10:=gt_of h1
  simp -implicitDefEqProofs only[go_sem,h0,fh00,h1,fh10]
  exact Fini.ret rfl
 |true =>
 have fh10:=gt_of h1
 simp -implicitDefEqProofs only[go_sem,h0,fh00,h1,fh10]
 refine CO.intro i84 ?_
 simp -implicitDefEqProofs only[go_sem]
 refine CO.intro i84 ?_
 unfold emS
 cases h2:(txt.toList==(⟨#[]⟩:ByteArray).toList) with
 |false =>
  simp -implicitDefEqProofs only[go_sem,h2]
  exact Fini.ret rfl
 |true =>
 simp -implicitDefEqProofs only[go_sem,h2]
 refine CO.intro i83 ?_
 unfold clkB
 cases h3:(decide (((st:Nat):Int)≤1099511627776)) with
 |false =>
  have fh30:=gt_of h3
  simp -implicitDefEqProofs only[go_sem,h3,fh30]
  exact Fini.ret rfl
 |true =>
 have fh30:=gt_of h3
 cases h4:(decide (((en:Nat):Int)≤1099511627776)) with
 |false =>
  have fh40:=gt_of h4
  simp -implicitDefEqProofs only[go_sem,h3,fh30,h4,fh40]
  exact Fini.ret rfl
 |true =>
 have fh40:=gt_of h4
 simp -implicitDefEqProofs only[go_sem,h3,fh30,h4,fh40]
 refine CO.intro i90 ?_
 cases h5:(sta==0) with
 |false =>
  have fh50:=ne_of h5
  simp -implicitDefEqProofs only[go_sem,h5,fh50]
  exact Fini.ret rfl
 |true =>
 have fh50:=ne_of h5
 cases h6:(decide (0≤sta)) with
 |false =>
  have fh60:=lt_of h6
  simp -implicitDefEqProofs only[go_sem,h5,fh50,h6,fh60]
  exact Fini.ret rfl
 |true =>
 have fh60:=lt_of h6
 cases h7:(decide (sta≤3)) with
 |false =>
  have fh70:=gt_of h7
  simp -implicitDefEqProofs only[go_sem,h5,fh50,h6,fh60,h7,fh70]
  exact Fini.ret rfl
 |true =>
 have fh70:=gt_of h7
 simp -implicitDefEqProofs only[go_sem,h5,fh50,h6,fh60,h7,fh70]
 refine CO.intro i77 ?_
 simp -implicitDefEqProofs only[go_sem]
 refine CO.intro i83 ?_
 have hl:(((mt.length:Nat):Int)==0)= !(!emI mt.length):=by rw[Bool.not_not];rfl
 cases hm0:(!emI mt.length) with
 |false =>
  rw[hm0]at hl
  simp -implicitDefEqProofs only[go_sem,hl]
  exact Fini.ret rfl
 |true =>
 rw[hm0]at hl
 simp -implicitDefEqProofs only[go_sem,hl]
 refine CO.intro b1 ?_
 cases h8:(listB mt) with
 |false =>
  simp -implicitDefEqProofs only[go_sem]
  exact Fini.ret rfl
 |true =>
 simp -implicitDefEqProofs only[go_sem]
 refine CO.intro i66 ?_
 simp -implicitDefEqProofs only[go_sem]
 refine CO.intro b3 ?_
 cases h9:(mayB any lo hi) with
 |false =>
  simp -implicitDefEqProofs only[go_sem]
  exact Fini.ret rfl
 |true =>
 simp -implicitDefEqProofs only[go_sem]
 refine CO.intro i82 ?_
 simp -implicitDefEqProofs only[go_sem]
 refine CO.intro i82 ?_
 simp -implicitDefEqProofs only[go_sem]
 refine CO.intro b5 ?_
 cases h10:(noRl ⟨src,tgt,ra,rl,rh,eq⟩) with
 |false =>
  simp -implicitDefEqProofs only[go_sem]
  exact Fini.ret rfl
 |true =>
 simp -implicitDefEqProofs only[go_sem]
 refine CO.intro i76 ?_
 unfold emI zF
 cases h11:(((ls.length:Nat):Int)==0) with
 |false =>
  simp -implicitDefEqProofs only[go_sem,h11]
  exact Fini.ret rfl
 |true =>
 simp -implicitDefEqProofs only[go_sem,h11]
 refine CO.intro b7 ?_
 simp -implicitDefEqProofs only[go_sem]
 exact Fini.ret rfl
end
section
variable (σ:St)
set_option maxHeartbeats 8000000 in
theorem zb0 (r:ReM) (hr:ReSm r) (hd:dOf r.op=S8):Ans Tryz.prog 89 [reV r] σ (Bo (docB r S8)) σ:=by
 obtain⟨tok,op,id,txt,st,en,sta,mt,any,lo,hi,⟨src,tgt,ra,rl,rh,eq⟩,ls,val⟩:=r
 obtain⟨hm,hru,hls⟩:=hr
 simp only at hm hru hls hd
 have k1:=z0z σ op
 rw[hd]at k1
 have ii:=fun c h=>z1t σ S8 c h
 have i73:=ii 73 (by decide)
 have i84:=ii 84 (by decide)
 have i83:=ii 83 (by decide)
 have i90:=ii 90 (by decide)
 have i77:=ii 77 (by decide)
 have i66:=ii 66 (by decide)
 have i82:=ii 82 (by decide)
 have i76:=ii 76 (by decide)
 simp only[hc_8]at i73 i84 i83 i90 i77 i66 i82 i76
 have b0:=z1k σ txt
 have b1:=z0K σ mt hm
 have b2:=z0O σ (any,lo,hi)
 have b3:=z1i σ any lo hi
 have b4:=z15 σ ⟨src,tgt,ra,rl,rh,eq⟩ hru
 have b5:=z0X σ ⟨src,tgt,ra,rl,rh,eq⟩
 have b6:=z1l σ ls hls
 have b7:=z0t σ val
 unfold bandV at b2
 unfold ruV at b4 b5
 unfold docB
 simp only[hc_8,Bool.true_or,Bool.false_or,Bool.not_true,Bool.not_false,Bool.true_and,if_true,Bool.false_eq_true,if_false]
 refine Ans.of_run t89 ?_
 unfold reV reC
 simp -implicitDefEqProofs only[c89,r89,go_sem]
 refine CO.intro k1 ?_
 simp -implicitDefEqProofs only[go_sem]
 refine CO.intro i73 ?_
 cases h0:(id==0) with
 |false =>
  have fh00:=ne_of h0
  simp -implicitDefEqProofs only[go_sem,h0,fh00]
  exact Fini.ret rfl
 |true =>
 have fh00:=ne_of h0
 cases h1:(decide (0≤id)) with
 |false =>
  have fh10:=lt_of h1
  simp -implicitDefEqProofs only[go_sem,h0,fh00,h1,fh10]
  exact Fini.ret rfl
 |true =>
 have fh10:=lt_of h1
 cases h2:(decide (id≤2147483647)) with
 |false =>
  have fh20:=gt_of h2
  simp -implicitDefEqProofs only[go_sem,h0,fh00,h1,fh10,h2,fh20]
  exact Fini.ret rfl
 |true =>
 have fh20:=gt_of h2
 simp -implicitDefEqProofs only[go_sem,h0,fh00,h1,fh10,h2,fh20]
 refine CO.intro i84 ?_
 simp -implicitDefEqProofs only[go_sem]
 refine CO.intro i84 ?_
 unfold emS
 cases h3:(txt.toList==(⟨#[]⟩:ByteArray).toList) with
 |false =>
  simp -implicitDefEqProofs only[go_sem,h3]
  exact Fini.ret rfl
 |true =>
 simp -implicitDefEqProofs only[go_sem,h3]
 refine CO.intro i83 ?_
 unfold emU
 cases h4:(((st:Nat):Int)==0) with
 |false =>
  have fh40:=ne_of h4
  simp -implicitDefEqProofs only[go_sem,h4,fh40]
  exact Fini.ret rfl
 |true =>
 have fh40:=ne_of h4
 cases h5:(((en:Nat):Int)==0) with
 |false =>
  have fh50:=ne_of h5
  simp -implicitDefEqProofs only[go_sem,h4,fh40,h5,fh50]
  exact Fini.ret rfl
 |true =>
 have fh50:=ne_of h5
 unfold clkB
 cases h6:(decide (((st:Nat):Int)≤1099511627776)) with
 |false =>
  have fh60:=gt_of h6
  simp -implicitDefEqProofs only[go_sem,h4,fh40,h5,fh50,h6,fh60]
  exact Fini.ret rfl
 |true =>
 have fh60:=gt_of h6
 cases h7:(decide (((en:Nat):Int)≤1099511627776)) with
 |false =>
  have fh70:=gt_of h7
  simp -implicitDefEqProofs only[go_sem,h4,fh40,h5,fh50,h6,fh60,h7,fh70]
  exact Fini.ret rfl
 |true =>
 have fh70:=gt_of h7
 simp -implicitDefEqProofs only[go_sem,h4,fh40,h5,fh50,h6,fh60,h7,fh70]
 refine CO.intro i90 ?_
 cases h8:(decide (0≤sta)) with
 |false =>
  have fh80:=lt_of h8
  simp -implicitDefEqProofs only[go_sem,h8,fh80]
  exact Fini.ret rfl
 |true =>
 have fh80:=lt_of h8
 cases h9:(decide (sta≤3)) with
 |false =>
  have fh90:=gt_of h9
  simp -implicitDefEqProofs only[go_sem,h8,fh80,h9,fh90]
  exact Fini.ret rfl
 |true =>
 have fh90:=gt_of h9
 simp -implicitDefEqProofs only[go_sem,h8,fh80,h9,fh90]
 refine CO.intro i77 ?_
 have hl:=z3u mt.length
 cases hm0:(emI mt.length) with
 |false =>
  rw[hm0]at hl
  simp -implicitDefEqProofs only[go_sem,hl]
  exact Fini.ret rfl
 |true =>
 rw[hm0]at hl
 simp -implicitDefEqProofs only[go_sem,hl]
 refine CO.intro i83 ?_
 simp -implicitDefEqProofs only[go_sem]
 refine CO.intro b1 ?_
 cases h10:(listB mt) with
 |false =>
  simp -implicitDefEqProofs only[go_sem]
  exact Fini.ret rfl
 |true =>
 simp -implicitDefEqProofs only[go_sem]
 refine CO.intro i66 ?_
 simp -implicitDefEqProofs only[go_sem]
 refine CO.intro b2 ?_
 cases h11:(noBd (any,lo,hi)) with
 |false =>
  simp -implicitDefEqProofs only[go_sem]
  exact Fini.ret rfl
 |true =>
 simp -implicitDefEqProofs only[go_sem]
 refine CO.intro b3 ?_
 cases h12:(mayB any lo hi) with
 |false =>
  simp -implicitDefEqProofs only[go_sem]
  exact Fini.ret rfl
 |true =>
 simp -implicitDefEqProofs only[go_sem]
 refine CO.intro i82 ?_
 simp -implicitDefEqProofs only[go_sem]
 refine CO.intro i82 ?_
 simp -implicitDefEqProofs only[go_sem]
 refine CO.intro b5 ?_
 cases h13:(noRl ⟨src,tgt,ra,rl,rh,eq⟩) with
 |false =>
  simp -implicitDefEqProofs only[go_sem]
  exact Fini.ret rfl
 |true =>
 simp -implicitDefEqProofs only[go_sem]
 refine CO.intro i76 ?_
 unfold emI zF
 cases h14:(((ls.length:Nat):Int)==0) with
 |false =>
  simp -implicitDefEqProofs only[go_sem,h14]
  exact Fini.ret rfl
 |true =>
 simp -implicitDefEqProofs only[go_sem,h14]
 refine CO.intro b7 ?_
 simp -implicitDefEqProofs only[go_sem]
 exact Fini.ret rfl
set_option maxHeartbeats 8000000 in
theorem z8d (r:ReM) (hr:ReSm r) (hd:dOf r.op=S128):Ans Tryz.prog 89 [reV r] σ (Bo (docB r S128)) σ:=by
 obtain⟨tok,op,id,txt,st,en,sta,mt,any,lo,hi,⟨src,tgt,ra,rl,rh,eq⟩,ls,val⟩:=r
 obtain⟨hm,hru,hls⟩:=hr
 simp only at hm hru hls hd
 have k1:=z0z σ op
 rw[hd]at k1
 have ii:=fun c h=>z1t σ S128 c h
 have i73:=ii 73 (by decide)
 have i84:=ii 84 (by decide)
 have i83:=ii 83 (by decide)
 have i90:=ii 90 (by decide)
 have i77:=ii 77 (by decide)
 have i66:=ii 66 (by decide)
 have i82:=ii 82 (by decide)
 have i76:=ii 76 (by decide)
 simp only[z9J]at i73 i84 i83 i90 i77 i66 i82 i76
 have b0:=z1k σ txt
 have b1:=z0K σ mt hm
 have b2:=z0O σ (any,lo,hi)
 have b3:=z1i σ any lo hi
 have b4:=z15 σ ⟨src,tgt,ra,rl,rh,eq⟩ hru
 have b5:=z0X σ ⟨src,tgt,ra,rl,rh,eq⟩
 have b6:=z1l σ ls hls
 have b7:=z0t σ val
 unfold bandV at b2
 unfold ruV at b4 b5
 unfold docB
 simp only[z9J,Bool.true_or,Bool.false_or,Bool.not_true,Bool.not_false,Bool.true_and,if_true,Bool.false_eq_true,if_false]
 refine Ans.of_run t89 ?_
 unfold reV reC
 simp -implicitDefEqProofs only[c89,r89,go_sem]
 refine CO.intro k1 ?_
 simp -implicitDefEqProofs only[go_sem]
 refine CO.intro i73 ?_
 cases h0:(id==0) with
 |false =>
  have fh00:=ne_of h0
  simp -implicitDefEqProofs only[go_sem,h0,fh00]
  exact Fini.ret rfl
 |true =>
 have fh00:=ne_of h0
 cases h1:(decide (0≤id)) with
 |false =>
  have fh10:=lt_of h1
  simp -implicitDefEqProofs only[go_sem,h0,fh00,h1,fh10]
  exact Fini.ret rfl
 |true =>
 have fh10:=lt_of h1
 cases h2:(decide (id≤2147483647)) with
 |false =>
  have fh20:=gt_of h2
  simp -implicitDefEqProofs only[go_sem,h0,fh00,h1,fh10,h2,fh20]
  exact Fini.ret rfl
 |true =>
 have fh20:=gt_of h2
 simp -implicitDefEqProofs only[go_sem,h0,fh00,h1,fh10,h2,fh20]
 refine CO.intro i84 ?_
 simp -implicitDefEqProofs only[go_sem]
 refine CO.intro i84 ?_
 unfold emS
 cases h3:(txt.toList==(⟨#[]⟩:ByteArray).toList) with
 |false =>
  simp -implicitDefEqProofs only[go_sem,h3]
  exact Fini.ret rfl
 |true =>
 simp -implicitDefEqProofs only[go_sem,h3]
 refine CO.intro i83 ?_
 unfold emU
 cases h4:(((st:Nat):Int)==0) with
 |false =>
  have fh40:=ne_of h4
  simp -implicitDefEqProofs only[go_sem,h4,fh40]
  exact Fini.ret rfl
 |true =>
 have fh40:=ne_of h4
 cases h5:(((en:Nat):Int)==0) with
 |false =>
  have fh50:=ne_of h5
  simp -implicitDefEqProofs only[go_sem,h4,fh40,h5,fh50]
  exact Fini.ret rfl
 |true =>
 have fh50:=ne_of h5
 unfold clkB
 cases h6:(decide (((st:Nat):Int)≤1099511627776)) with
 |false =>
  have fh60:=gt_of h6
  simp -implicitDefEqProofs only[go_sem,h4,fh40,h5,fh50,h6,fh60]
  exact Fini.ret rfl
 |true =>
 have fh60:=gt_of h6
 cases h7:(decide (((en:Nat):Int)≤1099511627776)) with
 |false =>
  have fh70:=gt_of h7
  simp -implicitDefEqProofs only[go_sem,h4,fh40,h5,fh50,h6,fh60,h7,fh70]
  exact Fini.ret rfl
 |true =>
 have fh70:=gt_of h7
 simp -implicitDefEqProofs only[go_sem,h4,fh40,h5,fh50,h6,fh60,h7,fh70]
 refine CO.intro i90 ?_
 cases h8:(sta==0) with
 |false =>
  have fh80:=ne_of h8
  simp -implicitDefEqProofs only[go_sem,h8,fh80]
  exact Fini.ret rfl
 |true =>
 have fh80:=ne_of h8
 cases h9:(decide (0≤sta)) with
 |false =>
  have fh90:=lt_of h9
  simp -implicitDefEqProofs only[go_sem,h8,fh80,h9,fh90]
  exact Fini.ret rfl
 |true =>
 have fh90:=lt_of h9
 cases h10:(decide (sta≤3)) with
 |false =>
  have fh100:=gt_of h10
  simp -implicitDefEqProofs only[go_sem,h8,fh80,h9,fh90,h10,fh100]
  exact Fini.ret rfl
 |true =>
 have fh100:=gt_of h10
 simp -implicitDefEqProofs only[go_sem,h8,fh80,h9,fh90,h10,fh100]
 refine CO.intro i77 ?_
 have hl:=z3u mt.length
 cases hm0:(emI mt.length) with
 |false =>
  rw[hm0]at hl
  simp -implicitDefEqProofs only[go_sem,hl]
  exact Fini.ret rfl
 |true =>
 rw[hm0]at hl
 simp -implicitDefEqProofs only[go_sem,hl]
 refine CO.intro i83 ?_
 simp -implicitDefEqProofs only[go_sem]
 refine CO.intro b1 ?_
 cases h11:(listB mt) with
 |false =>
  simp -implicitDefEqProofs only[go_sem]
  exact Fini.ret rfl
 |true =>
 simp -implicitDefEqProofs only[go_sem]
 refine CO.intro i66 ?_
 simp -implicitDefEqProofs only[go_sem]
 refine CO.intro b2 ?_
 cases h12:(noBd (any,lo,hi)) with
 |false =>
  simp -implicitDefEqProofs only[go_sem]
  exact Fini.ret rfl
 |true =>
 simp -implicitDefEqProofs only[go_sem]
 refine CO.intro b3 ?_
 cases h13:(mayB any lo hi) with
 |false =>
  simp -implicitDefEqProofs only[go_sem]
  exact Fini.ret rfl
 |true =>
 simp -implicitDefEqProofs only[go_sem]
 refine CO.intro i82 ?_
 simp -implicitDefEqProofs only[go_sem]
 refine CO.intro b4 ?_
 cases h14:(ruIs ⟨src,tgt,ra,rl,rh,eq⟩) with
 |false =>
  simp -implicitDefEqProofs only[go_sem]
  exact Fini.ret rfl
 |true =>
 simp -implicitDefEqProofs only[go_sem]
 refine CO.intro i82 ?_
 simp -implicitDefEqProofs only[go_sem]
 refine CO.intro i76 ?_
 unfold emI zF
 cases h15:(((ls.length:Nat):Int)==0) with
 |false =>
  simp -implicitDefEqProofs only[go_sem,h15]
  exact Fini.ret rfl
 |true =>
 simp -implicitDefEqProofs only[go_sem,h15]
 refine CO.intro b7 ?_
 simp -implicitDefEqProofs only[go_sem]
 exact Fini.ret rfl
end
end Go.Proofs.YtmkmhhjkdaklbaaGreat
