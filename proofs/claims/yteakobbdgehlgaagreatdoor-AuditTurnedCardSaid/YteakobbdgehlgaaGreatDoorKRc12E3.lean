/- Whether a request may be, by the document, at some of the strings of fields. Printed by a program. No condition. -/
import Derived.Test.YteakobbdgehlgaaGreatDoorKRd3E3
import Derived.Test.YteakobbdgehlgaaGreatDoorKRq2cE3
import Derived.Test.YteakobbdgehlgaaGreatDoorKXMr2E3
import Derived.Test.YteakobbdgehlgaaGreatDoorKShA1E3
import Derived.Test.YteakobbdgehlgaaGreatDoorKRc6E3
set_option linter.unusedSimpArgs false
set_option linter.unusedVariables false
set_option linter.unusedSectionVars false
set_option maxRecDepth 100000
set_option maxHeartbeats 8000000
namespace Go.Proofs.YteakobbdgehlgaaGreatDoor
open Go Go.Ab Go.Cod
section
variable (σ:St)
theorem z5n (r:ReM) (hr:ReSm r) (hd:dOf r.op=S0):Ans Tryz.prog 76 [reV r] σ (Bo (docB r S0)) σ:=by
 obtain⟨tok,op,id,j1,st,en,u1,mt,any,lo,hi,⟨src,l0,ra,rl,rh,eq⟩,ls,val⟩:=r;obtain⟨hm,r1,t1⟩:=hr;simp only at hm r1 t1 hd;have k1:=z0X σ op;rw[hd]at k1;have ii:=fun c h=>z2q σ S0 c h
 have n1:=ii 73 (by decide)
 have o0:=ii 84 (by decide)
 have e0:=ii 83 (by decide)
 have y1:=ii 90 (by decide)
 have q1:=ii 77 (by decide)
 have x1:=ii 66 (by decide)
 have f0:=ii 82 (by decide)
 have m1:=ii 76 (by decide)
 simp only[hc_0]at n1 o0 e0 y1 q1 x1 f0 m1;have b0:=z2p σ j1;have b1:=z1g σ mt hm;have b2:=z1o σ (any,lo,hi);have b3:=z2a σ any lo hi;have b4:=z1P σ ⟨src,l0,ra,rl,rh,eq⟩ r1;have b5:=z1D σ ⟨src,l0,ra,rl,rh,eq⟩;have b6:=z2c σ ls t1;have b7:=z0Q σ val;unfold bandV at b2;unfold ruV at b4 b5;unfold docB;simp only[hc_0,Bool.true_or,Bool.false_or,Bool.not_true,Bool.not_false,Bool.true_and,if_true,Bool.false_eq_true,if_false];refine Ans.of_run t76 ?_;unfold reV reC;simp -implicitDefEqProofs only[c76,r76,go_sem];refine CO.intro k1 ?_;simp -implicitDefEqProofs only[go_sem];refine CO.intro n1 ?_
 cases h0:(id==0) with
 |false =>
  have k0:=ne_of h0;simp -implicitDefEqProofs only[go_sem,h0,k0];exact Fini.ret rfl
 |true =>
 have k0:=ne_of h0
 cases h1:(decide (0≤id)) with
 |false =>
  have m0:=lt_of h1;simp -implicitDefEqProofs only[go_sem,h0,k0,h1,m0];exact Fini.ret rfl
 |true =>
 have m0:=lt_of h1
 cases h2:(decide (id≤2147483647)) with
 |false =>
  have t0:=gt_of h2;simp -implicitDefEqProofs only[go_sem,h0,k0,h1,m0,h2,t0];exact Fini.ret rfl
 |true =>
 have t0:=gt_of h2;simp -implicitDefEqProofs only[go_sem,h0,k0,h1,m0,h2,t0];refine CO.intro o0 ?_;simp -implicitDefEqProofs only[go_sem];refine CO.intro o0 ?_;unfold emS
 cases h3:(j1.toList==(⟨#[]⟩:ByteArray).toList) with
 |false =>
  simp -implicitDefEqProofs only[go_sem,h3];exact Fini.ret rfl
 |true =>
 simp -implicitDefEqProofs only[go_sem,h3];refine CO.intro e0 ?_;unfold emU
 cases h4:(((st:Nat):Int)==0) with
 |false =>
  have u0:=ne_of h4;simp -implicitDefEqProofs only[go_sem,h4,u0];exact Fini.ret rfl
 |true =>
 have u0:=ne_of h4
 cases h5:(((en:Nat):Int)==0) with
 |false =>
  have q0:=ne_of h5;simp -implicitDefEqProofs only[go_sem,h4,u0,h5,q0];exact Fini.ret rfl
 |true =>
 have q0:=ne_of h5;unfold clkB
 cases h6:(decide (((st:Nat):Int)≤1099511627776)) with
 |false =>
  have n0:=gt_of h6;simp -implicitDefEqProofs only[go_sem,h4,u0,h5,q0,h6,n0];exact Fini.ret rfl
 |true =>
 have n0:=gt_of h6
 cases h7:(decide (((en:Nat):Int)≤1099511627776)) with
 |false =>
  have d0:=gt_of h7;simp -implicitDefEqProofs only[go_sem,h4,u0,h5,q0,h6,n0,h7,d0];exact Fini.ret rfl
 |true =>
 have d0:=gt_of h7;simp -implicitDefEqProofs only[go_sem,h4,u0,h5,q0,h6,n0,h7,d0];refine CO.intro y1 ?_
 cases h8:(u1==0) with
 |false =>
  have y0:=ne_of h8;simp -implicitDefEqProofs only[go_sem,h8,y0];exact Fini.ret rfl
 |true =>
 have y0:=ne_of h8
 cases h9:(decide (0≤u1)) with
 |false =>
  have r0:=lt_of h9;simp -implicitDefEqProofs only[go_sem,h8,y0,h9,r0];exact Fini.ret rfl
 |true =>
 have r0:=lt_of h9
 cases h10:(decide (u1≤3)) with
 |false =>
  have j0:=gt_of h10;simp -implicitDefEqProofs only[go_sem,h8,y0,h9,r0,h10,j0];exact Fini.ret rfl
 |true =>
 have j0:=gt_of h10;simp -implicitDefEqProofs only[go_sem,h8,y0,h9,r0,h10,j0];refine CO.intro q1 ?_;have hl:=z55 mt.length
 cases hm0:(emI mt.length) with
 |false =>
  rw[hm0]at hl;simp -implicitDefEqProofs only[go_sem,hl];exact Fini.ret rfl
 |true =>
 rw[hm0]at hl;simp -implicitDefEqProofs only[go_sem,hl];refine CO.intro e0 ?_;simp -implicitDefEqProofs only[go_sem];refine CO.intro b1 ?_
 cases h11:(listB mt) with
 |false =>
  simp -implicitDefEqProofs only[go_sem];exact Fini.ret rfl
 |true =>
 simp -implicitDefEqProofs only[go_sem];refine CO.intro x1 ?_;simp -implicitDefEqProofs only[go_sem];refine CO.intro b2 ?_
 cases h12:(noBd (any,lo,hi)) with
 |false =>
  simp -implicitDefEqProofs only[go_sem];exact Fini.ret rfl
 |true =>
 simp -implicitDefEqProofs only[go_sem];refine CO.intro b3 ?_
 cases h13:(mayB any lo hi) with
 |false =>
  simp -implicitDefEqProofs only[go_sem];exact Fini.ret rfl
 |true =>
 simp -implicitDefEqProofs only[go_sem];refine CO.intro f0 ?_;simp -implicitDefEqProofs only[go_sem];refine CO.intro f0 ?_;simp -implicitDefEqProofs only[go_sem];refine CO.intro b5 ?_
 cases h14:(noRl ⟨src,l0,ra,rl,rh,eq⟩) with
 |false =>
  simp -implicitDefEqProofs only[go_sem];exact Fini.ret rfl
 |true =>
 simp -implicitDefEqProofs only[go_sem];refine CO.intro m1 ?_;unfold emI zF
 cases h15:(((ls.length:Nat):Int)==0) with
 |false =>
  simp -implicitDefEqProofs only[go_sem,h15];exact Fini.ret rfl
 |true =>
 simp -implicitDefEqProofs only[go_sem,h15];refine CO.intro b7 ?_;simp -implicitDefEqProofs only[go_sem];exact Fini.ret rfl
theorem z4B (r:ReM) (hr:ReSm r) (hd:dOf r.op=S1):Ans Tryz.prog 76 [reV r] σ (Bo (docB r S1)) σ:=by
 obtain⟨tok,op,id,q1,st,en,o0,mt,any,lo,hi,⟨src,f0,ra,rl,rh,eq⟩,ls,val⟩:=r;obtain⟨hm,n1,r1⟩:=hr;simp only at hm n1 r1 hd;have k1:=z0X σ op;rw[hd]at k1;have ii:=fun c h=>z2q σ S1 c h
 have m1:=ii 73 (by decide)
 have l0:=ii 84 (by decide)
 have d0:=ii 83 (by decide)
 have x1:=ii 90 (by decide)
 have y1:=ii 77 (by decide)
 have u1:=ii 66 (by decide)
 have e0:=ii 82 (by decide)
 have j1:=ii 76 (by decide)
 simp only[hc_1]at m1 l0 d0 x1 y1 u1 e0 j1;have b0:=z2p σ q1;have b1:=z1g σ mt hm;have b2:=z1o σ (any,lo,hi);have b3:=z2a σ any lo hi;have b4:=z1P σ ⟨src,f0,ra,rl,rh,eq⟩ n1;have b5:=z1D σ ⟨src,f0,ra,rl,rh,eq⟩;have b6:=z2c σ ls r1;have b7:=z0Q σ val;unfold bandV at b2;unfold ruV at b4 b5;unfold docB;simp only[hc_1,Bool.true_or,Bool.false_or,Bool.not_true,Bool.not_false,Bool.true_and,if_true,Bool.false_eq_true,if_false];refine Ans.of_run t76 ?_;unfold reV reC;simp -implicitDefEqProofs only[c76,r76,go_sem];refine CO.intro k1 ?_;simp -implicitDefEqProofs only[go_sem];refine CO.intro m1 ?_
 cases h0:(decide (0≤id)) with
 |false =>
  have m0:=lt_of h0;simp -implicitDefEqProofs only[go_sem,h0,m0];exact Fini.ret rfl
 |true =>
 have m0:=lt_of h0
 cases h1:(decide (id≤2147483647)) with
 |false =>
  have n0:=gt_of h1;simp -implicitDefEqProofs only[go_sem,h0,m0,h1,n0];exact Fini.ret rfl
 |true =>
 have n0:=gt_of h1;simp -implicitDefEqProofs only[go_sem,h0,m0,h1,n0];refine CO.intro l0 ?_;simp -implicitDefEqProofs only[go_sem];refine CO.intro l0 ?_;unfold emS
 cases h2:(q1.toList==(⟨#[]⟩:ByteArray).toList) with
 |false =>
  simp -implicitDefEqProofs only[go_sem,h2];exact Fini.ret rfl
 |true =>
 simp -implicitDefEqProofs only[go_sem,h2];refine CO.intro d0 ?_;unfold emU
 cases h3:(((st:Nat):Int)==0) with
 |false =>
  have u0:=ne_of h3;simp -implicitDefEqProofs only[go_sem,h3,u0];exact Fini.ret rfl
 |true =>
 have u0:=ne_of h3
 cases h4:(((en:Nat):Int)==0) with
 |false =>
  have y0:=ne_of h4;simp -implicitDefEqProofs only[go_sem,h3,u0,h4,y0];exact Fini.ret rfl
 |true =>
 have y0:=ne_of h4;unfold clkB
 cases h5:(decide (((st:Nat):Int)≤1099511627776)) with
 |false =>
  have k0:=gt_of h5;simp -implicitDefEqProofs only[go_sem,h3,u0,h4,y0,h5,k0];exact Fini.ret rfl
 |true =>
 have k0:=gt_of h5
 cases h6:(decide (((en:Nat):Int)≤1099511627776)) with
 |false =>
  have r0:=gt_of h6;simp -implicitDefEqProofs only[go_sem,h3,u0,h4,y0,h5,k0,h6,r0];exact Fini.ret rfl
 |true =>
 have r0:=gt_of h6;simp -implicitDefEqProofs only[go_sem,h3,u0,h4,y0,h5,k0,h6,r0];refine CO.intro x1 ?_
 cases h7:(o0==0) with
 |false =>
  have q0:=ne_of h7;simp -implicitDefEqProofs only[go_sem,h7,q0];exact Fini.ret rfl
 |true =>
 have q0:=ne_of h7
 cases h8:(decide (0≤o0)) with
 |false =>
  have j0:=lt_of h8;simp -implicitDefEqProofs only[go_sem,h7,q0,h8,j0];exact Fini.ret rfl
 |true =>
 have j0:=lt_of h8
 cases h9:(decide (o0≤3)) with
 |false =>
  have t0:=gt_of h9;simp -implicitDefEqProofs only[go_sem,h7,q0,h8,j0,h9,t0];exact Fini.ret rfl
 |true =>
 have t0:=gt_of h9;simp -implicitDefEqProofs only[go_sem,h7,q0,h8,j0,h9,t0];refine CO.intro y1 ?_;have hl:=z55 mt.length
 cases hm0:(emI mt.length) with
 |false =>
  rw[hm0]at hl;simp -implicitDefEqProofs only[go_sem,hl];exact Fini.ret rfl
 |true =>
 rw[hm0]at hl;simp -implicitDefEqProofs only[go_sem,hl];refine CO.intro d0 ?_;simp -implicitDefEqProofs only[go_sem];refine CO.intro b1 ?_
 cases h10:(listB mt) with
 |false =>
  simp -implicitDefEqProofs only[go_sem];exact Fini.ret rfl
 |true =>
 simp -implicitDefEqProofs only[go_sem];refine CO.intro u1 ?_;simp -implicitDefEqProofs only[go_sem];refine CO.intro b2 ?_
 cases h11:(noBd (any,lo,hi)) with
 |false =>
  simp -implicitDefEqProofs only[go_sem];exact Fini.ret rfl
 |true =>
 simp -implicitDefEqProofs only[go_sem];refine CO.intro b3 ?_
 cases h12:(mayB any lo hi) with
 |false =>
  simp -implicitDefEqProofs only[go_sem];exact Fini.ret rfl
 |true =>
 simp -implicitDefEqProofs only[go_sem];refine CO.intro e0 ?_;simp -implicitDefEqProofs only[go_sem];refine CO.intro e0 ?_;simp -implicitDefEqProofs only[go_sem];refine CO.intro b5 ?_
 cases h13:(noRl ⟨src,f0,ra,rl,rh,eq⟩) with
 |false =>
  simp -implicitDefEqProofs only[go_sem];exact Fini.ret rfl
 |true =>
 simp -implicitDefEqProofs only[go_sem];refine CO.intro j1 ?_;unfold emI zF
 cases h14:(((ls.length:Nat):Int)==0) with
 |false =>
  simp -implicitDefEqProofs only[go_sem,h14];exact Fini.ret rfl
 |true =>
 simp -implicitDefEqProofs only[go_sem,h14];refine CO.intro b7 ?_;simp -implicitDefEqProofs only[go_sem];exact Fini.ret rfl
theorem zaV (r:ReM) (hr:ReSm r) (hd:dOf r.op=S3):Ans Tryz.prog 76 [reV r] σ (Bo (docB r S3)) σ:=by
 obtain⟨tok,op,id,q1,st,en,o0,mt,any,lo,hi,⟨src,f0,ra,rl,rh,eq⟩,ls,val⟩:=r;obtain⟨hm,n1,r1⟩:=hr;simp only at hm n1 r1 hd;have k1:=z0X σ op;rw[hd]at k1;have ii:=fun c h=>z2q σ S3 c h
 have m1:=ii 73 (by decide)
 have l0:=ii 84 (by decide)
 have d0:=ii 83 (by decide)
 have x1:=ii 90 (by decide)
 have y1:=ii 77 (by decide)
 have u1:=ii 66 (by decide)
 have e0:=ii 82 (by decide)
 have j1:=ii 76 (by decide)
 simp only[hc_3]at m1 l0 d0 x1 y1 u1 e0 j1;have b0:=z2p σ q1;have b1:=z1g σ mt hm;have b2:=z1o σ (any,lo,hi);have b3:=z2a σ any lo hi;have b4:=z1P σ ⟨src,f0,ra,rl,rh,eq⟩ n1;have b5:=z1D σ ⟨src,f0,ra,rl,rh,eq⟩;have b6:=z2c σ ls r1;have b7:=z0Q σ val;unfold bandV at b2;unfold ruV at b4 b5;unfold docB;simp only[hc_3,Bool.true_or,Bool.false_or,Bool.not_true,Bool.not_false,Bool.true_and,if_true,Bool.false_eq_true,if_false];refine Ans.of_run t76 ?_;unfold reV reC;simp -implicitDefEqProofs only[c76,r76,go_sem];refine CO.intro k1 ?_;simp -implicitDefEqProofs only[go_sem];refine CO.intro m1 ?_
 cases h0:(decide (0≤id)) with
 |false =>
  have m0:=lt_of h0;simp -implicitDefEqProofs only[go_sem,h0,m0];exact Fini.ret rfl
 |true =>
 have m0:=lt_of h0
 cases h1:(decide (id≤2147483647)) with
 |false =>
  have n0:=gt_of h1;simp -implicitDefEqProofs only[go_sem,h0,m0,h1,n0];exact Fini.ret rfl
 |true =>
 have n0:=gt_of h1;simp -implicitDefEqProofs only[go_sem,h0,m0,h1,n0];refine CO.intro l0 ?_;simp -implicitDefEqProofs only[go_sem];refine CO.intro b0 ?_
 cases h2:(tokB q1) with
 |false =>
  simp -implicitDefEqProofs only[go_sem];exact Fini.ret rfl
 |true =>
 simp -implicitDefEqProofs only[go_sem];refine CO.intro l0 ?_;simp -implicitDefEqProofs only[go_sem];refine CO.intro d0 ?_;unfold emU
 cases h3:(((st:Nat):Int)==0) with
 |false =>
  have u0:=ne_of h3;simp -implicitDefEqProofs only[go_sem,h3,u0];exact Fini.ret rfl
 |true =>
 have u0:=ne_of h3
 cases h4:(((en:Nat):Int)==0) with
 |false =>
  have y0:=ne_of h4;simp -implicitDefEqProofs only[go_sem,h3,u0,h4,y0];exact Fini.ret rfl
 |true =>
 have y0:=ne_of h4;unfold clkB
 cases h5:(decide (((st:Nat):Int)≤1099511627776)) with
 |false =>
  have k0:=gt_of h5;simp -implicitDefEqProofs only[go_sem,h3,u0,h4,y0,h5,k0];exact Fini.ret rfl
 |true =>
 have k0:=gt_of h5
 cases h6:(decide (((en:Nat):Int)≤1099511627776)) with
 |false =>
  have r0:=gt_of h6;simp -implicitDefEqProofs only[go_sem,h3,u0,h4,y0,h5,k0,h6,r0];exact Fini.ret rfl
 |true =>
 have r0:=gt_of h6;simp -implicitDefEqProofs only[go_sem,h3,u0,h4,y0,h5,k0,h6,r0];refine CO.intro x1 ?_
 cases h7:(o0==0) with
 |false =>
  have q0:=ne_of h7;simp -implicitDefEqProofs only[go_sem,h7,q0];exact Fini.ret rfl
 |true =>
 have q0:=ne_of h7
 cases h8:(decide (0≤o0)) with
 |false =>
  have j0:=lt_of h8;simp -implicitDefEqProofs only[go_sem,h7,q0,h8,j0];exact Fini.ret rfl
 |true =>
 have j0:=lt_of h8
 cases h9:(decide (o0≤3)) with
 |false =>
  have t0:=gt_of h9;simp -implicitDefEqProofs only[go_sem,h7,q0,h8,j0,h9,t0];exact Fini.ret rfl
 |true =>
 have t0:=gt_of h9;simp -implicitDefEqProofs only[go_sem,h7,q0,h8,j0,h9,t0];refine CO.intro y1 ?_;have hl:=z55 mt.length
 cases hm0:(emI mt.length) with
 |false =>
  rw[hm0]at hl;simp -implicitDefEqProofs only[go_sem,hl];exact Fini.ret rfl
 |true =>
 rw[hm0]at hl;simp -implicitDefEqProofs only[go_sem,hl];refine CO.intro d0 ?_;simp -implicitDefEqProofs only[go_sem];refine CO.intro b1 ?_
 cases h10:(listB mt) with
 |false =>
  simp -implicitDefEqProofs only[go_sem];exact Fini.ret rfl
 |true =>
 simp -implicitDefEqProofs only[go_sem];refine CO.intro u1 ?_;simp -implicitDefEqProofs only[go_sem];refine CO.intro b2 ?_
 cases h11:(noBd (any,lo,hi)) with
 |false =>
  simp -implicitDefEqProofs only[go_sem];exact Fini.ret rfl
 |true =>
 simp -implicitDefEqProofs only[go_sem];refine CO.intro b3 ?_
 cases h12:(mayB any lo hi) with
 |false =>
  simp -implicitDefEqProofs only[go_sem];exact Fini.ret rfl
 |true =>
 simp -implicitDefEqProofs only[go_sem];refine CO.intro e0 ?_;simp -implicitDefEqProofs only[go_sem];refine CO.intro e0 ?_;simp -implicitDefEqProofs only[go_sem];refine CO.intro b5 ?_
 cases h13:(noRl ⟨src,f0,ra,rl,rh,eq⟩) with
 |false =>
  simp -implicitDefEqProofs only[go_sem];exact Fini.ret rfl
 |true =>
 simp -implicitDefEqProofs only[go_sem];refine CO.intro j1 ?_;unfold emI zF
 cases h14:(((ls.length:Nat):Int)==0) with
 |false =>
  simp -implicitDefEqProofs only[go_sem,h14];exact Fini.ret rfl
 |true =>
 simp -implicitDefEqProofs only[go_sem,h14];refine CO.intro b7 ?_;simp -implicitDefEqProofs only[go_sem];exact Fini.ret rfl
end
section
variable (σ:St)
theorem zbY (r:ReM) (hr:ReSm r) (hd:dOf r.op=S116):Ans Tryz.prog 76 [reV r] σ (Bo (docB r S116)) σ:=by
 obtain⟨tok,op,id,y1,st,en,l0,mt,any,lo,hi,⟨src,e0,ra,rl,rh,eq⟩,ls,val⟩:=r;obtain⟨hm,m1,n1⟩:=hr;simp only at hm m1 n1 hd;have k1:=z0X σ op;rw[hd]at k1;have ii:=fun c h=>z2q σ S116 c h
 have j1:=ii 73 (by decide)
 have f0:=ii 84 (by decide)
 have t0:=ii 83 (by decide)
 have u1:=ii 90 (by decide)
 have x1:=ii 77 (by decide)
 have o0:=ii 66 (by decide)
 have d0:=ii 82 (by decide)
 have q1:=ii 76 (by decide)
 simp only[zdQ]at j1 f0 t0 u1 x1 o0 d0 q1;have b0:=z2p σ y1;have b1:=z1g σ mt hm;have b2:=z1o σ (any,lo,hi);have b3:=z2a σ any lo hi;have b4:=z1P σ ⟨src,e0,ra,rl,rh,eq⟩ m1;have b5:=z1D σ ⟨src,e0,ra,rl,rh,eq⟩;have b6:=z2c σ ls n1;have b7:=z0Q σ val;unfold bandV at b2;unfold ruV at b4 b5;unfold docB;simp only[zdQ,Bool.true_or,Bool.false_or,Bool.not_true,Bool.not_false,Bool.true_and,if_true,Bool.false_eq_true,if_false];refine Ans.of_run t76 ?_;unfold reV reC;simp -implicitDefEqProofs only[c76,r76,go_sem];refine CO.intro k1 ?_;simp -implicitDefEqProofs only[go_sem];refine CO.intro j1 ?_
 cases h0:(id==0) with
 |false =>
  have y0:=ne_of h0;simp -implicitDefEqProofs only[go_sem,h0,y0];exact Fini.ret rfl
 |true =>
 have y0:=ne_of h0
 cases h1:(decide (0≤id)) with
 |false =>
  have q0:=lt_of h1;simp -implicitDefEqProofs only[go_sem,h0,y0,h1,q0];exact Fini.ret rfl
 |true =>
 have q0:=lt_of h1
 cases h2:(decide (id≤2147483647)) with
 |false =>
  have r0:=gt_of h2;simp -implicitDefEqProofs only[go_sem,h0,y0,h1,q0,h2,r0];exact Fini.ret rfl
 |true =>
 have r0:=gt_of h2;simp -implicitDefEqProofs only[go_sem,h0,y0,h1,q0,h2,r0];refine CO.intro f0 ?_;simp -implicitDefEqProofs only[go_sem];refine CO.intro f0 ?_;unfold emS
 cases h3:(y1.toList==(⟨#[]⟩:ByteArray).toList) with
 |false =>
  simp -implicitDefEqProofs only[go_sem,h3];exact Fini.ret rfl
 |true =>
 simp -implicitDefEqProofs only[go_sem,h3];refine CO.intro t0 ?_;unfold clkB
 cases h4:(decide (((st:Nat):Int)≤1099511627776)) with
 |false =>
  have j0:=gt_of h4;simp -implicitDefEqProofs only[go_sem,h4,j0];exact Fini.ret rfl
 |true =>
 have j0:=gt_of h4
 cases h5:(decide (((en:Nat):Int)≤1099511627776)) with
 |false =>
  have n0:=gt_of h5;simp -implicitDefEqProofs only[go_sem,h4,j0,h5,n0];exact Fini.ret rfl
 |true =>
 have n0:=gt_of h5;simp -implicitDefEqProofs only[go_sem,h4,j0,h5,n0];refine CO.intro u1 ?_
 cases h6:(l0==0) with
 |false =>
  have u0:=ne_of h6;simp -implicitDefEqProofs only[go_sem,h6,u0];exact Fini.ret rfl
 |true =>
 have u0:=ne_of h6
 cases h7:(decide (0≤l0)) with
 |false =>
  have k0:=lt_of h7;simp -implicitDefEqProofs only[go_sem,h6,u0,h7,k0];exact Fini.ret rfl
 |true =>
 have k0:=lt_of h7
 cases h8:(decide (l0≤3)) with
 |false =>
  have m0:=gt_of h8;simp -implicitDefEqProofs only[go_sem,h6,u0,h7,k0,h8,m0];exact Fini.ret rfl
 |true =>
 have m0:=gt_of h8;simp -implicitDefEqProofs only[go_sem,h6,u0,h7,k0,h8,m0];refine CO.intro x1 ?_;simp -implicitDefEqProofs only[go_sem];refine CO.intro t0 ?_;have hl:(((mt.length:Nat):Int)==0)= !(!emI mt.length):=by rw[Bool.not_not];rfl
 cases hm0:(!emI mt.length) with
 |false =>
  rw[hm0]at hl;simp -implicitDefEqProofs only[go_sem,hl];exact Fini.ret rfl
 |true =>
 rw[hm0]at hl;simp -implicitDefEqProofs only[go_sem,hl];refine CO.intro b1 ?_
 cases h9:(listB mt) with
 |false =>
  simp -implicitDefEqProofs only[go_sem];exact Fini.ret rfl
 |true =>
 simp -implicitDefEqProofs only[go_sem];refine CO.intro o0 ?_;simp -implicitDefEqProofs only[go_sem];refine CO.intro b3 ?_
 cases h10:(mayB any lo hi) with
 |false =>
  simp -implicitDefEqProofs only[go_sem];exact Fini.ret rfl
 |true =>
 simp -implicitDefEqProofs only[go_sem];refine CO.intro d0 ?_;simp -implicitDefEqProofs only[go_sem];refine CO.intro d0 ?_;simp -implicitDefEqProofs only[go_sem];refine CO.intro b5 ?_
 cases h11:(noRl ⟨src,e0,ra,rl,rh,eq⟩) with
 |false =>
  simp -implicitDefEqProofs only[go_sem];exact Fini.ret rfl
 |true =>
 simp -implicitDefEqProofs only[go_sem];refine CO.intro q1 ?_;unfold emI zF
 cases h12:(((ls.length:Nat):Int)==0) with
 |false =>
  simp -implicitDefEqProofs only[go_sem,h12];exact Fini.ret rfl
 |true =>
 simp -implicitDefEqProofs only[go_sem,h12];refine CO.intro b7 ?_;simp -implicitDefEqProofs only[go_sem];exact Fini.ret rfl
theorem zbZ (r:ReM) (hr:ReSm r) (hd:dOf r.op=S117):Ans Tryz.prog 76 [reV r] σ (Bo (docB r S117)) σ:=by
 obtain⟨tok,op,id,x1,st,en,f0,mt,any,lo,hi,⟨src,d0,ra,rl,rh,eq⟩,ls,val⟩:=r;obtain⟨hm,j1,m1⟩:=hr;simp only at hm j1 m1 hd;have k1:=z0X σ op;rw[hd]at k1;have ii:=fun c h=>z2q σ S117 c h
 have q1:=ii 73 (by decide)
 have e0:=ii 84 (by decide)
 have r0:=ii 83 (by decide)
 have o0:=ii 90 (by decide)
 have u1:=ii 77 (by decide)
 have l0:=ii 66 (by decide)
 have t0:=ii 82 (by decide)
 have y1:=ii 76 (by decide)
 simp only[zdR]at q1 e0 r0 o0 u1 l0 t0 y1;have b0:=z2p σ x1;have b1:=z1g σ mt hm;have b2:=z1o σ (any,lo,hi);have b3:=z2a σ any lo hi;have b4:=z1P σ ⟨src,d0,ra,rl,rh,eq⟩ j1;have b5:=z1D σ ⟨src,d0,ra,rl,rh,eq⟩;have b6:=z2c σ ls m1;have b7:=z0Q σ val;unfold bandV at b2;unfold ruV at b4 b5;unfold docB;simp only[zdR,Bool.true_or,Bool.false_or,Bool.not_true,Bool.not_false,Bool.true_and,if_true,Bool.false_eq_true,if_false];refine Ans.of_run t76 ?_;unfold reV reC;simp -implicitDefEqProofs only[c76,r76,go_sem];refine CO.intro k1 ?_;simp -implicitDefEqProofs only[go_sem];refine CO.intro q1 ?_
 cases h0:(decide (0≤id)) with
 |false =>
  have j0:=lt_of h0;simp -implicitDefEqProofs only[go_sem,h0,j0];exact Fini.ret rfl
 |true =>
 have j0:=lt_of h0
 cases h1:(decide (id≤2147483647)) with
 |false =>
  have k0:=gt_of h1;simp -implicitDefEqProofs only[go_sem,h0,j0,h1,k0];exact Fini.ret rfl
 |true =>
 have k0:=gt_of h1;simp -implicitDefEqProofs only[go_sem,h0,j0,h1,k0];refine CO.intro e0 ?_;simp -implicitDefEqProofs only[go_sem];refine CO.intro e0 ?_;unfold emS
 cases h2:(x1.toList==(⟨#[]⟩:ByteArray).toList) with
 |false =>
  simp -implicitDefEqProofs only[go_sem,h2];exact Fini.ret rfl
 |true =>
 simp -implicitDefEqProofs only[go_sem,h2];refine CO.intro r0 ?_;unfold clkB
 cases h3:(decide (((st:Nat):Int)≤1099511627776)) with
 |false =>
  have y0:=gt_of h3;simp -implicitDefEqProofs only[go_sem,h3,y0];exact Fini.ret rfl
 |true =>
 have y0:=gt_of h3
 cases h4:(decide (((en:Nat):Int)≤1099511627776)) with
 |false =>
  have m0:=gt_of h4;simp -implicitDefEqProofs only[go_sem,h3,y0,h4,m0];exact Fini.ret rfl
 |true =>
 have m0:=gt_of h4;simp -implicitDefEqProofs only[go_sem,h3,y0,h4,m0];refine CO.intro o0 ?_
 cases h5:(f0==0) with
 |false =>
  have u0:=ne_of h5;simp -implicitDefEqProofs only[go_sem,h5,u0];exact Fini.ret rfl
 |true =>
 have u0:=ne_of h5
 cases h6:(decide (0≤f0)) with
 |false =>
  have q0:=lt_of h6;simp -implicitDefEqProofs only[go_sem,h5,u0,h6,q0];exact Fini.ret rfl
 |true =>
 have q0:=lt_of h6
 cases h7:(decide (f0≤3)) with
 |false =>
  have n0:=gt_of h7;simp -implicitDefEqProofs only[go_sem,h5,u0,h6,q0,h7,n0];exact Fini.ret rfl
 |true =>
 have n0:=gt_of h7;simp -implicitDefEqProofs only[go_sem,h5,u0,h6,q0,h7,n0];refine CO.intro u1 ?_;simp -implicitDefEqProofs only[go_sem];refine CO.intro r0 ?_;have hl:(((mt.length:Nat):Int)==0)= !(!emI mt.length):=by rw[Bool.not_not];rfl
 cases hm0:(!emI mt.length) with
 |false =>
  rw[hm0]at hl;simp -implicitDefEqProofs only[go_sem,hl];exact Fini.ret rfl
 |true =>
 rw[hm0]at hl;simp -implicitDefEqProofs only[go_sem,hl];refine CO.intro b1 ?_
 cases h8:(listB mt) with
 |false =>
  simp -implicitDefEqProofs only[go_sem];exact Fini.ret rfl
 |true =>
 simp -implicitDefEqProofs only[go_sem];refine CO.intro l0 ?_;simp -implicitDefEqProofs only[go_sem];refine CO.intro b3 ?_
 cases h9:(mayB any lo hi) with
 |false =>
  simp -implicitDefEqProofs only[go_sem];exact Fini.ret rfl
 |true =>
 simp -implicitDefEqProofs only[go_sem];refine CO.intro t0 ?_;simp -implicitDefEqProofs only[go_sem];refine CO.intro t0 ?_;simp -implicitDefEqProofs only[go_sem];refine CO.intro b5 ?_
 cases h10:(noRl ⟨src,d0,ra,rl,rh,eq⟩) with
 |false =>
  simp -implicitDefEqProofs only[go_sem];exact Fini.ret rfl
 |true =>
 simp -implicitDefEqProofs only[go_sem];refine CO.intro y1 ?_;unfold emI zF
 cases h11:(((ls.length:Nat):Int)==0) with
 |false =>
  simp -implicitDefEqProofs only[go_sem,h11];exact Fini.ret rfl
 |true =>
 simp -implicitDefEqProofs only[go_sem,h11];refine CO.intro b7 ?_;simp -implicitDefEqProofs only[go_sem];exact Fini.ret rfl
end
section
variable (σ:St)
theorem zfP (r:ReM) (hr:ReSm r) (hd:dOf r.op=S8):Ans Tryz.prog 76 [reV r] σ (Bo (docB r S8)) σ:=by
 obtain⟨tok,op,id,y1,st,en,m1,mt,any,lo,hi,⟨src,f0,ra,rl,rh,eq⟩,ls,val⟩:=r;obtain⟨hm,n1,r1⟩:=hr;simp only at hm n1 r1 hd;have k1:=z0X σ op;rw[hd]at k1;have ii:=fun c h=>z2q σ S8 c h
 have j1:=ii 73 (by decide)
 have l0:=ii 84 (by decide)
 have d0:=ii 83 (by decide)
 have u1:=ii 90 (by decide)
 have x1:=ii 77 (by decide)
 have o0:=ii 66 (by decide)
 have e0:=ii 82 (by decide)
 have q1:=ii 76 (by decide)
 simp only[hc_8]at j1 l0 d0 u1 x1 o0 e0 q1;have b0:=z2p σ y1;have b1:=z1g σ mt hm;have b2:=z1o σ (any,lo,hi);have b3:=z2a σ any lo hi;have b4:=z1P σ ⟨src,f0,ra,rl,rh,eq⟩ n1;have b5:=z1D σ ⟨src,f0,ra,rl,rh,eq⟩;have b6:=z2c σ ls r1;have b7:=z0Q σ val;unfold bandV at b2;unfold ruV at b4 b5;unfold docB;simp only[hc_8,Bool.true_or,Bool.false_or,Bool.not_true,Bool.not_false,Bool.true_and,if_true,Bool.false_eq_true,if_false];refine Ans.of_run t76 ?_;unfold reV reC;simp -implicitDefEqProofs only[c76,r76,go_sem];refine CO.intro k1 ?_;simp -implicitDefEqProofs only[go_sem];refine CO.intro j1 ?_
 cases h0:(id==0) with
 |false =>
  have q0:=ne_of h0;simp -implicitDefEqProofs only[go_sem,h0,q0];exact Fini.ret rfl
 |true =>
 have q0:=ne_of h0
 cases h1:(decide (0≤id)) with
 |false =>
  have k0:=lt_of h1;simp -implicitDefEqProofs only[go_sem,h0,q0,h1,k0];exact Fini.ret rfl
 |true =>
 have k0:=lt_of h1
 cases h2:(decide (id≤2147483647)) with
 |false =>
  have n0:=gt_of h2;simp -implicitDefEqProofs only[go_sem,h0,q0,h1,k0,h2,n0];exact Fini.ret rfl
 |true =>
 have n0:=gt_of h2;simp -implicitDefEqProofs only[go_sem,h0,q0,h1,k0,h2,n0];refine CO.intro l0 ?_;simp -implicitDefEqProofs only[go_sem];refine CO.intro l0 ?_;unfold emS
 cases h3:(y1.toList==(⟨#[]⟩:ByteArray).toList) with
 |false =>
  simp -implicitDefEqProofs only[go_sem,h3];exact Fini.ret rfl
 |true =>
 simp -implicitDefEqProofs only[go_sem,h3];refine CO.intro d0 ?_;unfold emU
 cases h4:(((st:Nat):Int)==0) with
 |false =>
  have u0:=ne_of h4;simp -implicitDefEqProofs only[go_sem,h4,u0];exact Fini.ret rfl
 |true =>
 have u0:=ne_of h4
 cases h5:(((en:Nat):Int)==0) with
 |false =>
  have y0:=ne_of h5;simp -implicitDefEqProofs only[go_sem,h4,u0,h5,y0];exact Fini.ret rfl
 |true =>
 have y0:=ne_of h5;unfold clkB
 cases h6:(decide (((st:Nat):Int)≤1099511627776)) with
 |false =>
  have m0:=gt_of h6;simp -implicitDefEqProofs only[go_sem,h4,u0,h5,y0,h6,m0];exact Fini.ret rfl
 |true =>
 have m0:=gt_of h6
 cases h7:(decide (((en:Nat):Int)≤1099511627776)) with
 |false =>
  have r0:=gt_of h7;simp -implicitDefEqProofs only[go_sem,h4,u0,h5,y0,h6,m0,h7,r0];exact Fini.ret rfl
 |true =>
 have r0:=gt_of h7;simp -implicitDefEqProofs only[go_sem,h4,u0,h5,y0,h6,m0,h7,r0];refine CO.intro u1 ?_
 cases h8:(decide (0≤m1)) with
 |false =>
  have j0:=lt_of h8;simp -implicitDefEqProofs only[go_sem,h8,j0];exact Fini.ret rfl
 |true =>
 have j0:=lt_of h8
 cases h9:(decide (m1≤3)) with
 |false =>
  have t0:=gt_of h9;simp -implicitDefEqProofs only[go_sem,h8,j0,h9,t0];exact Fini.ret rfl
 |true =>
 have t0:=gt_of h9;simp -implicitDefEqProofs only[go_sem,h8,j0,h9,t0];refine CO.intro x1 ?_;have hl:=z55 mt.length
 cases hm0:(emI mt.length) with
 |false =>
  rw[hm0]at hl;simp -implicitDefEqProofs only[go_sem,hl];exact Fini.ret rfl
 |true =>
 rw[hm0]at hl;simp -implicitDefEqProofs only[go_sem,hl];refine CO.intro d0 ?_;simp -implicitDefEqProofs only[go_sem];refine CO.intro b1 ?_
 cases h10:(listB mt) with
 |false =>
  simp -implicitDefEqProofs only[go_sem];exact Fini.ret rfl
 |true =>
 simp -implicitDefEqProofs only[go_sem];refine CO.intro o0 ?_;simp -implicitDefEqProofs only[go_sem];refine CO.intro b2 ?_
 cases h11:(noBd (any,lo,hi)) with
 |false =>
  simp -implicitDefEqProofs only[go_sem];exact Fini.ret rfl
 |true =>
 simp -implicitDefEqProofs only[go_sem];refine CO.intro b3 ?_
 cases h12:(mayB any lo hi) with
 |false =>
  simp -implicitDefEqProofs only[go_sem];exact Fini.ret rfl
 |true =>
 simp -implicitDefEqProofs only[go_sem];refine CO.intro e0 ?_;simp -implicitDefEqProofs only[go_sem];refine CO.intro e0 ?_;simp -implicitDefEqProofs only[go_sem];refine CO.intro b5 ?_
 cases h13:(noRl ⟨src,f0,ra,rl,rh,eq⟩) with
 |false =>
  simp -implicitDefEqProofs only[go_sem];exact Fini.ret rfl
 |true =>
 simp -implicitDefEqProofs only[go_sem];refine CO.intro q1 ?_;unfold emI zF
 cases h14:(((ls.length:Nat):Int)==0) with
 |false =>
  simp -implicitDefEqProofs only[go_sem,h14];exact Fini.ret rfl
 |true =>
 simp -implicitDefEqProofs only[go_sem,h14];refine CO.intro b7 ?_;simp -implicitDefEqProofs only[go_sem];exact Fini.ret rfl
theorem zc0 (r:ReM) (hr:ReSm r) (hd:dOf r.op=S128):Ans Tryz.prog 76 [reV r] σ (Bo (docB r S128)) σ:=by
 obtain⟨tok,op,id,j1,st,en,u1,mt,any,lo,hi,⟨src,l0,ra,rl,rh,eq⟩,ls,val⟩:=r;obtain⟨hm,r1,t1⟩:=hr;simp only at hm r1 t1 hd;have k1:=z0X σ op;rw[hd]at k1;have ii:=fun c h=>z2q σ S128 c h
 have n1:=ii 73 (by decide)
 have o0:=ii 84 (by decide)
 have e0:=ii 83 (by decide)
 have y1:=ii 90 (by decide)
 have q1:=ii 77 (by decide)
 have x1:=ii 66 (by decide)
 have f0:=ii 82 (by decide)
 have m1:=ii 76 (by decide)
 simp only[zdS]at n1 o0 e0 y1 q1 x1 f0 m1;have b0:=z2p σ j1;have b1:=z1g σ mt hm;have b2:=z1o σ (any,lo,hi);have b3:=z2a σ any lo hi;have b4:=z1P σ ⟨src,l0,ra,rl,rh,eq⟩ r1;have b5:=z1D σ ⟨src,l0,ra,rl,rh,eq⟩;have b6:=z2c σ ls t1;have b7:=z0Q σ val;unfold bandV at b2;unfold ruV at b4 b5;unfold docB;simp only[zdS,Bool.true_or,Bool.false_or,Bool.not_true,Bool.not_false,Bool.true_and,if_true,Bool.false_eq_true,if_false];refine Ans.of_run t76 ?_;unfold reV reC;simp -implicitDefEqProofs only[c76,r76,go_sem];refine CO.intro k1 ?_;simp -implicitDefEqProofs only[go_sem];refine CO.intro n1 ?_
 cases h0:(id==0) with
 |false =>
  have k0:=ne_of h0;simp -implicitDefEqProofs only[go_sem,h0,k0];exact Fini.ret rfl
 |true =>
 have k0:=ne_of h0
 cases h1:(decide (0≤id)) with
 |false =>
  have m0:=lt_of h1;simp -implicitDefEqProofs only[go_sem,h0,k0,h1,m0];exact Fini.ret rfl
 |true =>
 have m0:=lt_of h1
 cases h2:(decide (id≤2147483647)) with
 |false =>
  have t0:=gt_of h2;simp -implicitDefEqProofs only[go_sem,h0,k0,h1,m0,h2,t0];exact Fini.ret rfl
 |true =>
 have t0:=gt_of h2;simp -implicitDefEqProofs only[go_sem,h0,k0,h1,m0,h2,t0];refine CO.intro o0 ?_;simp -implicitDefEqProofs only[go_sem];refine CO.intro o0 ?_;unfold emS
 cases h3:(j1.toList==(⟨#[]⟩:ByteArray).toList) with
 |false =>
  simp -implicitDefEqProofs only[go_sem,h3];exact Fini.ret rfl
 |true =>
 simp -implicitDefEqProofs only[go_sem,h3];refine CO.intro e0 ?_;unfold emU
 cases h4:(((st:Nat):Int)==0) with
 |false =>
  have u0:=ne_of h4;simp -implicitDefEqProofs only[go_sem,h4,u0];exact Fini.ret rfl
 |true =>
 have u0:=ne_of h4
 cases h5:(((en:Nat):Int)==0) with
 |false =>
  have q0:=ne_of h5;simp -implicitDefEqProofs only[go_sem,h4,u0,h5,q0];exact Fini.ret rfl
 |true =>
 have q0:=ne_of h5;unfold clkB
 cases h6:(decide (((st:Nat):Int)≤1099511627776)) with
 |false =>
  have n0:=gt_of h6;simp -implicitDefEqProofs only[go_sem,h4,u0,h5,q0,h6,n0];exact Fini.ret rfl
 |true =>
 have n0:=gt_of h6
 cases h7:(decide (((en:Nat):Int)≤1099511627776)) with
 |false =>
  have d0:=gt_of h7;simp -implicitDefEqProofs only[go_sem,h4,u0,h5,q0,h6,n0,h7,d0];exact Fini.ret rfl
 |true =>
 have d0:=gt_of h7;simp -implicitDefEqProofs only[go_sem,h4,u0,h5,q0,h6,n0,h7,d0];refine CO.intro y1 ?_
 cases h8:(u1==0) with
 |false =>
  have y0:=ne_of h8;simp -implicitDefEqProofs only[go_sem,h8,y0];exact Fini.ret rfl
 |true =>
 have y0:=ne_of h8
 cases h9:(decide (0≤u1)) with
 |false =>
  have r0:=lt_of h9;simp -implicitDefEqProofs only[go_sem,h8,y0,h9,r0];exact Fini.ret rfl
 |true =>
 have r0:=lt_of h9
 cases h10:(decide (u1≤3)) with
 |false =>
  have j0:=gt_of h10;simp -implicitDefEqProofs only[go_sem,h8,y0,h9,r0,h10,j0];exact Fini.ret rfl
 |true =>
 have j0:=gt_of h10;simp -implicitDefEqProofs only[go_sem,h8,y0,h9,r0,h10,j0];refine CO.intro q1 ?_;have hl:=z55 mt.length
 cases hm0:(emI mt.length) with
 |false =>
  rw[hm0]at hl;simp -implicitDefEqProofs only[go_sem,hl];exact Fini.ret rfl
 |true =>
 rw[hm0]at hl;simp -implicitDefEqProofs only[go_sem,hl];refine CO.intro e0 ?_;simp -implicitDefEqProofs only[go_sem];refine CO.intro b1 ?_
 cases h11:(listB mt) with
 |false =>
  simp -implicitDefEqProofs only[go_sem];exact Fini.ret rfl
 |true =>
 simp -implicitDefEqProofs only[go_sem];refine CO.intro x1 ?_;simp -implicitDefEqProofs only[go_sem];refine CO.intro b2 ?_
 cases h12:(noBd (any,lo,hi)) with
 |false =>
  simp -implicitDefEqProofs only[go_sem];exact Fini.ret rfl
 |true =>
 simp -implicitDefEqProofs only[go_sem];refine CO.intro b3 ?_
 cases h13:(mayB any lo hi) with
 |false =>
  simp -implicitDefEqProofs only[go_sem];exact Fini.ret rfl
 |true =>
 simp -implicitDefEqProofs only[go_sem];refine CO.intro f0 ?_;simp -implicitDefEqProofs only[go_sem];refine CO.intro b4 ?_
 cases h14:(ruIs ⟨src,l0,ra,rl,rh,eq⟩) with
 |false =>
  simp -implicitDefEqProofs only[go_sem];exact Fini.ret rfl
 |true =>
 simp -implicitDefEqProofs only[go_sem];refine CO.intro f0 ?_;simp -implicitDefEqProofs only[go_sem];refine CO.intro m1 ?_;unfold emI zF
 cases h15:(((ls.length:Nat):Int)==0) with
 |false =>
  simp -implicitDefEqProofs only[go_sem,h15];exact Fini.ret rfl
 |true =>
 simp -implicitDefEqProofs only[go_sem,h15];refine CO.intro b7 ?_;simp -implicitDefEqProofs only[go_sem];exact Fini.ret rfl
end
section
variable (σ:St)
theorem zc1 (r:ReM) (hr:ReSm r) (hd:dOf r.op=S768):Ans Tryz.prog 76 [reV r] σ (Bo (docB r S768)) σ:=by
 obtain⟨tok,op,id,j1,st,en,u1,mt,any,lo,hi,⟨src,l0,ra,rl,rh,eq⟩,ls,val⟩:=r;obtain⟨hm,r1,t1⟩:=hr;simp only at hm r1 t1 hd;have k1:=z0X σ op;rw[hd]at k1;have ii:=fun c h=>z2q σ S768 c h
 have n1:=ii 73 (by decide)
 have o0:=ii 84 (by decide)
 have e0:=ii 83 (by decide)
 have y1:=ii 90 (by decide)
 have q1:=ii 77 (by decide)
 have x1:=ii 66 (by decide)
 have f0:=ii 82 (by decide)
 have m1:=ii 76 (by decide)
 simp only[zdT]at n1 o0 e0 y1 q1 x1 f0 m1;have b0:=z2p σ j1;have b1:=z1g σ mt hm;have b2:=z1o σ (any,lo,hi);have b3:=z2a σ any lo hi;have b4:=z1P σ ⟨src,l0,ra,rl,rh,eq⟩ r1;have b5:=z1D σ ⟨src,l0,ra,rl,rh,eq⟩;have b6:=z2c σ ls t1;have b7:=z0Q σ val;unfold bandV at b2;unfold ruV at b4 b5;unfold docB;simp only[zdT,Bool.true_or,Bool.false_or,Bool.not_true,Bool.not_false,Bool.true_and,if_true,Bool.false_eq_true,if_false];refine Ans.of_run t76 ?_;unfold reV reC;simp -implicitDefEqProofs only[c76,r76,go_sem];refine CO.intro k1 ?_;simp -implicitDefEqProofs only[go_sem];refine CO.intro n1 ?_
 cases h0:(id==0) with
 |false =>
  have k0:=ne_of h0;simp -implicitDefEqProofs only[go_sem,h0,k0];exact Fini.ret rfl
 |true =>
 have k0:=ne_of h0
 cases h1:(decide (0≤id)) with
 |false =>
  have m0:=lt_of h1;simp -implicitDefEqProofs only[go_sem,h0,k0,h1,m0];exact Fini.ret rfl
 |true =>
 have m0:=lt_of h1
 cases h2:(decide (id≤2147483647)) with
 |false =>
  have t0:=gt_of h2;simp -implicitDefEqProofs only[go_sem,h0,k0,h1,m0,h2,t0];exact Fini.ret rfl
 |true =>
 have t0:=gt_of h2;simp -implicitDefEqProofs only[go_sem,h0,k0,h1,m0,h2,t0];refine CO.intro o0 ?_;simp -implicitDefEqProofs only[go_sem];refine CO.intro o0 ?_;unfold emS
 cases h3:(j1.toList==(⟨#[]⟩:ByteArray).toList) with
 |false =>
  simp -implicitDefEqProofs only[go_sem,h3];exact Fini.ret rfl
 |true =>
 simp -implicitDefEqProofs only[go_sem,h3];refine CO.intro e0 ?_;unfold emU
 cases h4:(((st:Nat):Int)==0) with
 |false =>
  have u0:=ne_of h4;simp -implicitDefEqProofs only[go_sem,h4,u0];exact Fini.ret rfl
 |true =>
 have u0:=ne_of h4
 cases h5:(((en:Nat):Int)==0) with
 |false =>
  have q0:=ne_of h5;simp -implicitDefEqProofs only[go_sem,h4,u0,h5,q0];exact Fini.ret rfl
 |true =>
 have q0:=ne_of h5;unfold clkB
 cases h6:(decide (((st:Nat):Int)≤1099511627776)) with
 |false =>
  have n0:=gt_of h6;simp -implicitDefEqProofs only[go_sem,h4,u0,h5,q0,h6,n0];exact Fini.ret rfl
 |true =>
 have n0:=gt_of h6
 cases h7:(decide (((en:Nat):Int)≤1099511627776)) with
 |false =>
  have d0:=gt_of h7;simp -implicitDefEqProofs only[go_sem,h4,u0,h5,q0,h6,n0,h7,d0];exact Fini.ret rfl
 |true =>
 have d0:=gt_of h7;simp -implicitDefEqProofs only[go_sem,h4,u0,h5,q0,h6,n0,h7,d0];refine CO.intro y1 ?_
 cases h8:(u1==0) with
 |false =>
  have y0:=ne_of h8;simp -implicitDefEqProofs only[go_sem,h8,y0];exact Fini.ret rfl
 |true =>
 have y0:=ne_of h8
 cases h9:(decide (0≤u1)) with
 |false =>
  have r0:=lt_of h9;simp -implicitDefEqProofs only[go_sem,h8,y0,h9,r0];exact Fini.ret rfl
 |true =>
 have r0:=lt_of h9
 cases h10:(decide (u1≤3)) with
 |false =>
  have j0:=gt_of h10;simp -implicitDefEqProofs only[go_sem,h8,y0,h9,r0,h10,j0];exact Fini.ret rfl
 |true =>
 have j0:=gt_of h10;simp -implicitDefEqProofs only[go_sem,h8,y0,h9,r0,h10,j0];refine CO.intro q1 ?_;have hl:=z55 mt.length
 cases hm0:(emI mt.length) with
 |false =>
  rw[hm0]at hl;simp -implicitDefEqProofs only[go_sem,hl];exact Fini.ret rfl
 |true =>
 rw[hm0]at hl;simp -implicitDefEqProofs only[go_sem,hl];refine CO.intro e0 ?_;simp -implicitDefEqProofs only[go_sem];refine CO.intro b1 ?_
 cases h11:(listB mt) with
 |false =>
  simp -implicitDefEqProofs only[go_sem];exact Fini.ret rfl
 |true =>
 simp -implicitDefEqProofs only[go_sem];refine CO.intro x1 ?_;simp -implicitDefEqProofs only[go_sem];refine CO.intro b2 ?_
 cases h12:(noBd (any,lo,hi)) with
 |false =>
  simp -implicitDefEqProofs only[go_sem];exact Fini.ret rfl
 |true =>
 simp -implicitDefEqProofs only[go_sem];refine CO.intro b3 ?_
 cases h13:(mayB any lo hi) with
 |false =>
  simp -implicitDefEqProofs only[go_sem];exact Fini.ret rfl
 |true =>
 simp -implicitDefEqProofs only[go_sem];refine CO.intro f0 ?_;simp -implicitDefEqProofs only[go_sem];refine CO.intro f0 ?_;simp -implicitDefEqProofs only[go_sem];refine CO.intro b5 ?_
 cases h14:(noRl ⟨src,l0,ra,rl,rh,eq⟩) with
 |false =>
  simp -implicitDefEqProofs only[go_sem];exact Fini.ret rfl
 |true =>
 simp -implicitDefEqProofs only[go_sem];refine CO.intro m1 ?_;simp -implicitDefEqProofs only[go_sem];refine CO.intro b6 ?_;simp -implicitDefEqProofs only[go_sem];exact Fini.ret rfl
theorem zdU (r:ReM) (hr:ReSm r) (hd:dOf r.op=S16):Ans Tryz.prog 76 [reV r] σ (Bo (docB r S16)) σ:=by
 obtain⟨tok,op,id,j1,st,en,u1,mt,any,lo,hi,⟨src,l0,ra,rl,rh,eq⟩,ls,val⟩:=r;obtain⟨hm,r1,t1⟩:=hr;simp only at hm r1 t1 hd;have k1:=z0X σ op;rw[hd]at k1;have ii:=fun c h=>z2q σ S16 c h
 have n1:=ii 73 (by decide)
 have o0:=ii 84 (by decide)
 have e0:=ii 83 (by decide)
 have y1:=ii 90 (by decide)
 have q1:=ii 77 (by decide)
 have x1:=ii 66 (by decide)
 have f0:=ii 82 (by decide)
 have m1:=ii 76 (by decide)
 simp only[hc_16]at n1 o0 e0 y1 q1 x1 f0 m1;have b0:=z2p σ j1;have b1:=z1g σ mt hm;have b2:=z1o σ (any,lo,hi);have b3:=z2a σ any lo hi;have b4:=z1P σ ⟨src,l0,ra,rl,rh,eq⟩ r1;have b5:=z1D σ ⟨src,l0,ra,rl,rh,eq⟩;have b6:=z2c σ ls t1;have b7:=z0Q σ val;unfold bandV at b2;unfold ruV at b4 b5;unfold docB;simp only[hc_16,Bool.true_or,Bool.false_or,Bool.not_true,Bool.not_false,Bool.true_and,if_true,Bool.false_eq_true,if_false];refine Ans.of_run t76 ?_;unfold reV reC;simp -implicitDefEqProofs only[c76,r76,go_sem];refine CO.intro k1 ?_;simp -implicitDefEqProofs only[go_sem];refine CO.intro n1 ?_
 cases h0:(id==0) with
 |false =>
  have k0:=ne_of h0;simp -implicitDefEqProofs only[go_sem,h0,k0];exact Fini.ret rfl
 |true =>
 have k0:=ne_of h0
 cases h1:(decide (0≤id)) with
 |false =>
  have m0:=lt_of h1;simp -implicitDefEqProofs only[go_sem,h0,k0,h1,m0];exact Fini.ret rfl
 |true =>
 have m0:=lt_of h1
 cases h2:(decide (id≤2147483647)) with
 |false =>
  have t0:=gt_of h2;simp -implicitDefEqProofs only[go_sem,h0,k0,h1,m0,h2,t0];exact Fini.ret rfl
 |true =>
 have t0:=gt_of h2;simp -implicitDefEqProofs only[go_sem,h0,k0,h1,m0,h2,t0];refine CO.intro o0 ?_;simp -implicitDefEqProofs only[go_sem];refine CO.intro o0 ?_;unfold emS
 cases h3:(j1.toList==(⟨#[]⟩:ByteArray).toList) with
 |false =>
  simp -implicitDefEqProofs only[go_sem,h3];exact Fini.ret rfl
 |true =>
 simp -implicitDefEqProofs only[go_sem,h3];refine CO.intro e0 ?_;unfold emU
 cases h4:(((st:Nat):Int)==0) with
 |false =>
  have u0:=ne_of h4;simp -implicitDefEqProofs only[go_sem,h4,u0];exact Fini.ret rfl
 |true =>
 have u0:=ne_of h4
 cases h5:(((en:Nat):Int)==0) with
 |false =>
  have q0:=ne_of h5;simp -implicitDefEqProofs only[go_sem,h4,u0,h5,q0];exact Fini.ret rfl
 |true =>
 have q0:=ne_of h5;unfold clkB
 cases h6:(decide (((st:Nat):Int)≤1099511627776)) with
 |false =>
  have n0:=gt_of h6;simp -implicitDefEqProofs only[go_sem,h4,u0,h5,q0,h6,n0];exact Fini.ret rfl
 |true =>
 have n0:=gt_of h6
 cases h7:(decide (((en:Nat):Int)≤1099511627776)) with
 |false =>
  have d0:=gt_of h7;simp -implicitDefEqProofs only[go_sem,h4,u0,h5,q0,h6,n0,h7,d0];exact Fini.ret rfl
 |true =>
 have d0:=gt_of h7;simp -implicitDefEqProofs only[go_sem,h4,u0,h5,q0,h6,n0,h7,d0];refine CO.intro y1 ?_
 cases h8:(u1==0) with
 |false =>
  have y0:=ne_of h8;simp -implicitDefEqProofs only[go_sem,h8,y0];exact Fini.ret rfl
 |true =>
 have y0:=ne_of h8
 cases h9:(decide (0≤u1)) with
 |false =>
  have r0:=lt_of h9;simp -implicitDefEqProofs only[go_sem,h8,y0,h9,r0];exact Fini.ret rfl
 |true =>
 have r0:=lt_of h9
 cases h10:(decide (u1≤3)) with
 |false =>
  have j0:=gt_of h10;simp -implicitDefEqProofs only[go_sem,h8,y0,h9,r0,h10,j0];exact Fini.ret rfl
 |true =>
 have j0:=gt_of h10;simp -implicitDefEqProofs only[go_sem,h8,y0,h9,r0,h10,j0];refine CO.intro q1 ?_;simp -implicitDefEqProofs only[go_sem];refine CO.intro e0 ?_;simp -implicitDefEqProofs only[go_sem];refine CO.intro b1 ?_
 cases h11:(listB mt) with
 |false =>
  simp -implicitDefEqProofs only[go_sem];exact Fini.ret rfl
 |true =>
 simp -implicitDefEqProofs only[go_sem];refine CO.intro x1 ?_;simp -implicitDefEqProofs only[go_sem];refine CO.intro b2 ?_
 cases h12:(noBd (any,lo,hi)) with
 |false =>
  simp -implicitDefEqProofs only[go_sem];exact Fini.ret rfl
 |true =>
 simp -implicitDefEqProofs only[go_sem];refine CO.intro b3 ?_
 cases h13:(mayB any lo hi) with
 |false =>
  simp -implicitDefEqProofs only[go_sem];exact Fini.ret rfl
 |true =>
 simp -implicitDefEqProofs only[go_sem];refine CO.intro f0 ?_;simp -implicitDefEqProofs only[go_sem];refine CO.intro f0 ?_;simp -implicitDefEqProofs only[go_sem];refine CO.intro b5 ?_
 cases h14:(noRl ⟨src,l0,ra,rl,rh,eq⟩) with
 |false =>
  simp -implicitDefEqProofs only[go_sem];exact Fini.ret rfl
 |true =>
 simp -implicitDefEqProofs only[go_sem];refine CO.intro m1 ?_;unfold emI zF
 cases h15:(((ls.length:Nat):Int)==0) with
 |false =>
  simp -implicitDefEqProofs only[go_sem,h15];exact Fini.ret rfl
 |true =>
 simp -implicitDefEqProofs only[go_sem,h15];refine CO.intro b7 ?_;simp -implicitDefEqProofs only[go_sem];exact Fini.ret rfl
end
theorem z2r (x:Bnd) (h:noBd x=true):mayB x.1 x.2.1 x.2.2=true:=by
 obtain⟨a,lo,hi⟩:=x;unfold noBd zF at h;simp only[Bool.and_eq_true,Bool.not_eq_true',beq_iff_eq]at h;obtain⟨rfl,h1,h2⟩:=h;have e1:=z3d (Int.ofNat.inj h1);have e2:=z3d (Int.ofNat.inj h2);subst e1 e2
 decide +kernel
theorem z5o (r:ReM):(zeroB r 0&&z0c r 0)=docB r S0:=by
 have hb:=z2r (r.any,r.lo,r.hi);unfold zeroB z0c docB idR staR;simp only[hs_0,hc_0,Bool.true_or,Bool.false_or,Bool.not_true,Bool.not_false,Bool.true_and,if_true,Bool.false_eq_true,if_false,Bool.and_assoc];rw[Bool.eq_iff_iff];simp only[Bool.and_eq_true];simp only at hb;constructor
 · intro h;simp only[h,hb,and_self,true_and,and_true]
 · intro h;simp only[h,hb,and_self,true_and,and_true]
theorem z4C (r:ReM):(zeroB r 1&&z0c r 1)=docB r S1:=by
 have hb:=z2r (r.any,r.lo,r.hi);unfold zeroB z0c docB idR staR;simp only[hs_1,hc_1,Bool.true_or,Bool.false_or,Bool.not_true,Bool.not_false,Bool.true_and,if_true,Bool.false_eq_true,if_false,Bool.and_assoc];rw[Bool.eq_iff_iff];simp only[Bool.and_eq_true];simp only at hb;constructor
 · intro h;simp only[h,hb,and_self,true_and,and_true]
 · intro h;simp only[h,hb,and_self,true_and,and_true]
theorem zaW (r:ReM):(zeroB r 3&&z0c r 3)=docB r S3:=by
 have hb:=z2r (r.any,r.lo,r.hi);unfold zeroB z0c docB idR staR;simp only[hs_3,hc_3,Bool.true_or,Bool.false_or,Bool.not_true,Bool.not_false,Bool.true_and,if_true,Bool.false_eq_true,if_false,Bool.and_assoc];rw[Bool.eq_iff_iff];simp only[Bool.and_eq_true];simp only at hb;constructor
 · intro h;simp only[h,hb,and_self,true_and,and_true]
 · intro h;simp only[h,hb,and_self,true_and,and_true]
theorem zc2 (r:ReM):(zeroB r 116&&z0c r 116)=docB r S116:=by
 have hb:=z2r (r.any,r.lo,r.hi);unfold zeroB z0c docB idR staR;simp only[z6n,zdQ,Bool.true_or,Bool.false_or,Bool.not_true,Bool.not_false,Bool.true_and,if_true,Bool.false_eq_true,if_false,Bool.and_assoc];rw[Bool.eq_iff_iff];simp only[Bool.and_eq_true];simp only at hb;constructor
 · intro h;simp only[h,hb,and_self,true_and,and_true]
 · intro h;simp only[h,hb,and_self,true_and,and_true]
theorem zc3 (r:ReM):(zeroB r 117&&z0c r 117)=docB r S117:=by
 have hb:=z2r (r.any,r.lo,r.hi);unfold zeroB z0c docB idR staR;simp only[z6o,zdR,Bool.true_or,Bool.false_or,Bool.not_true,Bool.not_false,Bool.true_and,if_true,Bool.false_eq_true,if_false,Bool.and_assoc];rw[Bool.eq_iff_iff];simp only[Bool.and_eq_true];simp only at hb;constructor
 · intro h;simp only[h,hb,and_self,true_and,and_true]
 · intro h;simp only[h,hb,and_self,true_and,and_true]
theorem zfQ (r:ReM):(zeroB r 8&&z0c r 8)=docB r S8:=by
 have hb:=z2r (r.any,r.lo,r.hi);unfold zeroB z0c docB idR staR;simp only[hs_8,hc_8,Bool.true_or,Bool.false_or,Bool.not_true,Bool.not_false,Bool.true_and,if_true,Bool.false_eq_true,if_false,Bool.and_assoc];rw[Bool.eq_iff_iff];simp only[Bool.and_eq_true];simp only at hb;constructor
 · intro h;simp only[h,hb,and_self,true_and,and_true]
 · intro h;simp only[h,hb,and_self,true_and,and_true]
theorem zc4 (r:ReM):(zeroB r 128&&z0c r 128)=docB r S128:=by
 have hb:=z2r (r.any,r.lo,r.hi);unfold zeroB z0c docB idR staR;simp only[hs_128,zdS,Bool.true_or,Bool.false_or,Bool.not_true,Bool.not_false,Bool.true_and,if_true,Bool.false_eq_true,if_false,Bool.and_assoc];rw[Bool.eq_iff_iff];simp only[Bool.and_eq_true];simp only at hb;constructor
 · intro h;simp only[h,hb,and_self,true_and,and_true]
 · intro h;simp only[h,hb,and_self,true_and,and_true]
theorem zc5 (r:ReM):(zeroB r 768&&z0c r 768)=docB r S768:=by
 have hb:=z2r (r.any,r.lo,r.hi);unfold zeroB z0c docB idR staR;simp only[hs_768,zdT,Bool.true_or,Bool.false_or,Bool.not_true,Bool.not_false,Bool.true_and,if_true,Bool.false_eq_true,if_false,Bool.and_assoc];rw[Bool.eq_iff_iff];simp only[Bool.and_eq_true];simp only at hb;constructor
 · intro h;simp only[h,hb,and_self,true_and,and_true]
 · intro h;simp only[h,hb,and_self,true_and,and_true]
theorem zdV (r:ReM):(zeroB r 16&&z0c r 16)=docB r S16:=by
 have hb:=z2r (r.any,r.lo,r.hi);unfold zeroB z0c docB idR staR;simp only[hs_16,hc_16,Bool.true_or,Bool.false_or,Bool.not_true,Bool.not_false,Bool.true_and,if_true,Bool.false_eq_true,if_false,Bool.and_assoc];rw[Bool.eq_iff_iff];simp only[Bool.and_eq_true];simp only at hb;constructor
 · intro h;simp only[h,hb,and_self,true_and,and_true]
 · intro h;simp only[h,hb,and_self,true_and,and_true]
section
variable (σ:St)
theorem zdW (r:ReM) (hd:dOf r.op=⟨#[]⟩):Ans Tryz.prog 76 [reV r] σ (Bo false) σ:=by
 have k1:=z0X σ r.op;rw[hd]at k1;have hn:((⟨#[]⟩:ByteArray).toList==(⟨#[]⟩:ByteArray).toList)=true:=by decide +kernel
 refine Ans.of_run t76 ?_;unfold reV reC;simp -implicitDefEqProofs only[c76,r76,go_sem];refine CO.intro k1 ?_;simp -implicitDefEqProofs only[go_sem,hn];exact Fini.ret rfl
theorem zc6 (r:ReM) (hr:ReSm r):Ans Tryz.prog 76 [reV r] σ (Bo (mayR r)) σ:=by
 unfold mayR;rcases ops17 r.op with h|h|h|h|h|h|h|h|h|h|h|h|h|h|h|h|h|h
 · have e:fOf r.op=(0,true):=by rw[h];rfl
   rw[e];simp only[Bool.true_and];rw[z5o];exact z5n σ r hr (by rw[h];rfl)
 · have e:fOf r.op=(1,true):=by rw[h];rfl
   rw[e];simp only[Bool.true_and];rw[z4C];exact z4B σ r hr (by rw[h];rfl)
 · have e:fOf r.op=(3,true):=by rw[h];rfl
   rw[e];simp only[Bool.true_and];rw[zaW];exact zaV σ r hr (by rw[h];rfl)
 · have e:fOf r.op=(3,true):=by rw[h];rfl
   rw[e];simp only[Bool.true_and];rw[zaW];exact zaV σ r hr (by rw[h];rfl)
 · have e:fOf r.op=(116,true):=by rw[h];rfl
   rw[e];simp only[Bool.true_and];rw[zc2];exact zbY σ r hr (by rw[h];rfl)
 · have e:fOf r.op=(117,true):=by rw[h];rfl
   rw[e];simp only[Bool.true_and];rw[zc3];exact zbZ σ r hr (by rw[h];rfl)
 · have e:fOf r.op=(1,true):=by rw[h];rfl
   rw[e];simp only[Bool.true_and];rw[z4C];exact z4B σ r hr (by rw[h];rfl)
 · have e:fOf r.op=(8,true):=by rw[h];rfl
   rw[e];simp only[Bool.true_and];rw[zfQ];exact zfP σ r hr (by rw[h];rfl)
 · have e:fOf r.op=(128,true):=by rw[h];rfl
   rw[e];simp only[Bool.true_and];rw[zc4];exact zc0 σ r hr (by rw[h];rfl)
 · have e:fOf r.op=(1,true):=by rw[h];rfl
   rw[e];simp only[Bool.true_and];rw[z4C];exact z4B σ r hr (by rw[h];rfl)
 · have e:fOf r.op=(768,true):=by rw[h];rfl
   rw[e];simp only[Bool.true_and];rw[zc5];exact zc1 σ r hr (by rw[h];rfl)
 · have e:fOf r.op=(1,true):=by rw[h];rfl
   rw[e];simp only[Bool.true_and];rw[z4C];exact z4B σ r hr (by rw[h];rfl)
 · have e:fOf r.op=(16,true):=by rw[h];rfl
   rw[e];simp only[Bool.true_and];rw[zdV];exact zdU σ r hr (by rw[h];rfl)
 · have e:fOf r.op=(0,true):=by rw[h];rfl
   rw[e];simp only[Bool.true_and];rw[z5o];exact z5n σ r hr (by rw[h];rfl)
 · have e:fOf r.op=(1,true):=by rw[h];rfl
   rw[e];simp only[Bool.true_and];rw[z4C];exact z4B σ r hr (by rw[h];rfl)
 · have e:fOf r.op=(0,true):=by rw[h];rfl
   rw[e];simp only[Bool.true_and];rw[z5o];exact z5n σ r hr (by rw[h];rfl)
 · have e:fOf r.op=(0,true):=by rw[h];rfl
   rw[e];simp only[Bool.true_and];rw[z5o];exact z5n σ r hr (by rw[h];rfl)
 · rw[zdF h];exact zdW σ r (zgP h)
end
section
variable (σ:St)
theorem z7M (n:Nat) (hn:n<18446744073709551616):Ans Tryz.prog 52 [UN n] σ (.sl 1 (byv (putN n))) σ:=(z5l σ n hn).shut (by rw[z05]) (z1j _ _)
theorem z8T (r:RuM) (hr:RSm r):Ans Tryz.prog 80 [ruV r] σ (.sl 1 (byv (z1H r))) σ:=by
 have hi:=fun s=>z1P s r hr
 unfold z1H
 cases hR:ruIs r with
 |false =>
  have:Ans Tryz.prog 80 [ruV r] σ .nils σ:=by
   refine Ans.of_run t80 ?_;unfold ruV at hi⊢;simp -implicitDefEqProofs only[c80,r80,go_sem];refine CO.intro (hi _) ?_;rw[hR];simp -implicitDefEqProofs only[go_sem];exact Fini.ret rfl
  exact this.subR (.nils 1)
 |true =>
  obtain⟨h1,h2,h3,h4,h5⟩:=z29 hR;have y0:=z5m hR;have m1:=fun s=>z73 s r.src hr.src h1
  have m2:=fun s=>z74 s r.tgt hr.tgt
  have e2:z0Y r.tgt=putL r.tgt:=by unfold z0Y;rw[h2];rfl
  rw[e2]at m2;have b1:=fun s=>z3U s (r.any,r.lo,r.hi)
  unfold bandV at b1;have n1:=fun s=>z7M s r.eq.length (by omega)
  have hw:=z1q (n:=r.eq.length) (by omega)
  have hl0:=z8O hR
  have e3:byv (putL r.src)++byv (putL r.tgt)++byv (putBd (r.any,r.lo,r.hi))++byv (putN r.eq.length)=byv (preR r 0):=by
   rw[z6h,headR];simp only[z0t,List.append_assoc]
  have e4:(putL r.src).length+(putL r.tgt).length+(putBd (r.any,r.lo,r.hi)).length+(putN r.eq.length).length=(preR r 0).length:=by
   rw[z6h,headR];simp only[List.length_append];omega
  have j0:=y0 0 (Nat.zero_le _);rw[←e4]at j0;have q1:(putL r.src).length+(putL r.tgt).length≤4294967296:=by omega
  have q2:(putL r.src).length+(putL r.tgt).length+(putBd (r.any,r.lo,r.hi)).length≤4294967296:=by omega
  have q3:(putL r.src).length+(putL r.tgt).length+(putBd (r.any,r.lo,r.hi)).length+(putN r.eq.length).length≤4294967296:=by omega
  refine Ans.of_run' t80 (fun u0 _=>?_)
  unfold ruV at hi⊢;simp -implicitDefEqProofs only[c80,r80,go_sem];refine CO.intro (hi _) ?_;rw[hR];simp -implicitDefEqProofs only[go_sem];refine CD.intro (m1 _) ?_;simp -implicitDefEqProofs only[go_sem];refine CD.intro (m2 _) ?_;simp -implicitDefEqProofs only[go_sem,g0,s0,z05,z0q,bc,q1,List.length_append];refine CD.intro (b1 _) ?_;simp -implicitDefEqProofs only[go_sem,g0,s0,z05,z0q,bc,q1,q2,z0M,hw,List.length_append];refine CO.intro (n1 _) ?_;simp -implicitDefEqProofs only[go_sem,g0,s0,z05,z0q,bc,q1,q2,q3,z0M,hw,List.length_append];refine Go.Ab.L.count r.eq.length (fun i=>mkE 42 [(1,.rp [.sl 3 (mvs3 r.src),.sl 3 (mvs3 r.tgt),Bo r.any,Fl r.lo,Fl r.hi,.sl 1 (txs r.eq)]),(3,.osl σ.length (preR r i).length),(4,I i)]) (fun i=>σ++[.row 1 (byv (preR r i))]) ?_ ?_ (by rw[←e4];rfl) (by rw[←e3])
  · intro i hi J hJ;have hx:=zdi r.eq i hi;have hs:=h5 r.eq[i] (List.getElem_mem hi);have hp:=y0 (i+1) (by omega)
    rw[z8N r i hi]at hJ hp;generalize r.eq[i]=s at hx hs hJ hp;generalize preR r i=pre at hJ hp⊢;have q0:=wrap_succ (i:=i) (by omega)
    rw[List.length_append]at hp hJ;have l1:pre.length+(txtB s).length≤4294967296:=by omega
    simp -implicitDefEqProofs only[mkE,go_sem,z0M,z0e hi,dec_lt hi,hx];refine CO.intro (z1S _ s (by omega)) ?_
    simp -implicitDefEqProofs only[go_sem,g0,s0,z05,z0q,bc,l1,q0];simp only[z0t]at hJ;exact hJ
  · intro J;have d0:decide ((r.eq.length:Int)<r.eq.length)=false:=by simp
    simp -implicitDefEqProofs only[mkE,go_sem,z0M,d0,g0,s0,z05,z7H];exact Fini.trim2 (σ':=σ) (ex:=[_]) rfl rfl (Nat.le_refl _) (z1j _ _) u0
end
end Go.Proofs.YteakobbdgehlgaaGreatDoor
namespace Go.Ab
theorem L.step {P:Program} {n0:Nat} {clr:List Tmp} {x:ACode} {k:List Fr} {B:Bs} {env:Env} {σ:St}
  (h:∀J:Env→St→Prop,(∀env σ,L P n0 clr x k B env σ→J env σ)→R P n0 x (.loop J clr::k) B env σ):L P n0 clr x k B env σ:=by
 unfold L;intro I hI;refine hI _ _ (h I fun env' σ' hl=>?_)
 unfold L at hl;exact hl I hI
end Go.Ab
namespace Go.Proofs.YteakobbdgehlgaaGreatDoor
open Go Go.Ab Go.Cod
section
variable (σ:St) (p:Nat) (b:Byt) (hb:b.length≤50000)
include hb in
end
theorem sz_0:((S0.size:Nat):Int)=1:=rfl
theorem ds_0:(S0.toList==(⟨#[45]⟩:ByteArray).toList)=true:=by decide +kernel
theorem sz_1:((S1.size:Nat):Int)=1:=rfl
theorem ds_1:(S1.toList==(⟨#[45]⟩:ByteArray).toList)=false:=by decide +kernel
theorem sz_3:((S3.size:Nat):Int)=2:=rfl
theorem ds_3:(S3.toList==(⟨#[45]⟩:ByteArray).toList)=false:=by decide +kernel
theorem zjj:((S116.size:Nat):Int)=4:=rfl
theorem zjk:(S116.toList==(⟨#[45]⟩:ByteArray).toList)=false:=by decide +kernel
theorem zjl:((S117.size:Nat):Int)=5:=rfl
theorem zjm:(S117.toList==(⟨#[45]⟩:ByteArray).toList)=false:=by decide +kernel
theorem sz_8:((S8.size:Nat):Int)=1:=rfl
theorem ds_8:(S8.toList==(⟨#[45]⟩:ByteArray).toList)=false:=by decide +kernel
theorem zjn:((S128.size:Nat):Int)=1:=rfl
theorem zjo:(S128.toList==(⟨#[45]⟩:ByteArray).toList)=false:=by decide +kernel
theorem zjp:((S768.size:Nat):Int)=2:=rfl
theorem zjq:(S768.toList==(⟨#[45]⟩:ByteArray).toList)=false:=by decide +kernel
theorem sz_16:((S16.size:Nat):Int)=1:=rfl
theorem ds_16:(S16.toList==(⟨#[45]⟩:ByteArray).toList)=false:=by decide +kernel
theorem wk0:IntKind.i64.wrap 0=0:=rfl
theorem zk0:Int.toNat 0=0:=rfl
theorem wk1:IntKind.i64.wrap 1=1:=rfl
theorem zk1:Int.toNat 1=1:=rfl
theorem wk2:IntKind.i64.wrap 2=2:=rfl
theorem zk2:Int.toNat 2=2:=rfl
theorem wk3:IntKind.i64.wrap 3=3:=rfl
theorem zk3:Int.toNat 3=3:=rfl
theorem wk4:IntKind.i64.wrap 4=4:=rfl
theorem zk4:Int.toNat 4=4:=rfl
theorem wk5:IntKind.i64.wrap 5=5:=rfl
theorem zk5:Int.toNat 5=5:=rfl
attribute [go_sem] wk0 wk1 wk2 wk3 wk4 wk5 zk0 zk1 zk2 zk3 zk4 zk5 z05 z4m z5e z07 g0 g1 s0 s1 Int.le_refl sz_0 ds_0 sz_1 ds_1 sz_3 ds_3 zjj zjk zjl zjm sz_8 ds_8 zjn zjo zjp zjq sz_16 ds_16
structure RcM where
 ix:Int
 ck:Nat
 bd:Byt
 cd:Int
def rcC (r:RcM):List AV:=[I r.ix,UN r.ck,.sl 1 (byv r.bd),I r.cd]
def rcV (r:RcM):AV:=.agg (rcC r)
def cdB (c:Int):Bool:=c==0||(decide (4≤c)&&decide (c≤10))
def bdB (b:Byt):Bool:=(wholeO (bodyR b)).isSome
def rcIs (r:RcM):Bool:=decide (0≤r.ix)&&(decide (r.ix≤2147483647)&&(decide ((r.ck:Int)≤1099511627776)&&(bdB r.bd&&cdB r.cd)))
theorem z9U (o:Option ReM):∃x,z4A o=.tup [reV x,Bo o.isSome]:=by
 cases o with
 |none=>exact⟨noRe,rfl⟩
 |some x=>exact⟨x,rfl⟩
theorem z7N {r:RcM} (h:rcIs r=true):0≤r.ix∧r.ix≤2147483647∧r.ck≤1099511627776∧0≤r.cd∧r.cd≤10:=by
 unfold rcIs cdB at h;simp only[Bool.and_eq_true,Bool.or_eq_true,decide_eq_true_eq,beq_iff_eq]at h;omega
section
variable (σ:St)
theorem z5p (r:RcM) (hb:r.bd.length≤50000):Ans Tryz.prog 45 [rcV r] σ (Bo (rcIs r)) σ:=by
 obtain⟨ix,ck,bd,cd⟩:=r;have k1:=z8S σ bd hb;obtain⟨x,hx⟩:=z9U (wholeO (bodyR bd));rw[hx]at k1;unfold rcV rcC rcIs bdB cdB;refine Ans.of_run t45 ?_;unfold reV reC at k1;generalize (wholeO (bodyR bd)).isSome=ok at k1⊢;simp only
 cases h0:decide (0≤ix) with
 |false =>
  have e0:=lt_of h0;simp -implicitDefEqProofs only[c45,r45,go_sem,e0];exact Fini.ret rfl
 |true =>
 have e0:=lt_of h0
 cases h1:decide (ix≤2147483647) with
 |false =>
  have e1:=gt_of h1;simp -implicitDefEqProofs only[c45,r45,go_sem,e0,e1];exact Fini.ret rfl
 |true =>
 have e1:=gt_of h1
 cases h2:decide ((ck:Int)≤1099511627776) with
 |false =>
  have e2:=gt_of h2;simp -implicitDefEqProofs only[c45,r45,go_sem,e0,e1,e2];exact Fini.ret rfl
 |true =>
 have e2:=gt_of h2;simp -implicitDefEqProofs only[c45,r45,go_sem,e0,e1,e2];refine CO.intro k1 ?_
 cases ok with
 |false =>
  simp -implicitDefEqProofs only[go_sem];exact Fini.ret rfl
 |true =>
 cases h3:(cd==0) with
 |true =>
  simp -implicitDefEqProofs only[go_sem,h3];exact Fini.ret rfl
 |false =>
 cases h4:decide (4≤cd) with
 |false =>
  simp -implicitDefEqProofs only[go_sem,h3,h4];exact Fini.ret rfl
 |true =>
 simp -implicitDefEqProofs only[go_sem,h3,h4];exact Fini.ret rfl
end
def cdC (c:Int):UInt8:=c.toNat.toUInt8
def putRc (r:RcM):Byt:=putN r.ix.toNat++(putN r.ck++(txtB ⟨r.bd.toArray⟩++[cdC r.cd]))
def z0k (r:RcM):Byt:=if rcIs r then putRc r else[]
theorem zfR {c:Int} (h:0≤c) (h1:c≤10):IntKind.u8.wrap c=(((cdC c).toNat:Nat):Int):=by
 obtain⟨n,rfl⟩:=Int.eq_ofNat_of_zero_le h;have:n<11:=by omega
 match n,this with
 |0,_|1,_|2,_|3,_|4,_|5,_|6,_|7,_|8,_|9,_|10,_=>rfl
theorem z1E (b:Byt):(⟨b.toArray⟩:ByteArray).size=b.length:=by simp[ByteArray.size]
theorem zfS (b:Byt):(⟨b.toArray⟩:ByteArray).data.toList=b:=by simp
section
variable (σ:St)
theorem z3u (r:RcM) (hb:r.bd.length≤50000):Ans Tryz.prog 30 [rcV r] σ (.sl 1 (byv (z0k r))) σ:=by
 have hi:=fun s=>z5p s r hb
 unfold z0k
 cases hR:rcIs r with
 |false =>
  have:Ans Tryz.prog 30 [rcV r] σ .nils σ:=by
   refine Ans.of_run t30 ?_;unfold rcV rcC at hi⊢;simp -implicitDefEqProofs only[c30,r30,go_sem];refine CO.intro (hi _) ?_;rw[hR];simp -implicitDefEqProofs only[go_sem];exact Fini.ret rfl
  exact this.subR (.nils 1)
 |true =>
  obtain⟨a1,a2,a3,a4,a5⟩:=z7N hR;obtain⟨ix,ck,bd,cd⟩:=r;simp only at a1 a2 a3 a4 a5 hb;have n1:=fun s=>zgN s ix.toNat (by omega)
  have n2:=fun s=>zgN s ck (by omega)
  have n3:=fun s=>z5M s ⟨bd.toArray⟩ (by rw[z1E];omega)
  have w1:IntKind.u64.wrap ix=((ix.toNat:Nat):Int):=by
   rw[show ix=((ix.toNat:Nat):Int) from by omega,z1q (by omega)];rfl
  have w2:=zfR a4 a5;have l1:=z0n (n:=ix.toNat) (by omega)
  have l2:=z0n (n:=ck) (by omega)
  have l3:(txtB ⟨bd.toArray⟩).length≤60000:=by
   have:=z0n (n:=bd.length) (by omega)
   unfold txtB;rw[List.length_append,zfS,z1E];omega
  have hc:=fun s=>zdo s [putN ix.toNat,putN ck,txtB ⟨bd.toArray⟩,[cdC cd]] (by simp) (by simp;omega) (by
   simp only[List.flatten_cons,List.flatten_nil,List.append_nil,List.length_append,List.length_singleton];omega)
  have e3:([putN ix.toNat,putN ck,txtB ⟨bd.toArray⟩,[cdC cd]]:List Byt).flatten=putRc ⟨ix,ck,bd,cd⟩:=by simp[putRc]
  rw[e3]at hc;refine Ans.of_run t30 ?_;unfold rcV rcC at hi⊢;simp -implicitDefEqProofs only[c30,r30,go_sem];refine CO.intro (hi _) ?_;rw[hR];simp -implicitDefEqProofs only[go_sem,w1];refine CD.intro (n1 _) ?_;simp -implicitDefEqProofs only[go_sem];refine CD.intro (n2 _) ?_;simp -implicitDefEqProofs only[go_sem,z0q,bc,z1L,z1A,AV.isStr];refine CD.intro (n3 _) ?_;simp -implicitDefEqProofs only[go_sem,w2];refine CD.intro (hc _) ?_;simp -implicitDefEqProofs only[go_sem];exact Fini.ret rfl
end
def mkRc (p:Nat×Nat×ByteArray×UInt8):RcM:=⟨(p.1:Nat),p.2.1,p.2.2.1.data.toList,(p.2.2.2.toNat:Nat)⟩
def rcR (n:Nat):Rd RcM:=z1K (seqR (numR 2147483647) (seqR (numR 1099511627776) (seqR (textR n) byteR))) mkRc
def rcS (b:Byt):Nat×Bool→RcM×(Nat×Bool):=z1W (seqSt (runR (numR 2147483647) 0 b) (seqSt (runR (numR 1099511627776) 0 b) (seqSt (runR (textR b.length) ⟨#[]⟩ b) (runR byteR 0 b)))) mkRc
theorem zhZ (n:Nat):EndsR (rcR n):=z1l (z1s (ends_num _) (z1s (ends_num _) (z1s (z1X n) ends_byte))) _
theorem zfT (b:Byt):StepsR b (rcR b.length) (rcS b) :=
 z0W (z0C (z0i b _ _) (z0C (z0i b _ _) (z0C (z0i b _ _) (z0i b _ _) (z1X _)) (ends_num _)) (ends_num _)) _
def okRc (o:Option RcM):Option RcM:=o.bind fun r=>if rcIs r then some r else none
def rdRc (b:Byt):Option RcM:=okRc (wholeO (rcR b.length b))
def noRcV:AV:=.agg [I 0,UN 0,.nils,I 0]
def rcW (o:Option RcM):AV:=match o with
 |some x=>.tup [rcV x,Bo true]
 |none=>.tup [noRcV,Bo false]
theorem bel_rcV (n:Nat) (r:RcM):Bel n (rcV r):=.agg _ fun i hi=>by
 have:∀y∈rcC r,Bel n y:=by
  intro y hy;unfold rcC at hy;simp only[List.mem_cons,List.not_mem_nil,or_false]at hy;rcases hy with rfl|rfl|rfl|rfl
  all_goals first|exact .pl _|exact z1j _ _
 exact this _ (List.getElem_mem hi)
theorem zi0 (n:Nat) (o:Option RcM):Bel n (rcW o):=by
 unfold rcW
 cases o with
 |some x=>exact z2X (bel_rcV _ _)
 |none =>
  refine z2X (.agg _ fun i hi=>?_)
  have:∀y∈([I 0,UN 0,.nils,I 0]:List AV),Bel n y:=by
   intro y hy;simp only[List.mem_cons,List.not_mem_nil,or_false]at hy;rcases hy with rfl|rfl|rfl|rfl
   all_goals first|exact .pl _|exact .nils
  exact this _ (List.getElem_mem hi)
theorem zi1 {n:Nat} (hn:n<2^64) (b:Byt) (q:Nat×Bool):(runR (textR n) ⟨#[]⟩ b q).1.size≤n:=by
 unfold runR;split
 · exact Nat.zero_le _
 · split
   · exact Nat.zero_le _
   · rename_i p hp;exact((z1w hn).bwd _ p.1 p.2 hp).1
abbrev BzR:Ob:=.box [I 0,UN 0,.nils,I 0]
section
variable (σ:St)
theorem z7a (b:Byt) (hb:b.length≤50000):Ans Tryz.prog 61 [.sl 1 (byv b)] σ (rcW (rdRc b)) σ:=by
 have u0:=zi0 σ.length (rdRc b);unfold rdRc okRc at u0⊢;rw[z56 (zfT b) (zhZ _)]at u0⊢
 have hS:rcS b (0,false)=(mkRc ((runR (numR 2147483647) 0 b (0,false)).1,(runR (numR 1099511627776) 0 b (runR (numR 2147483647) 0 b (0,false)).2).1,
   (runR (textR b.length) ⟨#[]⟩ b (runR (numR 1099511627776) 0 b (runR (numR 2147483647) 0 b (0,false)).2).2).1,
   (runR byteR 0 b (runR (textR b.length) ⟨#[]⟩ b (runR (numR 1099511627776) 0 b (runR (numR 2147483647) 0 b (0,false)).2).2).2).1),
   (runR byteR 0 b (runR (textR b.length) ⟨#[]⟩ b (runR (numR 1099511627776) 0 b (runR (numR 2147483647) 0 b (0,false)).2).2).2).2):=rfl
 rw[hS]at u0⊢;have k1:=z21 (σ++[BzR,rob b (0,false)]) (σ.length+1) b (0,false) 2147483647 (by decide) (g1 _ _ _ _) (Inb0 b) hb
 have i1:=z0h (numR 2147483647) 0 b (0,false) (Inb0 b);have q0:=z2F (most:=2147483647) b (0,false);rw[s1]at k1;generalize runR (numR 2147483647) 0 b (0,false)=w at k1 i1 q0 u0⊢;obtain⟨u,q1⟩:=w;simp only at k1 i1 q0 u0⊢;have k2:=z21 (σ++[BzR,rob b q1]) (σ.length+1) b q1 1099511627776 (by decide) (g1 _ _ _ _) i1 hb
 have i2:=z0h (numR 1099511627776) 0 b q1 i1;rw[s1]at k2;generalize runR (numR 1099511627776) 0 b q1=w at k2 i2 u0⊢;obtain⟨ck,q2⟩:=w;simp only at k2 i2 u0⊢;have k3:=z2L (σ++[BzR,rob b q2]) (σ.length+1) b q2 b.length (by omega) (g1 _ _ _ _) i2 hb
 have i3:=z0h (textR b.length) ⟨#[]⟩ b q2 i2;have j0:=zi1 (n:=b.length) (by omega) b q2
 rw[s1]at k3;generalize runR (textR b.length) ⟨#[]⟩ b q2=w at k3 i3 j0 u0⊢;obtain⟨s,q3⟩:=w;simp only at k3 i3 j0 u0⊢;have k4:=z1e (σ++[BzR,rob b q3]) (σ.length+1) b q3 (g1 _ _ _ _) i3 hb;have i4:=z0h byteR 0 b q3 i3;rw[s1]at k4;generalize runR byteR 0 b q3=w at k4 i4 u0⊢;obtain⟨c,a,bad⟩:=w;simp only at k4 i4 u0⊢;have ke:=z2z (σ++[BzR,rob b (a,bad)]) (σ.length+1) b (a,bad) (g1 _ _ _ _);have ki:=z5p (σ++[BzR,rob b (a,bad)]) (mkRc (u,ck,s,c)) (by unfold mkRc;simp only;rw[z1k];omega)
 have w1:IntKind.i64.wrap (u:Int)=(u:Int):=wrapI (by omega)
 have wc:IntKind.i64.wrap (c.toNat:Int)=(c.toNat:Int):=wrapI (by have:=c.toNat_lt;omega)
 have e1:(((a:Nat):Int) != (b.length:Nat))= !decide (a=b.length):=by
  rw[bne];congr 1
  rw[Bool.eq_iff_iff];simp only[beq_iff_eq,decide_eq_true_eq];omega
 refine Ans.of_run' t61 (fun y0 _=>?_)
 simp -implicitDefEqProofs only[c61,r61,go_sem];refine CO.intro (new_ans _ b) ?_;simp -implicitDefEqProofs only[go_sem,List.append_assoc,List.length_append];refine CO.intro k1 ?_;simp -implicitDefEqProofs only[go_sem,w1];refine CO.intro k2 ?_;simp -implicitDefEqProofs only[go_sem,z05];refine CO.intro k3 ?_;simp -implicitDefEqProofs only[go_sem,z6N];refine CO.intro k4 ?_;simp -implicitDefEqProofs only[go_sem,bc,wc];refine CO.intro ke ?_;have hz:rcV (mkRc (u,ck,s,c))=.agg [I (u:Nat),UN ck,.sl 1 (byv s.data.toList),I (c.toNat:Nat)]:=rfl;rw[hz]at ki;unfold rcW noRcV at u0⊢
 cases bad with
 |true =>
  simp -implicitDefEqProofs only[go_sem,g0,s0];exact tr_ (σ':=σ) (ex:=[_,_]) rfl u0 y0
 |false =>
  by_cases he:a=b.length
  · rw[decide_eq_true he]at e1 u0⊢
    cases hR:rcIs (mkRc (u,ck,s,c)) with
    |true =>
     rw[hR]at ki;simp -implicitDefEqProofs only[go_sem,z05,e1,Bool.not_true];refine CO.intro ki ?_;simp only[Bool.not_false,Bool.true_and,if_true,Option.bind_some,hR,hz]at u0⊢;simp -implicitDefEqProofs only[go_sem,g0,s0];exact tr_ (σ':=σ) (ex:=[_,_]) rfl u0 y0
    |false =>
     rw[hR]at ki;simp -implicitDefEqProofs only[go_sem,z05,e1,Bool.not_true];refine CO.intro ki ?_;simp only[Bool.not_false,Bool.true_and,if_true,Option.bind_some,hR,Bool.false_eq_true,if_false]at u0⊢;simp -implicitDefEqProofs only[go_sem,g0,s0];exact tr_ (σ':=σ) (ex:=[_,_]) rfl u0 y0
  · rw[decide_eq_false he]at e1 u0⊢;simp -implicitDefEqProofs only[go_sem,z05,e1,Bool.not_false,g0,s0];exact tr_ (σ':=σ) (ex:=[_,_]) rfl u0 y0
end
def preS (L:List Lab) (i:Nat):Byt:=putN L.length++z17 putLb (L.take i)
theorem z8U (L:List Lab) (i:Nat) (h:i<L.length):preS L (i+1)=preS L i++(txtB L[i].1++txtB L[i].2):=by
 unfold preS z17;rw[List.take_succ_eq_append_getElem h,List.flatMap_append,List.append_assoc];simp[putLb]
theorem zaX (L:List Lab):preS L L.length=z3V L:=by unfold preS z3V z2x;rw[List.take_length]
theorem z8V (L:List Lab):preS L 0=putN L.length:=by unfold preS z17;simp
theorem z7O {L:List Lab} (h:setB L=true):∀i,i≤L.length→(preS L i).length≤10+60*i
 |0,_=>by rw[z8V];have:=z0n (n:=L.length) (by have:=(z4R h).1;omega);omega
 |i+1,hi=>by
  have ih:=z7O h i (by omega)
  have hx:=(z4R h).2 L[i] (List.getElem_mem (by omega))
  have h1:=z1B L[i].1 (by omega)
  have h2:=z1B L[i].2 (by omega)
  rw[z8U L i (by omega),List.length_append,List.length_append]
  omega
def z2P (L:List Lab):Byt:=if setB L then z3V L else[]
section
variable (σ:St)
theorem z9V (L:List Lab) (hL:∀x∈L,x.1.size≤100000):Ans Tryz.prog 81 [.sl 2 (lvs L)] σ (.sl 1 (byv (z2P L))) σ:=by
 have hi:=fun s=>z2c s L hL
 unfold z2P
 cases hR:setB L with
 |false =>
  have:Ans Tryz.prog 81 [.sl 2 (lvs L)] σ .nils σ:=by
   refine Ans.of_run t81 ?_;simp -implicitDefEqProofs only[c81,r81,go_sem];refine CO.intro (hi _) ?_;rw[hR];simp -implicitDefEqProofs only[go_sem];exact Fini.ret rfl
  exact this.subR (.nils 1)
 |true =>
  obtain⟨h1,h2⟩:=z4R hR;have y0:=z7O hR;have n1:=fun s=>z5l s L.length (by omega)
  rw[←z8V]at n1;have hw:=z1q (n:=L.length) (by omega)
  refine Ans.of_run' t81 (fun u0 _=>?_)
  simp -implicitDefEqProofs only[c81,r81,go_sem];refine CO.intro (hi _) ?_;rw[hR];simp -implicitDefEqProofs only[go_sem,z0j,hw];refine CO.intro (n1 _) ?_;simp -implicitDefEqProofs only[go_sem,z0j];refine Go.Ab.L.count L.length (fun i=>mkE 34 [(0,.sl 2 (lvs L)),(3,.osl σ.length (preS L i).length),(4,I i)]) (fun i=>σ++[.row 1 (byv (preS L i))]) ?_ ?_ rfl rfl
  · intro i hi J hJ;have hx:=lvs_D L i hi;rw[List.getD_eq_getElem?_getD,List.getElem?_eq_getElem hi,Option.getD_some]at hx;have hs:=h2 L[i] (List.getElem_mem hi);have hp:=y0 (i+1) (by omega)
    rw[z8U L i hi]at hJ hp;generalize L[i]=s at hx hs hJ hp;generalize preS L i=pre at hJ hp⊢;have q0:=wrap_succ (i:=i) (by omega)
    rw[List.length_append,List.length_append]at hp hJ;have l1:pre.length+(txtB s.1).length≤4294967296:=by omega
    have l2:pre.length+(txtB s.1).length+(txtB s.2).length≤4294967296:=by omega
    simp -implicitDefEqProofs only[mkE,go_sem,z0j,z0e hi,dec_lt hi,hx];refine CD.intro (z1S _ s.1 (by omega)) ?_
    simp -implicitDefEqProofs only[go_sem,g0,s0,z05,z0q,bc,l1,z0j,z0e hi,hx];refine CD.intro (z1S _ s.2 (by omega)) ?_
    simp -implicitDefEqProofs only[go_sem,g0,s0,z05,z0q,bc,l1,l2,q0,List.length_append];simp only[z0t,List.append_assoc,Nat.add_assoc]at hJ⊢;exact hJ
  · intro J;have d0:decide ((L.length:Int)<L.length)=false:=by simp
    simp -implicitDefEqProofs only[mkE,go_sem,z0j,d0,g0,s0,z05,zaX];exact Fini.trim2 (σ':=σ) (ex:=[_]) rfl rfl (Nat.le_refl _) (z1j _ _) u0
end
def opC (op:Int):UInt8:=op.toNat.toUInt8
def layF (f k:Int) (ps:List Byt) (B:Byt):Byt:=if hasF f k then B++ps.flatten else B
def putB1 (f:Int) (r:ReM):Byt:=layF f 4 [putN r.st,putN r.en] (layF f 2 [txtB r.txt] (layF f 1 [putN r.id.toNat] [opC r.op]))
def putB2 (f:Int) (r:ReM):Byt:=layF f 64 [putBd (r.any,r.lo,r.hi)] (layF f 16 [z0Y r.mt] (layF f 8 [[opC r.sta]] (putB1 f r)))
def z0a (f:Int) (r:ReM):Byt:=layF f 512 [putV r.val] (layF f 256 [z2P r.ls] (layF f 128 [z1H r.ru] (putB2 f r)))
def z1v (r:ReM):Byt:=if mayR r then z0a (fOf r.op).1 r else[]
theorem z7P {c:Int} (h:0≤c) (h1:c≤17):IntKind.u8.wrap c=(((opC c).toNat:Nat):Int):=by
 obtain⟨n,rfl⟩:=Int.eq_ofNat_of_zero_le h;have:n<18:=by omega
 match n,this with
 |0,_|1,_|2,_|3,_|4,_|5,_|6,_|7,_|8,_|9,_|10,_|11,_|12,_|13,_|14,_|15,_|16,_|17,_=>rfl
section
variable (σ:St)
theorem z2s {f k:Int} {ps:List Byt} {B:Byt} {n m:Nat} (hB:B.length≤n) (hp:hasF f k=true→ps.flatten.length≤m):(layF f k ps B).length≤n+m:=by
 unfold layF;split
 · rename_i h;have:=hp h;rw[List.length_append];omega
 · omega
structure BdOk (r:ReM):Prop where
 op0:0≤r.op
 op1:r.op≤17
 id0:0≤r.id
 id1:r.id≤2147483647
 txt:r.txt.size≤16
 st:r.st≤1099511627776
 en:r.en≤1099511627776
 sta0:0≤r.sta
 sta1:r.sta≤3
 mt:listB r.mt=true
 ru:hasF (fOf r.op).1 128=true→ruIs r.ru=true
 ls:hasF (fOf r.op).1 256=true→setB r.ls=true
theorem bd_ok {r:ReM} (h:mayR r=true):BdOk r:=by
 have k0:1≤r.op∧r.op≤17:=by
  have:(fOf r.op).2=true:=by unfold mayR at h;simp only[Bool.and_eq_true]at h;exact h.1
  unfold fOf at this;split at this
  · assumption
  · cases this
 unfold mayR at h;simp only[Bool.and_eq_true]at h;obtain⟨_,hz,hr⟩:=h;unfold zeroB at hz;unfold z0c idR clkB staR at hr;simp only[Bool.and_eq_true,Bool.or_eq_true,decide_eq_true_eq,Bool.not_eq_true']at hz hr;obtain⟨hid,m0,hst,hen,u0,y0,_,_,q0,j0⟩:=hr;refine⟨by omega,k0.2,hid.1,hid.2,?_,by omega,by omega,u0.1,u0.2,y0,fun h=>?_,fun h=>?_⟩
 · rcases m0 with h|h
   · rcases hz.2.1 with h'|h'
     · rw[h]at h';cases h'
     · unfold emS at h';have:=eq_of_beq h';rw[ByteArray.toList_eq,ByteArray.toList_eq]at this;have h0:r.txt.size=0:=by rw[←z1k,this];rfl
       omega
   · unfold tokB at h;simp only[Bool.and_eq_true,decide_eq_true_eq]at h;omega
 · rcases q0 with h'|h'
   · rw[h]at h';cases h'
   · exact h'
 · rcases j0 with h'|h'
   · rw[h]at h';cases h'
   · exact h'
theorem z8W {M:List Mtr} (h:listB M=true):0<([z0Y M]:List Byt).flatten.length∧([z0Y M]:List Byt).flatten.length≤510:=by
 have e:z0Y M=putL M:=by unfold z0Y;rw[h];rfl
 have:=zaP M;have:=z7I h;simp only[List.flatten_cons,List.flatten_nil,List.append_nil,e];omega
theorem zdX {r:RuM} (h:ruIs r=true):0<([z1H r]:List Byt).flatten.length∧([z1H r]:List Byt).flatten.length≤100000:=by
 have e:z1H r=putR r:=by unfold z1H;rw[h];rfl
 have h0:=z7H r;have h1:=z5m h r.eq.length (Nat.le_refl _);have h5:=(z29 h).2.2.2.1;rw[h0]at h1
 have hp:0<(putR r).length:=by
  have:=zaP r.src;unfold putR;simp only[List.length_append];omega
 simp only[List.flatten_cons,List.flatten_nil,List.append_nil,e];omega
theorem zdY {L:List Lab} (h:setB L=true):0<([z2P L]:List Byt).flatten.length∧([z2P L]:List Byt).flatten.length≤1000:=by
 have e:z2P L=z3V L:=by unfold z2P;rw[h];rfl
 have h0:=zaX L;have h1:=z7O h L.length (Nat.le_refl _);have h2:=(z4R h).1;rw[h0]at h1
 have hp:0<(z3V L).length:=by
  have:=z9t L.length;unfold z3V z2x
  cases h:putN L.length with
  |nil=>exact absurd h this
  |cons a b=>simp
 simp only[List.flatten_cons,List.flatten_nil,List.append_nil,e];omega
end
theorem zi2 (r:RuM):([z1H r]:List Byt).flatten.length≤100000:=by
 cases h:ruIs r with
 |true=>exact(zdX h).2
 |false=>unfold z1H;rw[h];exact Nat.zero_le _
theorem zdZ (L:List Lab):([z2P L]:List Byt).flatten.length≤1000:=by
 cases h:setB L with
 |true=>exact(zdY h).2
 |false=>unfold z2P;rw[h];exact Nat.zero_le _
section
variable (σ:St)
end
end Go.Proofs.YteakobbdgehlgaaGreatDoor
namespace Go.Ab
open Go.ChangeShapes Go.WideShapes
def z7Q:List AV→Prop:=fun xs=>∃n:Nat,n<2^64∧xs=[.pl (.float .f64 n)]
theorem Reads.floatW {P:Program} {t:TypeId} (ht:P.underlying t=some (.float .f64)) (f:Nat):Reads P t f z7Q:=by
 intro H enc W cs x h
 have:∃n,n<2^64∧cs=[.float .f64 n]:=by
  cases f with
  |zero=>simp[DataW.trod]at h
  |succ n =>
   unfold DataW.trod at h;rw[ht]at h;split at h<;>simp_all [Lit.wf]
   rename_i heq;subst heq;simp only at h;have h:=(Option.ite_none_right_eq_some.1 h).1;exact⟨of_decide_eq_true h.2,h.1⟩
 obtain⟨n,hn,rfl⟩:=this;exact⟨_,z3o (.pl _),n,hn,rfl⟩
end Go.Ab
namespace Go.Proofs.YteakobbdgehlgaaGreatDoor
open Go Go.Ab Go.Cod Go.ChangeShapes Go.WideShapes Go.ChangeAt Go.RowKit
theorem toList_inj {a b:ByteArray} (h:a.toList=b.toList):a=b:=by
 rw[ByteArray.toList_eq,ByteArray.toList_eq]at h;cases a;cases b;simpa using h
section
variable (σ:St)
end
def z9W:List AV→Prop:=fun xs=>∃(b:Int) (lo hi:Nat),lo<2^64∧hi<2^64∧xs=[I b,Fl lo,Fl hi]
def QDRuW:List AV→Prop:=fun xs=>∃d:RuD,d.lo<2^64∧d.hi<2^64∧xs=duC d
theorem z57 (f:Nat):Reads Tryz.prog 39 f z9W:=by
 cases f with
 |zero=>exact Reads.zero
 |succ f =>
  have h:=Reads.struct (P:=Tryz.prog) (t:=39) (f:=f) (Qs:=[QInt .i64,z7Q,z7Q]) Tryz.underlying39 (by kernel_rfl) rfl (by
   intro p hp;simp only[List.zip_cons_cons,List.zip_nil_right,List.mem_cons,List.not_mem_nil,or_false]at hp;rcases hp with rfl|rfl|rfl
   · exact Reads.int Tryz.underlying3 f
   · exact Reads.floatW Tryz.underlying37 f
   · exact Reads.floatW Tryz.underlying37 f)
  refine h.mono fun xs hq=>?_
  obtain⟨_,_,rfl,⟨k,_,rfl⟩,_,_,rfl,⟨n,hn,rfl⟩,_,_,rfl,⟨v,hv,rfl⟩,rfl⟩:=hq;exact⟨k,n,v,hn,hv,rfl⟩
theorem z8X (f:Nat):Reads Tryz.prog 41 f QDRuW:=by
 cases f with
 |zero=>exact Reads.zero
 |succ f =>
  have h:=Reads.struct (P:=Tryz.prog) (t:=41) (f:=f) (Qs:=[QMats,QMats,z9W,QInts]) Tryz.underlying41 (by kernel_rfl) rfl (by
   intro p hp;simp only[List.zip_cons_cons,List.zip_nil_right,List.mem_cons,List.not_mem_nil,or_false]at hp;rcases hp with rfl|rfl|rfl|rfl
   · exact z4Q f
   · exact z4Q f
   · exact z57 f
   · exact z78 f)
  refine h.mono fun xs hq=>?_
  obtain⟨_,_,rfl,⟨M,hM,rfl⟩,_,_,rfl,⟨N,hN,rfl⟩,_,_,rfl,⟨b,lo,hi,h1,h2,rfl⟩,_,_,rfl,⟨e,rfl⟩,rfl⟩:=hq;exact⟨⟨M,N,b,lo,hi,e,hM,hN⟩,h1,h2,rfl⟩
theorem zfU {d:RuD} (h1:d.lo<2^64) (h2:d.hi<2^64):ruSz (z2W d):=by
 unfold ruSz z2W z0I;simp only;split
 · exact⟨by decide,by decide⟩
 · split
   · exact⟨h2,h1⟩
   · exact⟨h1,h2⟩
end Go.Proofs.YteakobbdgehlgaaGreatDoor
