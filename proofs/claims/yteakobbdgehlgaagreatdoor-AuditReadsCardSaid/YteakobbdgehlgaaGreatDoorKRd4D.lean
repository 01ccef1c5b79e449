/- Whether a request may be, by the document, at some of the strings of fields. Printed by a program. No condition. -/
import Derived.Test.YteakobbdgehlgaaGreatDoorKRd3D
import Derived.Test.YteakobbdgehlgaaGreatDoorKShB1D
set_option linter.unusedSimpArgs false
set_option linter.unusedVariables false
set_option linter.unusedSectionVars false
namespace Go.Proofs.YteakobbdgehlgaaGreatDoor
open Go Go.Ab Go.Cod
set_option maxRecDepth 100000
section
variable (σ:St)
set_option maxHeartbeats 8000000 in
theorem z4S (r:ReM) (hr:ReSm r) (hd:dOf r.op=S0):Ans Tryz.prog 76 [reV r] σ (Bo (docB r S0)) σ:=by
 obtain⟨tok,op,id,txt,st,en,sta,mt,any,lo,hi,⟨src,tgt,ra,rl,rh,eq⟩,ls,val⟩:=r;obtain⟨hm,hru,hls⟩:=hr;simp only at hm hru hls hd;have k1:=z0l σ op;rw[hd]at k1;have ii:=fun c h=>z2n σ S0 c h
 have i73:=ii 73 (by decide)
 have i84:=ii 84 (by decide)
 have i83:=ii 83 (by decide)
 have i90:=ii 90 (by decide)
 have i77:=ii 77 (by decide)
 have i66:=ii 66 (by decide)
 have i82:=ii 82 (by decide)
 have i76:=ii 76 (by decide)
 simp only[hc_0]at i73 i84 i83 i90 i77 i66 i82 i76;have b0:=z2m σ txt;have b1:=z1n σ mt hm;have b2:=z1s σ (any,lo,hi);have b3:=z1Z σ any lo hi;have b4:=z1L σ ⟨src,tgt,ra,rl,rh,eq⟩ hru;have b5:=z1E σ ⟨src,tgt,ra,rl,rh,eq⟩;have b6:=z2b σ ls hls;have b7:=z1i σ val;unfold bandV at b2;unfold ruV at b4 b5;unfold docB;simp only[hc_0,Bool.true_or,Bool.false_or,Bool.not_true,Bool.not_false,Bool.true_and,if_true,Bool.false_eq_true,if_false];refine Ans.of_run t76 ?_;unfold reV reC;simp -implicitDefEqProofs only[c76,r76,go_sem];refine CO.intro k1 ?_;simp -implicitDefEqProofs only[go_sem];refine CO.intro i73 ?_
 cases h0:(id==0) with
 |false =>
  have fh00:=ne_of h0;simp -implicitDefEqProofs only[go_sem,h0,fh00];exact Fini.ret rfl
 |true =>
 have fh00:=ne_of h0
 cases h1:(decide (0≤id)) with
 |false =>
  have fh10:=lt_of h1;simp -implicitDefEqProofs only[go_sem,h0,fh00,h1,fh10];exact Fini.ret rfl
 |true =>
 have fh10:=lt_of h1
 cases h2:(decide (id≤2147483647)) with
 |false =>
  have fh20:=gt_of h2;simp -implicitDefEqProofs only[go_sem,h0,fh00,h1,fh10,h2,fh20];exact Fini.ret rfl
 |true =>
 have fh20:=gt_of h2;simp -implicitDefEqProofs only[go_sem,h0,fh00,h1,fh10,h2,fh20];refine CO.intro i84 ?_;simp -implicitDefEqProofs only[go_sem];refine CO.intro i84 ?_;unfold emS
 cases h3:(txt.toList==(⟨#[]⟩:ByteArray).toList) with
 |false =>
  simp -implicitDefEqProofs only[go_sem,h3];exact Fini.ret rfl
 |true =>
 simp -implicitDefEqProofs only[go_sem,h3];refine CO.intro i83 ?_;unfold emU
 cases h4:(((st:Nat):Int)==0) with
 |false =>
  have fh40:=ne_of h4;simp -implicitDefEqProofs only[go_sem,h4,fh40];exact Fini.ret rfl
 |true =>
 have fh40:=ne_of h4
 cases h5:(((en:Nat):Int)==0) with
 |false =>
  have fh50:=ne_of h5;simp -implicitDefEqProofs only[go_sem,h4,fh40,h5,fh50];exact Fini.ret rfl
 |true =>
 have fh50:=ne_of h5;unfold clkB
 cases h6:(decide (((st:Nat):Int)≤1099511627776)) with
 |false =>
  have fh60:=gt_of h6;simp -implicitDefEqProofs only[go_sem,h4,fh40,h5,fh50,h6,fh60];exact Fini.ret rfl
 |true =>
 have fh60:=gt_of h6
 cases h7:(decide (((en:Nat):Int)≤1099511627776)) with
 |false =>
  have fh70:=gt_of h7;simp -implicitDefEqProofs only[go_sem,h4,fh40,h5,fh50,h6,fh60,h7,fh70];exact Fini.ret rfl
 |true =>
 have fh70:=gt_of h7;simp -implicitDefEqProofs only[go_sem,h4,fh40,h5,fh50,h6,fh60,h7,fh70];refine CO.intro i90 ?_
 cases h8:(sta==0) with
 |false =>
  have fh80:=ne_of h8;simp -implicitDefEqProofs only[go_sem,h8,fh80];exact Fini.ret rfl
 |true =>
 have fh80:=ne_of h8
 cases h9:(decide (0≤sta)) with
 |false =>
  have fh90:=lt_of h9;simp -implicitDefEqProofs only[go_sem,h8,fh80,h9,fh90];exact Fini.ret rfl
 |true =>
 have fh90:=lt_of h9
 cases h10:(decide (sta≤3)) with
 |false =>
  have fh100:=gt_of h10;simp -implicitDefEqProofs only[go_sem,h8,fh80,h9,fh90,h10,fh100];exact Fini.ret rfl
 |true =>
 have fh100:=gt_of h10;simp -implicitDefEqProofs only[go_sem,h8,fh80,h9,fh90,h10,fh100];refine CO.intro i77 ?_;have hl:=z4A mt.length
 cases hm0:(emI mt.length) with
 |false =>
  rw[hm0]at hl;simp -implicitDefEqProofs only[go_sem,hl];exact Fini.ret rfl
 |true =>
 rw[hm0]at hl;simp -implicitDefEqProofs only[go_sem,hl];refine CO.intro i83 ?_;simp -implicitDefEqProofs only[go_sem];refine CO.intro b1 ?_
 cases h11:(listB mt) with
 |false =>
  simp -implicitDefEqProofs only[go_sem];exact Fini.ret rfl
 |true =>
 simp -implicitDefEqProofs only[go_sem];refine CO.intro i66 ?_;simp -implicitDefEqProofs only[go_sem];refine CO.intro b2 ?_
 cases h12:(noBd (any,lo,hi)) with
 |false =>
  simp -implicitDefEqProofs only[go_sem];exact Fini.ret rfl
 |true =>
 simp -implicitDefEqProofs only[go_sem];refine CO.intro b3 ?_
 cases h13:(mayB any lo hi) with
 |false =>
  simp -implicitDefEqProofs only[go_sem];exact Fini.ret rfl
 |true =>
 simp -implicitDefEqProofs only[go_sem];refine CO.intro i82 ?_;simp -implicitDefEqProofs only[go_sem];refine CO.intro i82 ?_;simp -implicitDefEqProofs only[go_sem];refine CO.intro b5 ?_
 cases h14:(noRl ⟨src,tgt,ra,rl,rh,eq⟩) with
 |false =>
  simp -implicitDefEqProofs only[go_sem];exact Fini.ret rfl
 |true =>
 simp -implicitDefEqProofs only[go_sem];refine CO.intro i76 ?_;unfold emI zF
 cases h15:(((ls.length:Nat):Int)==0) with
 |false =>
  simp -implicitDefEqProofs only[go_sem,h15];exact Fini.ret rfl
 |true =>
 simp -implicitDefEqProofs only[go_sem,h15];refine CO.intro b7 ?_;simp -implicitDefEqProofs only[go_sem];exact Fini.ret rfl
set_option maxHeartbeats 8000000 in
theorem z47 (r:ReM) (hr:ReSm r) (hd:dOf r.op=S1):Ans Tryz.prog 76 [reV r] σ (Bo (docB r S1)) σ:=by
 obtain⟨tok,op,id,txt,st,en,sta,mt,any,lo,hi,⟨src,tgt,ra,rl,rh,eq⟩,ls,val⟩:=r;obtain⟨hm,hru,hls⟩:=hr;simp only at hm hru hls hd;have k1:=z0l σ op;rw[hd]at k1;have ii:=fun c h=>z2n σ S1 c h
 have i73:=ii 73 (by decide)
 have i84:=ii 84 (by decide)
 have i83:=ii 83 (by decide)
 have i90:=ii 90 (by decide)
 have i77:=ii 77 (by decide)
 have i66:=ii 66 (by decide)
 have i82:=ii 82 (by decide)
 have i76:=ii 76 (by decide)
 simp only[hc_1]at i73 i84 i83 i90 i77 i66 i82 i76;have b0:=z2m σ txt;have b1:=z1n σ mt hm;have b2:=z1s σ (any,lo,hi);have b3:=z1Z σ any lo hi;have b4:=z1L σ ⟨src,tgt,ra,rl,rh,eq⟩ hru;have b5:=z1E σ ⟨src,tgt,ra,rl,rh,eq⟩;have b6:=z2b σ ls hls;have b7:=z1i σ val;unfold bandV at b2;unfold ruV at b4 b5;unfold docB;simp only[hc_1,Bool.true_or,Bool.false_or,Bool.not_true,Bool.not_false,Bool.true_and,if_true,Bool.false_eq_true,if_false];refine Ans.of_run t76 ?_;unfold reV reC;simp -implicitDefEqProofs only[c76,r76,go_sem];refine CO.intro k1 ?_;simp -implicitDefEqProofs only[go_sem];refine CO.intro i73 ?_
 cases h0:(decide (0≤id)) with
 |false =>
  have fh00:=lt_of h0;simp -implicitDefEqProofs only[go_sem,h0,fh00];exact Fini.ret rfl
 |true =>
 have fh00:=lt_of h0
 cases h1:(decide (id≤2147483647)) with
 |false =>
  have fh10:=gt_of h1;simp -implicitDefEqProofs only[go_sem,h0,fh00,h1,fh10];exact Fini.ret rfl
 |true =>
 have fh10:=gt_of h1;simp -implicitDefEqProofs only[go_sem,h0,fh00,h1,fh10];refine CO.intro i84 ?_;simp -implicitDefEqProofs only[go_sem];refine CO.intro i84 ?_;unfold emS
 cases h2:(txt.toList==(⟨#[]⟩:ByteArray).toList) with
 |false =>
  simp -implicitDefEqProofs only[go_sem,h2];exact Fini.ret rfl
 |true =>
 simp -implicitDefEqProofs only[go_sem,h2];refine CO.intro i83 ?_;unfold emU
 cases h3:(((st:Nat):Int)==0) with
 |false =>
  have fh30:=ne_of h3;simp -implicitDefEqProofs only[go_sem,h3,fh30];exact Fini.ret rfl
 |true =>
 have fh30:=ne_of h3
 cases h4:(((en:Nat):Int)==0) with
 |false =>
  have fh40:=ne_of h4;simp -implicitDefEqProofs only[go_sem,h3,fh30,h4,fh40];exact Fini.ret rfl
 |true =>
 have fh40:=ne_of h4;unfold clkB
 cases h5:(decide (((st:Nat):Int)≤1099511627776)) with
 |false =>
  have fh50:=gt_of h5;simp -implicitDefEqProofs only[go_sem,h3,fh30,h4,fh40,h5,fh50];exact Fini.ret rfl
 |true =>
 have fh50:=gt_of h5
 cases h6:(decide (((en:Nat):Int)≤1099511627776)) with
 |false =>
  have fh60:=gt_of h6;simp -implicitDefEqProofs only[go_sem,h3,fh30,h4,fh40,h5,fh50,h6,fh60];exact Fini.ret rfl
 |true =>
 have fh60:=gt_of h6;simp -implicitDefEqProofs only[go_sem,h3,fh30,h4,fh40,h5,fh50,h6,fh60];refine CO.intro i90 ?_
 cases h7:(sta==0) with
 |false =>
  have fh70:=ne_of h7;simp -implicitDefEqProofs only[go_sem,h7,fh70];exact Fini.ret rfl
 |true =>
 have fh70:=ne_of h7
 cases h8:(decide (0≤sta)) with
 |false =>
  have fh80:=lt_of h8;simp -implicitDefEqProofs only[go_sem,h7,fh70,h8,fh80];exact Fini.ret rfl
 |true =>
 have fh80:=lt_of h8
 cases h9:(decide (sta≤3)) with
 |false =>
  have fh90:=gt_of h9;simp -implicitDefEqProofs only[go_sem,h7,fh70,h8,fh80,h9,fh90];exact Fini.ret rfl
 |true =>
 have fh90:=gt_of h9;simp -implicitDefEqProofs only[go_sem,h7,fh70,h8,fh80,h9,fh90];refine CO.intro i77 ?_;have hl:=z4A mt.length
 cases hm0:(emI mt.length) with
 |false =>
  rw[hm0]at hl;simp -implicitDefEqProofs only[go_sem,hl];exact Fini.ret rfl
 |true =>
 rw[hm0]at hl;simp -implicitDefEqProofs only[go_sem,hl];refine CO.intro i83 ?_;simp -implicitDefEqProofs only[go_sem];refine CO.intro b1 ?_
 cases h10:(listB mt) with
 |false =>
  simp -implicitDefEqProofs only[go_sem];exact Fini.ret rfl
 |true =>
 simp -implicitDefEqProofs only[go_sem];refine CO.intro i66 ?_;simp -implicitDefEqProofs only[go_sem];refine CO.intro b2 ?_
 cases h11:(noBd (any,lo,hi)) with
 |false =>
  simp -implicitDefEqProofs only[go_sem];exact Fini.ret rfl
 |true =>
 simp -implicitDefEqProofs only[go_sem];refine CO.intro b3 ?_
 cases h12:(mayB any lo hi) with
 |false =>
  simp -implicitDefEqProofs only[go_sem];exact Fini.ret rfl
 |true =>
 simp -implicitDefEqProofs only[go_sem];refine CO.intro i82 ?_;simp -implicitDefEqProofs only[go_sem];refine CO.intro i82 ?_;simp -implicitDefEqProofs only[go_sem];refine CO.intro b5 ?_
 cases h13:(noRl ⟨src,tgt,ra,rl,rh,eq⟩) with
 |false =>
  simp -implicitDefEqProofs only[go_sem];exact Fini.ret rfl
 |true =>
 simp -implicitDefEqProofs only[go_sem];refine CO.intro i76 ?_;unfold emI zF
 cases h14:(((ls.length:Nat):Int)==0) with
 |false =>
  simp -implicitDefEqProofs only[go_sem,h14];exact Fini.ret rfl
 |true =>
 simp -implicitDefEqProofs only[go_sem,h14];refine CO.intro b7 ?_;simp -implicitDefEqProofs only[go_sem];exact Fini.ret rfl
set_option maxHeartbeats 8000000 in
theorem z9k (r:ReM) (hr:ReSm r) (hd:dOf r.op=S3):Ans Tryz.prog 76 [reV r] σ (Bo (docB r S3)) σ:=by
 obtain⟨tok,op,id,txt,st,en,sta,mt,any,lo,hi,⟨src,tgt,ra,rl,rh,eq⟩,ls,val⟩:=r;obtain⟨hm,hru,hls⟩:=hr;simp only at hm hru hls hd;have k1:=z0l σ op;rw[hd]at k1;have ii:=fun c h=>z2n σ S3 c h
 have i73:=ii 73 (by decide)
 have i84:=ii 84 (by decide)
 have i83:=ii 83 (by decide)
 have i90:=ii 90 (by decide)
 have i77:=ii 77 (by decide)
 have i66:=ii 66 (by decide)
 have i82:=ii 82 (by decide)
 have i76:=ii 76 (by decide)
 simp only[hc_3]at i73 i84 i83 i90 i77 i66 i82 i76;have b0:=z2m σ txt;have b1:=z1n σ mt hm;have b2:=z1s σ (any,lo,hi);have b3:=z1Z σ any lo hi;have b4:=z1L σ ⟨src,tgt,ra,rl,rh,eq⟩ hru;have b5:=z1E σ ⟨src,tgt,ra,rl,rh,eq⟩;have b6:=z2b σ ls hls;have b7:=z1i σ val;unfold bandV at b2;unfold ruV at b4 b5;unfold docB;simp only[hc_3,Bool.true_or,Bool.false_or,Bool.not_true,Bool.not_false,Bool.true_and,if_true,Bool.false_eq_true,if_false];refine Ans.of_run t76 ?_;unfold reV reC;simp -implicitDefEqProofs only[c76,r76,go_sem];refine CO.intro k1 ?_;simp -implicitDefEqProofs only[go_sem];refine CO.intro i73 ?_
 cases h0:(decide (0≤id)) with
 |false =>
  have fh00:=lt_of h0;simp -implicitDefEqProofs only[go_sem,h0,fh00];exact Fini.ret rfl
 |true =>
 have fh00:=lt_of h0
 cases h1:(decide (id≤2147483647)) with
 |false =>
  have fh10:=gt_of h1;simp -implicitDefEqProofs only[go_sem,h0,fh00,h1,fh10];exact Fini.ret rfl
 |true =>
 have fh10:=gt_of h1;simp -implicitDefEqProofs only[go_sem,h0,fh00,h1,fh10];refine CO.intro i84 ?_;simp -implicitDefEqProofs only[go_sem];refine CO.intro b0 ?_
 cases h2:(tokB txt) with
 |false =>
  simp -implicitDefEqProofs only[go_sem];exact Fini.ret rfl
 |true =>
 simp -implicitDefEqProofs only[go_sem];refine CO.intro i84 ?_;simp -implicitDefEqProofs only[go_sem];refine CO.intro i83 ?_;unfold emU
 cases h3:(((st:Nat):Int)==0) with
 |false =>
  have fh30:=ne_of h3;simp -implicitDefEqProofs only[go_sem,h3,fh30];exact Fini.ret rfl
 |true =>
 have fh30:=ne_of h3
 cases h4:(((en:Nat):Int)==0) with
 |false =>
  have fh40:=ne_of h4;simp -implicitDefEqProofs only[go_sem,h3,fh30,h4,fh40];exact Fini.ret rfl
 |true =>
 have fh40:=ne_of h4;unfold clkB
 cases h5:(decide (((st:Nat):Int)≤1099511627776)) with
 |false =>
  have fh50:=gt_of h5;simp -implicitDefEqProofs only[go_sem,h3,fh30,h4,fh40,h5,fh50];exact Fini.ret rfl
 |true =>
 have fh50:=gt_of h5
 cases h6:(decide (((en:Nat):Int)≤1099511627776)) with
 |false =>
  have fh60:=gt_of h6;simp -implicitDefEqProofs only[go_sem,h3,fh30,h4,fh40,h5,fh50,h6,fh60];exact Fini.ret rfl
 |true =>
 have fh60:=gt_of h6;simp -implicitDefEqProofs only[go_sem,h3,fh30,h4,fh40,h5,fh50,h6,fh60];refine CO.intro i90 ?_
 cases h7:(sta==0) with
 |false =>
  have fh70:=ne_of h7;simp -implicitDefEqProofs only[go_sem,h7,fh70];exact Fini.ret rfl
 |true =>
 have fh70:=ne_of h7
 cases h8:(decide (0≤sta)) with
 |false =>
  have fh80:=lt_of h8;simp -implicitDefEqProofs only[go_sem,h7,fh70,h8,fh80];exact Fini.ret rfl
 |true =>
 have fh80:=lt_of h8
 cases h9:(decide (sta≤3)) with
 |false =>
  have fh90:=gt_of h9;simp -implicitDefEqProofs only[go_sem,h7,fh70,h8,fh80,h9,fh90];exact Fini.ret rfl
 |true =>
 have fh90:=gt_of h9;simp -implicitDefEqProofs only[go_sem,h7,fh70,h8,fh80,h9,fh90];refine CO.intro i77 ?_;have hl:=z4A mt.length
 cases hm0:(emI mt.length) with
 |false =>
  rw[hm0]at hl;simp -implicitDefEqProofs only[go_sem,hl];exact Fini.ret rfl
 |true =>
 rw[hm0]at hl;simp -implicitDefEqProofs only[go_sem,hl];refine CO.intro i83 ?_;simp -implicitDefEqProofs only[go_sem];refine CO.intro b1 ?_
 cases h10:(listB mt) with
 |false =>
  simp -implicitDefEqProofs only[go_sem];exact Fini.ret rfl
 |true =>
 simp -implicitDefEqProofs only[go_sem];refine CO.intro i66 ?_;simp -implicitDefEqProofs only[go_sem];refine CO.intro b2 ?_
 cases h11:(noBd (any,lo,hi)) with
 |false =>
  simp -implicitDefEqProofs only[go_sem];exact Fini.ret rfl
 |true =>
 simp -implicitDefEqProofs only[go_sem];refine CO.intro b3 ?_
 cases h12:(mayB any lo hi) with
 |false =>
  simp -implicitDefEqProofs only[go_sem];exact Fini.ret rfl
 |true =>
 simp -implicitDefEqProofs only[go_sem];refine CO.intro i82 ?_;simp -implicitDefEqProofs only[go_sem];refine CO.intro i82 ?_;simp -implicitDefEqProofs only[go_sem];refine CO.intro b5 ?_
 cases h13:(noRl ⟨src,tgt,ra,rl,rh,eq⟩) with
 |false =>
  simp -implicitDefEqProofs only[go_sem];exact Fini.ret rfl
 |true =>
 simp -implicitDefEqProofs only[go_sem];refine CO.intro i76 ?_;unfold emI zF
 cases h14:(((ls.length:Nat):Int)==0) with
 |false =>
  simp -implicitDefEqProofs only[go_sem,h14];exact Fini.ret rfl
 |true =>
 simp -implicitDefEqProofs only[go_sem,h14];refine CO.intro b7 ?_;simp -implicitDefEqProofs only[go_sem];exact Fini.ret rfl
end
section
variable (σ:St)
set_option maxHeartbeats 8000000 in
theorem zag (r:ReM) (hr:ReSm r) (hd:dOf r.op=S116):Ans Tryz.prog 76 [reV r] σ (Bo (docB r S116)) σ:=by
 obtain⟨tok,op,id,txt,st,en,sta,mt,any,lo,hi,⟨src,tgt,ra,rl,rh,eq⟩,ls,val⟩:=r;obtain⟨hm,hru,hls⟩:=hr;simp only at hm hru hls hd;have k1:=z0l σ op;rw[hd]at k1;have ii:=fun c h=>z2n σ S116 c h
 have i73:=ii 73 (by decide)
 have i84:=ii 84 (by decide)
 have i83:=ii 83 (by decide)
 have i90:=ii 90 (by decide)
 have i77:=ii 77 (by decide)
 have i66:=ii 66 (by decide)
 have i82:=ii 82 (by decide)
 have i76:=ii 76 (by decide)
 simp only[zbP]at i73 i84 i83 i90 i77 i66 i82 i76;have b0:=z2m σ txt;have b1:=z1n σ mt hm;have b2:=z1s σ (any,lo,hi);have b3:=z1Z σ any lo hi;have b4:=z1L σ ⟨src,tgt,ra,rl,rh,eq⟩ hru;have b5:=z1E σ ⟨src,tgt,ra,rl,rh,eq⟩;have b6:=z2b σ ls hls;have b7:=z1i σ val;unfold bandV at b2;unfold ruV at b4 b5;unfold docB;simp only[zbP,Bool.true_or,Bool.false_or,Bool.not_true,Bool.not_false,Bool.true_and,if_true,Bool.false_eq_true,if_false];refine Ans.of_run t76 ?_;unfold reV reC;simp -implicitDefEqProofs only[c76,r76,go_sem];refine CO.intro k1 ?_;simp -implicitDefEqProofs only[go_sem];refine CO.intro i73 ?_
 cases h0:(id==0) with
 |false =>
  have fh00:=ne_of h0;simp -implicitDefEqProofs only[go_sem,h0,fh00];exact Fini.ret rfl
 |true =>
 have fh00:=ne_of h0
 cases h1:(decide (0≤id)) with
 |false =>
  have fh10:=lt_of h1;simp -implicitDefEqProofs only[go_sem,h0,fh00,h1,fh10];exact Fini.ret rfl
 |true =>
 have fh10:=lt_of h1
 cases h2:(decide (id≤2147483647)) with
 |false =>
  have fh20:=gt_of h2;simp -implicitDefEqProofs only[go_sem,h0,fh00,h1,fh10,h2,fh20];exact Fini.ret rfl
 |true =>
 have fh20:=gt_of h2;simp -implicitDefEqProofs only[go_sem,h0,fh00,h1,fh10,h2,fh20];refine CO.intro i84 ?_;simp -implicitDefEqProofs only[go_sem];refine CO.intro i84 ?_;unfold emS
 cases h3:(txt.toList==(⟨#[]⟩:ByteArray).toList) with
 |false =>
  simp -implicitDefEqProofs only[go_sem,h3];exact Fini.ret rfl
 |true =>
 simp -implicitDefEqProofs only[go_sem,h3];refine CO.intro i83 ?_;unfold clkB
 cases h4:(decide (((st:Nat):Int)≤1099511627776)) with
 |false =>
  have fh40:=gt_of h4;simp -implicitDefEqProofs only[go_sem,h4,fh40];exact Fini.ret rfl
 |true =>
 have fh40:=gt_of h4
 cases h5:(decide (((en:Nat):Int)≤1099511627776)) with
 |false =>
  have fh50:=gt_of h5;simp -implicitDefEqProofs only[go_sem,h4,fh40,h5,fh50];exact Fini.ret rfl
 |true =>
 have fh50:=gt_of h5;simp -implicitDefEqProofs only[go_sem,h4,fh40,h5,fh50];refine CO.intro i90 ?_
 cases h6:(sta==0) with
 |false =>
  have fh60:=ne_of h6;simp -implicitDefEqProofs only[go_sem,h6,fh60];exact Fini.ret rfl
 |true =>
 have fh60:=ne_of h6
 cases h7:(decide (0≤sta)) with
 |false =>
  have fh70:=lt_of h7;simp -implicitDefEqProofs only[go_sem,h6,fh60,h7,fh70];exact Fini.ret rfl
 |true =>
 have fh70:=lt_of h7
 cases h8:(decide (sta≤3)) with
 |false =>
  have fh80:=gt_of h8;simp -implicitDefEqProofs only[go_sem,h6,fh60,h7,fh70,h8,fh80];exact Fini.ret rfl
 |true =>
 have fh80:=gt_of h8;simp -implicitDefEqProofs only[go_sem,h6,fh60,h7,fh70,h8,fh80];refine CO.intro i77 ?_;simp -implicitDefEqProofs only[go_sem];refine CO.intro i83 ?_;have hl:(((mt.length:Nat):Int)==0)= !(!emI mt.length):=by rw[Bool.not_not];rfl
 cases hm0:(!emI mt.length) with
 |false =>
  rw[hm0]at hl;simp -implicitDefEqProofs only[go_sem,hl];exact Fini.ret rfl
 |true =>
 rw[hm0]at hl;simp -implicitDefEqProofs only[go_sem,hl];refine CO.intro b1 ?_
 cases h9:(listB mt) with
 |false =>
  simp -implicitDefEqProofs only[go_sem];exact Fini.ret rfl
 |true =>
 simp -implicitDefEqProofs only[go_sem];refine CO.intro i66 ?_;simp -implicitDefEqProofs only[go_sem];refine CO.intro b3 ?_
 cases h10:(mayB any lo hi) with
 |false =>
  simp -implicitDefEqProofs only[go_sem];exact Fini.ret rfl
 |true =>
 simp -implicitDefEqProofs only[go_sem];refine CO.intro i82 ?_;simp -implicitDefEqProofs only[go_sem];refine CO.intro i82 ?_;simp -implicitDefEqProofs only[go_sem];refine CO.intro b5 ?_
 cases h11:(noRl ⟨src,tgt,ra,rl,rh,eq⟩) with
 |false =>
  simp -implicitDefEqProofs only[go_sem];exact Fini.ret rfl
 |true =>
 simp -implicitDefEqProofs only[go_sem];refine CO.intro i76 ?_;unfold emI zF
 cases h12:(((ls.length:Nat):Int)==0) with
 |false =>
  simp -implicitDefEqProofs only[go_sem,h12];exact Fini.ret rfl
 |true =>
 simp -implicitDefEqProofs only[go_sem,h12];refine CO.intro b7 ?_;simp -implicitDefEqProofs only[go_sem];exact Fini.ret rfl
set_option maxHeartbeats 8000000 in
theorem zah (r:ReM) (hr:ReSm r) (hd:dOf r.op=S117):Ans Tryz.prog 76 [reV r] σ (Bo (docB r S117)) σ:=by
 obtain⟨tok,op,id,txt,st,en,sta,mt,any,lo,hi,⟨src,tgt,ra,rl,rh,eq⟩,ls,val⟩:=r;obtain⟨hm,hru,hls⟩:=hr;simp only at hm hru hls hd;have k1:=z0l σ op;rw[hd]at k1;have ii:=fun c h=>z2n σ S117 c h
 have i73:=ii 73 (by decide)
 have i84:=ii 84 (by decide)
 have i83:=ii 83 (by decide)
 have i90:=ii 90 (by decide)
 have i77:=ii 77 (by decide)
 have i66:=ii 66 (by decide)
 have i82:=ii 82 (by decide)
 have i76:=ii 76 (by decide)
 simp only[zbQ]at i73 i84 i83 i90 i77 i66 i82 i76;have b0:=z2m σ txt;have b1:=z1n σ mt hm;have b2:=z1s σ (any,lo,hi);have b3:=z1Z σ any lo hi;have b4:=z1L σ ⟨src,tgt,ra,rl,rh,eq⟩ hru;have b5:=z1E σ ⟨src,tgt,ra,rl,rh,eq⟩;have b6:=z2b σ ls hls;have b7:=z1i σ val;unfold bandV at b2;unfold ruV at b4 b5;unfold docB;simp only[zbQ,Bool.true_or,Bool.false_or,Bool.not_true,Bool.not_false,Bool.true_and,if_true,Bool.false_eq_true,if_false];refine Ans.of_run t76 ?_;unfold reV reC;simp -implicitDefEqProofs only[c76,r76,go_sem];refine CO.intro k1 ?_;simp -implicitDefEqProofs only[go_sem];refine CO.intro i73 ?_
 cases h0:(decide (0≤id)) with
 |false =>
  have fh00:=lt_of h0;simp -implicitDefEqProofs only[go_sem,h0,fh00];exact Fini.ret rfl
 |true =>
 have fh00:=lt_of h0
 cases h1:(decide (id≤2147483647)) with
 |false =>
  have fh10:=gt_of h1;simp -implicitDefEqProofs only[go_sem,h0,fh00,h1,fh10];exact Fini.ret rfl
 |true =>
 have fh10:=gt_of h1;simp -implicitDefEqProofs only[go_sem,h0,fh00,h1,fh10];refine CO.intro i84 ?_;simp -implicitDefEqProofs only[go_sem];refine CO.intro i84 ?_;unfold emS
 cases h2:(txt.toList==(⟨#[]⟩:ByteArray).toList) with
 |false =>
  simp -implicitDefEqProofs only[go_sem,h2];exact Fini.ret rfl
 |true =>
 simp -implicitDefEqProofs only[go_sem,h2];refine CO.intro i83 ?_;unfold clkB
 cases h3:(decide (((st:Nat):Int)≤1099511627776)) with
 |false =>
  have fh30:=gt_of h3;simp -implicitDefEqProofs only[go_sem,h3,fh30];exact Fini.ret rfl
 |true =>
 have fh30:=gt_of h3
 cases h4:(decide (((en:Nat):Int)≤1099511627776)) with
 |false =>
  have fh40:=gt_of h4;simp -implicitDefEqProofs only[go_sem,h3,fh30,h4,fh40];exact Fini.ret rfl
 |true =>
 have fh40:=gt_of h4;simp -implicitDefEqProofs only[go_sem,h3,fh30,h4,fh40];refine CO.intro i90 ?_
 cases h5:(sta==0) with
 |false =>
  have fh50:=ne_of h5;simp -implicitDefEqProofs only[go_sem,h5,fh50];exact Fini.ret rfl
 |true =>
 have fh50:=ne_of h5
 cases h6:(decide (0≤sta)) with
 |false =>
  have fh60:=lt_of h6;simp -implicitDefEqProofs only[go_sem,h5,fh50,h6,fh60];exact Fini.ret rfl
 |true =>
 have fh60:=lt_of h6
 cases h7:(decide (sta≤3)) with
 |false =>
  have fh70:=gt_of h7;simp -implicitDefEqProofs only[go_sem,h5,fh50,h6,fh60,h7,fh70];exact Fini.ret rfl
 |true =>
 have fh70:=gt_of h7;simp -implicitDefEqProofs only[go_sem,h5,fh50,h6,fh60,h7,fh70];refine CO.intro i77 ?_;simp -implicitDefEqProofs only[go_sem];refine CO.intro i83 ?_;have hl:(((mt.length:Nat):Int)==0)= !(!emI mt.length):=by rw[Bool.not_not];rfl
 cases hm0:(!emI mt.length) with
 |false =>
  rw[hm0]at hl;simp -implicitDefEqProofs only[go_sem,hl];exact Fini.ret rfl
 |true =>
 rw[hm0]at hl;simp -implicitDefEqProofs only[go_sem,hl];refine CO.intro b1 ?_
 cases h8:(listB mt) with
 |false =>
  simp -implicitDefEqProofs only[go_sem];exact Fini.ret rfl
 |true =>
 simp -implicitDefEqProofs only[go_sem];refine CO.intro i66 ?_;simp -implicitDefEqProofs only[go_sem];refine CO.intro b3 ?_
 cases h9:(mayB any lo hi) with
 |false =>
  simp -implicitDefEqProofs only[go_sem];exact Fini.ret rfl
 |true =>
 simp -implicitDefEqProofs only[go_sem];refine CO.intro i82 ?_;simp -implicitDefEqProofs only[go_sem];refine CO.intro i82 ?_;simp -implicitDefEqProofs only[go_sem];refine CO.intro b5 ?_
 cases h10:(noRl ⟨src,tgt,ra,rl,rh,eq⟩) with
 |false =>
  simp -implicitDefEqProofs only[go_sem];exact Fini.ret rfl
 |true =>
 simp -implicitDefEqProofs only[go_sem];refine CO.intro i76 ?_;unfold emI zF
 cases h11:(((ls.length:Nat):Int)==0) with
 |false =>
  simp -implicitDefEqProofs only[go_sem,h11];exact Fini.ret rfl
 |true =>
 simp -implicitDefEqProofs only[go_sem,h11];refine CO.intro b7 ?_;simp -implicitDefEqProofs only[go_sem];exact Fini.ret rfl
end
section
variable (σ:St)
set_option maxHeartbeats 8000000 in
theorem zdd (r:ReM) (hr:ReSm r) (hd:dOf r.op=S8):Ans Tryz.prog 76 [reV r] σ (Bo (docB r S8)) σ:=by
 obtain⟨tok,op,id,txt,st,en,sta,mt,any,lo,hi,⟨src,tgt,ra,rl,rh,eq⟩,ls,val⟩:=r;obtain⟨hm,hru,hls⟩:=hr;simp only at hm hru hls hd;have k1:=z0l σ op;rw[hd]at k1;have ii:=fun c h=>z2n σ S8 c h
 have i73:=ii 73 (by decide)
 have i84:=ii 84 (by decide)
 have i83:=ii 83 (by decide)
 have i90:=ii 90 (by decide)
 have i77:=ii 77 (by decide)
 have i66:=ii 66 (by decide)
 have i82:=ii 82 (by decide)
 have i76:=ii 76 (by decide)
 simp only[hc_8]at i73 i84 i83 i90 i77 i66 i82 i76;have b0:=z2m σ txt;have b1:=z1n σ mt hm;have b2:=z1s σ (any,lo,hi);have b3:=z1Z σ any lo hi;have b4:=z1L σ ⟨src,tgt,ra,rl,rh,eq⟩ hru;have b5:=z1E σ ⟨src,tgt,ra,rl,rh,eq⟩;have b6:=z2b σ ls hls;have b7:=z1i σ val;unfold bandV at b2;unfold ruV at b4 b5;unfold docB;simp only[hc_8,Bool.true_or,Bool.false_or,Bool.not_true,Bool.not_false,Bool.true_and,if_true,Bool.false_eq_true,if_false];refine Ans.of_run t76 ?_;unfold reV reC;simp -implicitDefEqProofs only[c76,r76,go_sem];refine CO.intro k1 ?_;simp -implicitDefEqProofs only[go_sem];refine CO.intro i73 ?_
 cases h0:(id==0) with
 |false =>
  have fh00:=ne_of h0;simp -implicitDefEqProofs only[go_sem,h0,fh00];exact Fini.ret rfl
 |true =>
 have fh00:=ne_of h0
 cases h1:(decide (0≤id)) with
 |false =>
  have fh10:=lt_of h1;simp -implicitDefEqProofs only[go_sem,h0,fh00,h1,fh10];exact Fini.ret rfl
 |true =>
 have fh10:=lt_of h1
 cases h2:(decide (id≤2147483647)) with
 |false =>
  have fh20:=gt_of h2;simp -implicitDefEqProofs only[go_sem,h0,fh00,h1,fh10,h2,fh20];exact Fini.ret rfl
 |true =>
 have fh20:=gt_of h2;simp -implicitDefEqProofs only[go_sem,h0,fh00,h1,fh10,h2,fh20];refine CO.intro i84 ?_;simp -implicitDefEqProofs only[go_sem];refine CO.intro i84 ?_;unfold emS
 cases h3:(txt.toList==(⟨#[]⟩:ByteArray).toList) with
 |false =>
  simp -implicitDefEqProofs only[go_sem,h3];exact Fini.ret rfl
 |true =>
 simp -implicitDefEqProofs only[go_sem,h3];refine CO.intro i83 ?_;unfold emU
 cases h4:(((st:Nat):Int)==0) with
 |false =>
  have fh40:=ne_of h4;simp -implicitDefEqProofs only[go_sem,h4,fh40];exact Fini.ret rfl
 |true =>
 have fh40:=ne_of h4
 cases h5:(((en:Nat):Int)==0) with
 |false =>
  have fh50:=ne_of h5;simp -implicitDefEqProofs only[go_sem,h4,fh40,h5,fh50];exact Fini.ret rfl
 |true =>
 have fh50:=ne_of h5;unfold clkB
 cases h6:(decide (((st:Nat):Int)≤1099511627776)) with
 |false =>
  have fh60:=gt_of h6;simp -implicitDefEqProofs only[go_sem,h4,fh40,h5,fh50,h6,fh60];exact Fini.ret rfl
 |true =>
 have fh60:=gt_of h6
 cases h7:(decide (((en:Nat):Int)≤1099511627776)) with
 |false =>
  have fh70:=gt_of h7;simp -implicitDefEqProofs only[go_sem,h4,fh40,h5,fh50,h6,fh60,h7,fh70];exact Fini.ret rfl
 |true =>
 have fh70:=gt_of h7;simp -implicitDefEqProofs only[go_sem,h4,fh40,h5,fh50,h6,fh60,h7,fh70];refine CO.intro i90 ?_
 cases h8:(decide (0≤sta)) with
 |false =>
  have fh80:=lt_of h8;simp -implicitDefEqProofs only[go_sem,h8,fh80];exact Fini.ret rfl
 |true =>
 have fh80:=lt_of h8
 cases h9:(decide (sta≤3)) with
 |false =>
  have fh90:=gt_of h9;simp -implicitDefEqProofs only[go_sem,h8,fh80,h9,fh90];exact Fini.ret rfl
 |true =>
 have fh90:=gt_of h9;simp -implicitDefEqProofs only[go_sem,h8,fh80,h9,fh90];refine CO.intro i77 ?_;have hl:=z4A mt.length
 cases hm0:(emI mt.length) with
 |false =>
  rw[hm0]at hl;simp -implicitDefEqProofs only[go_sem,hl];exact Fini.ret rfl
 |true =>
 rw[hm0]at hl;simp -implicitDefEqProofs only[go_sem,hl];refine CO.intro i83 ?_;simp -implicitDefEqProofs only[go_sem];refine CO.intro b1 ?_
 cases h10:(listB mt) with
 |false =>
  simp -implicitDefEqProofs only[go_sem];exact Fini.ret rfl
 |true =>
 simp -implicitDefEqProofs only[go_sem];refine CO.intro i66 ?_;simp -implicitDefEqProofs only[go_sem];refine CO.intro b2 ?_
 cases h11:(noBd (any,lo,hi)) with
 |false =>
  simp -implicitDefEqProofs only[go_sem];exact Fini.ret rfl
 |true =>
 simp -implicitDefEqProofs only[go_sem];refine CO.intro b3 ?_
 cases h12:(mayB any lo hi) with
 |false =>
  simp -implicitDefEqProofs only[go_sem];exact Fini.ret rfl
 |true =>
 simp -implicitDefEqProofs only[go_sem];refine CO.intro i82 ?_;simp -implicitDefEqProofs only[go_sem];refine CO.intro i82 ?_;simp -implicitDefEqProofs only[go_sem];refine CO.intro b5 ?_
 cases h13:(noRl ⟨src,tgt,ra,rl,rh,eq⟩) with
 |false =>
  simp -implicitDefEqProofs only[go_sem];exact Fini.ret rfl
 |true =>
 simp -implicitDefEqProofs only[go_sem];refine CO.intro i76 ?_;unfold emI zF
 cases h14:(((ls.length:Nat):Int)==0) with
 |false =>
  simp -implicitDefEqProofs only[go_sem,h14];exact Fini.ret rfl
 |true =>
 simp -implicitDefEqProofs only[go_sem,h14];refine CO.intro b7 ?_;simp -implicitDefEqProofs only[go_sem];exact Fini.ret rfl
set_option maxHeartbeats 8000000 in
theorem zai (r:ReM) (hr:ReSm r) (hd:dOf r.op=S128):Ans Tryz.prog 76 [reV r] σ (Bo (docB r S128)) σ:=by
 obtain⟨tok,op,id,txt,st,en,sta,mt,any,lo,hi,⟨src,tgt,ra,rl,rh,eq⟩,ls,val⟩:=r;obtain⟨hm,hru,hls⟩:=hr;simp only at hm hru hls hd;have k1:=z0l σ op;rw[hd]at k1;have ii:=fun c h=>z2n σ S128 c h
 have i73:=ii 73 (by decide)
 have i84:=ii 84 (by decide)
 have i83:=ii 83 (by decide)
 have i90:=ii 90 (by decide)
 have i77:=ii 77 (by decide)
 have i66:=ii 66 (by decide)
 have i82:=ii 82 (by decide)
 have i76:=ii 76 (by decide)
 simp only[zbR]at i73 i84 i83 i90 i77 i66 i82 i76;have b0:=z2m σ txt;have b1:=z1n σ mt hm;have b2:=z1s σ (any,lo,hi);have b3:=z1Z σ any lo hi;have b4:=z1L σ ⟨src,tgt,ra,rl,rh,eq⟩ hru;have b5:=z1E σ ⟨src,tgt,ra,rl,rh,eq⟩;have b6:=z2b σ ls hls;have b7:=z1i σ val;unfold bandV at b2;unfold ruV at b4 b5;unfold docB;simp only[zbR,Bool.true_or,Bool.false_or,Bool.not_true,Bool.not_false,Bool.true_and,if_true,Bool.false_eq_true,if_false];refine Ans.of_run t76 ?_;unfold reV reC;simp -implicitDefEqProofs only[c76,r76,go_sem];refine CO.intro k1 ?_;simp -implicitDefEqProofs only[go_sem];refine CO.intro i73 ?_
 cases h0:(id==0) with
 |false =>
  have fh00:=ne_of h0;simp -implicitDefEqProofs only[go_sem,h0,fh00];exact Fini.ret rfl
 |true =>
 have fh00:=ne_of h0
 cases h1:(decide (0≤id)) with
 |false =>
  have fh10:=lt_of h1;simp -implicitDefEqProofs only[go_sem,h0,fh00,h1,fh10];exact Fini.ret rfl
 |true =>
 have fh10:=lt_of h1
 cases h2:(decide (id≤2147483647)) with
 |false =>
  have fh20:=gt_of h2;simp -implicitDefEqProofs only[go_sem,h0,fh00,h1,fh10,h2,fh20];exact Fini.ret rfl
 |true =>
 have fh20:=gt_of h2;simp -implicitDefEqProofs only[go_sem,h0,fh00,h1,fh10,h2,fh20];refine CO.intro i84 ?_;simp -implicitDefEqProofs only[go_sem];refine CO.intro i84 ?_;unfold emS
 cases h3:(txt.toList==(⟨#[]⟩:ByteArray).toList) with
 |false =>
  simp -implicitDefEqProofs only[go_sem,h3];exact Fini.ret rfl
 |true =>
 simp -implicitDefEqProofs only[go_sem,h3];refine CO.intro i83 ?_;unfold emU
 cases h4:(((st:Nat):Int)==0) with
 |false =>
  have fh40:=ne_of h4;simp -implicitDefEqProofs only[go_sem,h4,fh40];exact Fini.ret rfl
 |true =>
 have fh40:=ne_of h4
 cases h5:(((en:Nat):Int)==0) with
 |false =>
  have fh50:=ne_of h5;simp -implicitDefEqProofs only[go_sem,h4,fh40,h5,fh50];exact Fini.ret rfl
 |true =>
 have fh50:=ne_of h5;unfold clkB
 cases h6:(decide (((st:Nat):Int)≤1099511627776)) with
 |false =>
  have fh60:=gt_of h6;simp -implicitDefEqProofs only[go_sem,h4,fh40,h5,fh50,h6,fh60];exact Fini.ret rfl
 |true =>
 have fh60:=gt_of h6
 cases h7:(decide (((en:Nat):Int)≤1099511627776)) with
 |false =>
  have fh70:=gt_of h7;simp -implicitDefEqProofs only[go_sem,h4,fh40,h5,fh50,h6,fh60,h7,fh70];exact Fini.ret rfl
 |true =>
 have fh70:=gt_of h7;simp -implicitDefEqProofs only[go_sem,h4,fh40,h5,fh50,h6,fh60,h7,fh70];refine CO.intro i90 ?_
 cases h8:(sta==0) with
 |false =>
  have fh80:=ne_of h8;simp -implicitDefEqProofs only[go_sem,h8,fh80];exact Fini.ret rfl
 |true =>
 have fh80:=ne_of h8
 cases h9:(decide (0≤sta)) with
 |false =>
  have fh90:=lt_of h9;simp -implicitDefEqProofs only[go_sem,h8,fh80,h9,fh90];exact Fini.ret rfl
 |true =>
 have fh90:=lt_of h9
 cases h10:(decide (sta≤3)) with
 |false =>
  have fh100:=gt_of h10;simp -implicitDefEqProofs only[go_sem,h8,fh80,h9,fh90,h10,fh100];exact Fini.ret rfl
 |true =>
 have fh100:=gt_of h10;simp -implicitDefEqProofs only[go_sem,h8,fh80,h9,fh90,h10,fh100];refine CO.intro i77 ?_;have hl:=z4A mt.length
 cases hm0:(emI mt.length) with
 |false =>
  rw[hm0]at hl;simp -implicitDefEqProofs only[go_sem,hl];exact Fini.ret rfl
 |true =>
 rw[hm0]at hl;simp -implicitDefEqProofs only[go_sem,hl];refine CO.intro i83 ?_;simp -implicitDefEqProofs only[go_sem];refine CO.intro b1 ?_
 cases h11:(listB mt) with
 |false =>
  simp -implicitDefEqProofs only[go_sem];exact Fini.ret rfl
 |true =>
 simp -implicitDefEqProofs only[go_sem];refine CO.intro i66 ?_;simp -implicitDefEqProofs only[go_sem];refine CO.intro b2 ?_
 cases h12:(noBd (any,lo,hi)) with
 |false =>
  simp -implicitDefEqProofs only[go_sem];exact Fini.ret rfl
 |true =>
 simp -implicitDefEqProofs only[go_sem];refine CO.intro b3 ?_
 cases h13:(mayB any lo hi) with
 |false =>
  simp -implicitDefEqProofs only[go_sem];exact Fini.ret rfl
 |true =>
 simp -implicitDefEqProofs only[go_sem];refine CO.intro i82 ?_;simp -implicitDefEqProofs only[go_sem];refine CO.intro b4 ?_
 cases h14:(ruIs ⟨src,tgt,ra,rl,rh,eq⟩) with
 |false =>
  simp -implicitDefEqProofs only[go_sem];exact Fini.ret rfl
 |true =>
 simp -implicitDefEqProofs only[go_sem];refine CO.intro i82 ?_;simp -implicitDefEqProofs only[go_sem];refine CO.intro i76 ?_;unfold emI zF
 cases h15:(((ls.length:Nat):Int)==0) with
 |false =>
  simp -implicitDefEqProofs only[go_sem,h15];exact Fini.ret rfl
 |true =>
 simp -implicitDefEqProofs only[go_sem,h15];refine CO.intro b7 ?_;simp -implicitDefEqProofs only[go_sem];exact Fini.ret rfl
end
section
variable (σ:St)
set_option maxHeartbeats 8000000 in
theorem zaj (r:ReM) (hr:ReSm r) (hd:dOf r.op=S768):Ans Tryz.prog 76 [reV r] σ (Bo (docB r S768)) σ:=by
 obtain⟨tok,op,id,txt,st,en,sta,mt,any,lo,hi,⟨src,tgt,ra,rl,rh,eq⟩,ls,val⟩:=r;obtain⟨hm,hru,hls⟩:=hr;simp only at hm hru hls hd;have k1:=z0l σ op;rw[hd]at k1;have ii:=fun c h=>z2n σ S768 c h
 have i73:=ii 73 (by decide)
 have i84:=ii 84 (by decide)
 have i83:=ii 83 (by decide)
 have i90:=ii 90 (by decide)
 have i77:=ii 77 (by decide)
 have i66:=ii 66 (by decide)
 have i82:=ii 82 (by decide)
 have i76:=ii 76 (by decide)
 simp only[zbS]at i73 i84 i83 i90 i77 i66 i82 i76;have b0:=z2m σ txt;have b1:=z1n σ mt hm;have b2:=z1s σ (any,lo,hi);have b3:=z1Z σ any lo hi;have b4:=z1L σ ⟨src,tgt,ra,rl,rh,eq⟩ hru;have b5:=z1E σ ⟨src,tgt,ra,rl,rh,eq⟩;have b6:=z2b σ ls hls;have b7:=z1i σ val;unfold bandV at b2;unfold ruV at b4 b5;unfold docB;simp only[zbS,Bool.true_or,Bool.false_or,Bool.not_true,Bool.not_false,Bool.true_and,if_true,Bool.false_eq_true,if_false];refine Ans.of_run t76 ?_;unfold reV reC;simp -implicitDefEqProofs only[c76,r76,go_sem];refine CO.intro k1 ?_;simp -implicitDefEqProofs only[go_sem];refine CO.intro i73 ?_
 cases h0:(id==0) with
 |false =>
  have fh00:=ne_of h0;simp -implicitDefEqProofs only[go_sem,h0,fh00];exact Fini.ret rfl
 |true =>
 have fh00:=ne_of h0
 cases h1:(decide (0≤id)) with
 |false =>
  have fh10:=lt_of h1;simp -implicitDefEqProofs only[go_sem,h0,fh00,h1,fh10];exact Fini.ret rfl
 |true =>
 have fh10:=lt_of h1
 cases h2:(decide (id≤2147483647)) with
 |false =>
  have fh20:=gt_of h2;simp -implicitDefEqProofs only[go_sem,h0,fh00,h1,fh10,h2,fh20];exact Fini.ret rfl
 |true =>
 have fh20:=gt_of h2;simp -implicitDefEqProofs only[go_sem,h0,fh00,h1,fh10,h2,fh20];refine CO.intro i84 ?_;simp -implicitDefEqProofs only[go_sem];refine CO.intro i84 ?_;unfold emS
 cases h3:(txt.toList==(⟨#[]⟩:ByteArray).toList) with
 |false =>
  simp -implicitDefEqProofs only[go_sem,h3];exact Fini.ret rfl
 |true =>
 simp -implicitDefEqProofs only[go_sem,h3];refine CO.intro i83 ?_;unfold emU
 cases h4:(((st:Nat):Int)==0) with
 |false =>
  have fh40:=ne_of h4;simp -implicitDefEqProofs only[go_sem,h4,fh40];exact Fini.ret rfl
 |true =>
 have fh40:=ne_of h4
 cases h5:(((en:Nat):Int)==0) with
 |false =>
  have fh50:=ne_of h5;simp -implicitDefEqProofs only[go_sem,h4,fh40,h5,fh50];exact Fini.ret rfl
 |true =>
 have fh50:=ne_of h5;unfold clkB
 cases h6:(decide (((st:Nat):Int)≤1099511627776)) with
 |false =>
  have fh60:=gt_of h6;simp -implicitDefEqProofs only[go_sem,h4,fh40,h5,fh50,h6,fh60];exact Fini.ret rfl
 |true =>
 have fh60:=gt_of h6
 cases h7:(decide (((en:Nat):Int)≤1099511627776)) with
 |false =>
  have fh70:=gt_of h7;simp -implicitDefEqProofs only[go_sem,h4,fh40,h5,fh50,h6,fh60,h7,fh70];exact Fini.ret rfl
 |true =>
 have fh70:=gt_of h7;simp -implicitDefEqProofs only[go_sem,h4,fh40,h5,fh50,h6,fh60,h7,fh70];refine CO.intro i90 ?_
 cases h8:(sta==0) with
 |false =>
  have fh80:=ne_of h8;simp -implicitDefEqProofs only[go_sem,h8,fh80];exact Fini.ret rfl
 |true =>
 have fh80:=ne_of h8
 cases h9:(decide (0≤sta)) with
 |false =>
  have fh90:=lt_of h9;simp -implicitDefEqProofs only[go_sem,h8,fh80,h9,fh90];exact Fini.ret rfl
 |true =>
 have fh90:=lt_of h9
 cases h10:(decide (sta≤3)) with
 |false =>
  have fh100:=gt_of h10;simp -implicitDefEqProofs only[go_sem,h8,fh80,h9,fh90,h10,fh100];exact Fini.ret rfl
 |true =>
 have fh100:=gt_of h10;simp -implicitDefEqProofs only[go_sem,h8,fh80,h9,fh90,h10,fh100];refine CO.intro i77 ?_;have hl:=z4A mt.length
 cases hm0:(emI mt.length) with
 |false =>
  rw[hm0]at hl;simp -implicitDefEqProofs only[go_sem,hl];exact Fini.ret rfl
 |true =>
 rw[hm0]at hl;simp -implicitDefEqProofs only[go_sem,hl];refine CO.intro i83 ?_;simp -implicitDefEqProofs only[go_sem];refine CO.intro b1 ?_
 cases h11:(listB mt) with
 |false =>
  simp -implicitDefEqProofs only[go_sem];exact Fini.ret rfl
 |true =>
 simp -implicitDefEqProofs only[go_sem];refine CO.intro i66 ?_;simp -implicitDefEqProofs only[go_sem];refine CO.intro b2 ?_
 cases h12:(noBd (any,lo,hi)) with
 |false =>
  simp -implicitDefEqProofs only[go_sem];exact Fini.ret rfl
 |true =>
 simp -implicitDefEqProofs only[go_sem];refine CO.intro b3 ?_
 cases h13:(mayB any lo hi) with
 |false =>
  simp -implicitDefEqProofs only[go_sem];exact Fini.ret rfl
 |true =>
 simp -implicitDefEqProofs only[go_sem];refine CO.intro i82 ?_;simp -implicitDefEqProofs only[go_sem];refine CO.intro i82 ?_;simp -implicitDefEqProofs only[go_sem];refine CO.intro b5 ?_
 cases h14:(noRl ⟨src,tgt,ra,rl,rh,eq⟩) with
 |false =>
  simp -implicitDefEqProofs only[go_sem];exact Fini.ret rfl
 |true =>
 simp -implicitDefEqProofs only[go_sem];refine CO.intro i76 ?_;simp -implicitDefEqProofs only[go_sem];refine CO.intro b6 ?_;simp -implicitDefEqProofs only[go_sem];exact Fini.ret rfl
set_option maxHeartbeats 8000000 in
theorem zbT (r:ReM) (hr:ReSm r) (hd:dOf r.op=S16):Ans Tryz.prog 76 [reV r] σ (Bo (docB r S16)) σ:=by
 obtain⟨tok,op,id,txt,st,en,sta,mt,any,lo,hi,⟨src,tgt,ra,rl,rh,eq⟩,ls,val⟩:=r;obtain⟨hm,hru,hls⟩:=hr;simp only at hm hru hls hd;have k1:=z0l σ op;rw[hd]at k1;have ii:=fun c h=>z2n σ S16 c h
 have i73:=ii 73 (by decide)
 have i84:=ii 84 (by decide)
 have i83:=ii 83 (by decide)
 have i90:=ii 90 (by decide)
 have i77:=ii 77 (by decide)
 have i66:=ii 66 (by decide)
 have i82:=ii 82 (by decide)
 have i76:=ii 76 (by decide)
 simp only[hc_16]at i73 i84 i83 i90 i77 i66 i82 i76;have b0:=z2m σ txt;have b1:=z1n σ mt hm;have b2:=z1s σ (any,lo,hi);have b3:=z1Z σ any lo hi;have b4:=z1L σ ⟨src,tgt,ra,rl,rh,eq⟩ hru;have b5:=z1E σ ⟨src,tgt,ra,rl,rh,eq⟩;have b6:=z2b σ ls hls;have b7:=z1i σ val;unfold bandV at b2;unfold ruV at b4 b5;unfold docB;simp only[hc_16,Bool.true_or,Bool.false_or,Bool.not_true,Bool.not_false,Bool.true_and,if_true,Bool.false_eq_true,if_false];refine Ans.of_run t76 ?_;unfold reV reC;simp -implicitDefEqProofs only[c76,r76,go_sem];refine CO.intro k1 ?_;simp -implicitDefEqProofs only[go_sem];refine CO.intro i73 ?_
 cases h0:(id==0) with
 |false =>
  have fh00:=ne_of h0;simp -implicitDefEqProofs only[go_sem,h0,fh00];exact Fini.ret rfl
 |true =>
 have fh00:=ne_of h0
 cases h1:(decide (0≤id)) with
 |false =>
  have fh10:=lt_of h1;simp -implicitDefEqProofs only[go_sem,h0,fh00,h1,fh10];exact Fini.ret rfl
 |true =>
 have fh10:=lt_of h1
 cases h2:(decide (id≤2147483647)) with
 |false =>
  have fh20:=gt_of h2;simp -implicitDefEqProofs only[go_sem,h0,fh00,h1,fh10,h2,fh20];exact Fini.ret rfl
 |true =>
 have fh20:=gt_of h2;simp -implicitDefEqProofs only[go_sem,h0,fh00,h1,fh10,h2,fh20];refine CO.intro i84 ?_;simp -implicitDefEqProofs only[go_sem];refine CO.intro i84 ?_;unfold emS
 cases h3:(txt.toList==(⟨#[]⟩:ByteArray).toList) with
 |false =>
  simp -implicitDefEqProofs only[go_sem,h3];exact Fini.ret rfl
 |true =>
 simp -implicitDefEqProofs only[go_sem,h3];refine CO.intro i83 ?_;unfold emU
 cases h4:(((st:Nat):Int)==0) with
 |false =>
  have fh40:=ne_of h4;simp -implicitDefEqProofs only[go_sem,h4,fh40];exact Fini.ret rfl
 |true =>
 have fh40:=ne_of h4
 cases h5:(((en:Nat):Int)==0) with
 |false =>
  have fh50:=ne_of h5;simp -implicitDefEqProofs only[go_sem,h4,fh40,h5,fh50];exact Fini.ret rfl
 |true =>
 have fh50:=ne_of h5;unfold clkB
 cases h6:(decide (((st:Nat):Int)≤1099511627776)) with
 |false =>
  have fh60:=gt_of h6;simp -implicitDefEqProofs only[go_sem,h4,fh40,h5,fh50,h6,fh60];exact Fini.ret rfl
 |true =>
 have fh60:=gt_of h6
 cases h7:(decide (((en:Nat):Int)≤1099511627776)) with
 |false =>
  have fh70:=gt_of h7;simp -implicitDefEqProofs only[go_sem,h4,fh40,h5,fh50,h6,fh60,h7,fh70];exact Fini.ret rfl
 |true =>
 have fh70:=gt_of h7;simp -implicitDefEqProofs only[go_sem,h4,fh40,h5,fh50,h6,fh60,h7,fh70];refine CO.intro i90 ?_
 cases h8:(sta==0) with
 |false =>
  have fh80:=ne_of h8;simp -implicitDefEqProofs only[go_sem,h8,fh80];exact Fini.ret rfl
 |true =>
 have fh80:=ne_of h8
 cases h9:(decide (0≤sta)) with
 |false =>
  have fh90:=lt_of h9;simp -implicitDefEqProofs only[go_sem,h8,fh80,h9,fh90];exact Fini.ret rfl
 |true =>
 have fh90:=lt_of h9
 cases h10:(decide (sta≤3)) with
 |false =>
  have fh100:=gt_of h10;simp -implicitDefEqProofs only[go_sem,h8,fh80,h9,fh90,h10,fh100];exact Fini.ret rfl
 |true =>
 have fh100:=gt_of h10;simp -implicitDefEqProofs only[go_sem,h8,fh80,h9,fh90,h10,fh100];refine CO.intro i77 ?_;simp -implicitDefEqProofs only[go_sem];refine CO.intro i83 ?_;simp -implicitDefEqProofs only[go_sem];refine CO.intro b1 ?_
 cases h11:(listB mt) with
 |false =>
  simp -implicitDefEqProofs only[go_sem];exact Fini.ret rfl
 |true =>
 simp -implicitDefEqProofs only[go_sem];refine CO.intro i66 ?_;simp -implicitDefEqProofs only[go_sem];refine CO.intro b2 ?_
 cases h12:(noBd (any,lo,hi)) with
 |false =>
  simp -implicitDefEqProofs only[go_sem];exact Fini.ret rfl
 |true =>
 simp -implicitDefEqProofs only[go_sem];refine CO.intro b3 ?_
 cases h13:(mayB any lo hi) with
 |false =>
  simp -implicitDefEqProofs only[go_sem];exact Fini.ret rfl
 |true =>
 simp -implicitDefEqProofs only[go_sem];refine CO.intro i82 ?_;simp -implicitDefEqProofs only[go_sem];refine CO.intro i82 ?_;simp -implicitDefEqProofs only[go_sem];refine CO.intro b5 ?_
 cases h14:(noRl ⟨src,tgt,ra,rl,rh,eq⟩) with
 |false =>
  simp -implicitDefEqProofs only[go_sem];exact Fini.ret rfl
 |true =>
 simp -implicitDefEqProofs only[go_sem];refine CO.intro i76 ?_;unfold emI zF
 cases h15:(((ls.length:Nat):Int)==0) with
 |false =>
  simp -implicitDefEqProofs only[go_sem,h15];exact Fini.ret rfl
 |true =>
 simp -implicitDefEqProofs only[go_sem,h15];refine CO.intro b7 ?_;simp -implicitDefEqProofs only[go_sem];exact Fini.ret rfl
end
theorem z2o (x:Bnd) (h:noBd x=true):mayB x.1 x.2.1 x.2.2=true:=by
 obtain⟨a,lo,hi⟩:=x;unfold noBd zF at h;simp only[Bool.and_eq_true,Bool.not_eq_true',beq_iff_eq]at h;obtain⟨rfl,h1,h2⟩:=h;have e1:=z3v (Int.ofNat.inj h1);have e2:=z3v (Int.ofNat.inj h2);subst e1 e2
 decide +kernel
theorem z4T (r:ReM):(zeroB r 0&&z0y r 0)=docB r S0:=by
 have hb:=z2o (r.any,r.lo,r.hi);unfold zeroB z0y docB idR staR;simp only[hs_0,hc_0,Bool.true_or,Bool.false_or,Bool.not_true,Bool.not_false,Bool.true_and,if_true,Bool.false_eq_true,if_false,Bool.and_assoc];rw[Bool.eq_iff_iff];simp only[Bool.and_eq_true];simp only at hb;constructor
 · intro h;simp only[h,hb,and_self,true_and,and_true]
 · intro h;simp only[h,hb,and_self,true_and,and_true]
theorem z48 (r:ReM):(zeroB r 1&&z0y r 1)=docB r S1:=by
 have hb:=z2o (r.any,r.lo,r.hi);unfold zeroB z0y docB idR staR;simp only[hs_1,hc_1,Bool.true_or,Bool.false_or,Bool.not_true,Bool.not_false,Bool.true_and,if_true,Bool.false_eq_true,if_false,Bool.and_assoc];rw[Bool.eq_iff_iff];simp only[Bool.and_eq_true];simp only at hb;constructor
 · intro h;simp only[h,hb,and_self,true_and,and_true]
 · intro h;simp only[h,hb,and_self,true_and,and_true]
theorem z9l (r:ReM):(zeroB r 3&&z0y r 3)=docB r S3:=by
 have hb:=z2o (r.any,r.lo,r.hi);unfold zeroB z0y docB idR staR;simp only[hs_3,hc_3,Bool.true_or,Bool.false_or,Bool.not_true,Bool.not_false,Bool.true_and,if_true,Bool.false_eq_true,if_false,Bool.and_assoc];rw[Bool.eq_iff_iff];simp only[Bool.and_eq_true];simp only at hb;constructor
 · intro h;simp only[h,hb,and_self,true_and,and_true]
 · intro h;simp only[h,hb,and_self,true_and,and_true]
theorem zak (r:ReM):(zeroB r 116&&z0y r 116)=docB r S116:=by
 have hb:=z2o (r.any,r.lo,r.hi);unfold zeroB z0y docB idR staR;simp only[zbz,zbP,Bool.true_or,Bool.false_or,Bool.not_true,Bool.not_false,Bool.true_and,if_true,Bool.false_eq_true,if_false,Bool.and_assoc];rw[Bool.eq_iff_iff];simp only[Bool.and_eq_true];simp only at hb;constructor
 · intro h;simp only[h,hb,and_self,true_and,and_true]
 · intro h;simp only[h,hb,and_self,true_and,and_true]
theorem zal (r:ReM):(zeroB r 117&&z0y r 117)=docB r S117:=by
 have hb:=z2o (r.any,r.lo,r.hi);unfold zeroB z0y docB idR staR;simp only[zbA,zbQ,Bool.true_or,Bool.false_or,Bool.not_true,Bool.not_false,Bool.true_and,if_true,Bool.false_eq_true,if_false,Bool.and_assoc];rw[Bool.eq_iff_iff];simp only[Bool.and_eq_true];simp only at hb;constructor
 · intro h;simp only[h,hb,and_self,true_and,and_true]
 · intro h;simp only[h,hb,and_self,true_and,and_true]
theorem zde (r:ReM):(zeroB r 8&&z0y r 8)=docB r S8:=by
 have hb:=z2o (r.any,r.lo,r.hi);unfold zeroB z0y docB idR staR;simp only[hs_8,hc_8,Bool.true_or,Bool.false_or,Bool.not_true,Bool.not_false,Bool.true_and,if_true,Bool.false_eq_true,if_false,Bool.and_assoc];rw[Bool.eq_iff_iff];simp only[Bool.and_eq_true];simp only at hb;constructor
 · intro h;simp only[h,hb,and_self,true_and,and_true]
 · intro h;simp only[h,hb,and_self,true_and,and_true]
theorem zam (r:ReM):(zeroB r 128&&z0y r 128)=docB r S128:=by
 have hb:=z2o (r.any,r.lo,r.hi);unfold zeroB z0y docB idR staR;simp only[zbB,zbR,Bool.true_or,Bool.false_or,Bool.not_true,Bool.not_false,Bool.true_and,if_true,Bool.false_eq_true,if_false,Bool.and_assoc];rw[Bool.eq_iff_iff];simp only[Bool.and_eq_true];simp only at hb;constructor
 · intro h;simp only[h,hb,and_self,true_and,and_true]
 · intro h;simp only[h,hb,and_self,true_and,and_true]
theorem zan (r:ReM):(zeroB r 768&&z0y r 768)=docB r S768:=by
 have hb:=z2o (r.any,r.lo,r.hi);unfold zeroB z0y docB idR staR;simp only[zbC,zbS,Bool.true_or,Bool.false_or,Bool.not_true,Bool.not_false,Bool.true_and,if_true,Bool.false_eq_true,if_false,Bool.and_assoc];rw[Bool.eq_iff_iff];simp only[Bool.and_eq_true];simp only at hb;constructor
 · intro h;simp only[h,hb,and_self,true_and,and_true]
 · intro h;simp only[h,hb,and_self,true_and,and_true]
theorem zbU (r:ReM):(zeroB r 16&&z0y r 16)=docB r S16:=by
 have hb:=z2o (r.any,r.lo,r.hi);unfold zeroB z0y docB idR staR;simp only[hs_16,hc_16,Bool.true_or,Bool.false_or,Bool.not_true,Bool.not_false,Bool.true_and,if_true,Bool.false_eq_true,if_false,Bool.and_assoc];rw[Bool.eq_iff_iff];simp only[Bool.and_eq_true];simp only at hb;constructor
 · intro h;simp only[h,hb,and_self,true_and,and_true]
 · intro h;simp only[h,hb,and_self,true_and,and_true]
section
variable (σ:St)
theorem z7L (r:ReM) (hd:dOf r.op=⟨#[]⟩):Ans Tryz.prog 76 [reV r] σ (Bo false) σ:=by
 have k1:=z0l σ r.op;rw[hd]at k1;have hn:((⟨#[]⟩:ByteArray).toList==(⟨#[]⟩:ByteArray).toList)=true:=by decide +kernel
 refine Ans.of_run t76 ?_;unfold reV reC;simp -implicitDefEqProofs only[c76,r76,go_sem];refine CO.intro k1 ?_;simp -implicitDefEqProofs only[go_sem,hn];exact Fini.ret rfl
theorem z1F (r:ReM) (hr:ReSm r):Ans Tryz.prog 76 [reV r] σ (Bo (mayR r)) σ:=by
 unfold mayR;rcases ops17 r.op with h|h|h|h|h|h|h|h|h|h|h|h|h|h|h|h|h|h
 · have e:fOf r.op=(0,true):=by rw[h];rfl
   rw[e];simp only[Bool.true_and];rw[z4T];exact z4S σ r hr (by rw[h];rfl)
 · have e:fOf r.op=(1,true):=by rw[h];rfl
   rw[e];simp only[Bool.true_and];rw[z48];exact z47 σ r hr (by rw[h];rfl)
 · have e:fOf r.op=(3,true):=by rw[h];rfl
   rw[e];simp only[Bool.true_and];rw[z9l];exact z9k σ r hr (by rw[h];rfl)
 · have e:fOf r.op=(3,true):=by rw[h];rfl
   rw[e];simp only[Bool.true_and];rw[z9l];exact z9k σ r hr (by rw[h];rfl)
 · have e:fOf r.op=(116,true):=by rw[h];rfl
   rw[e];simp only[Bool.true_and];rw[zak];exact zag σ r hr (by rw[h];rfl)
 · have e:fOf r.op=(117,true):=by rw[h];rfl
   rw[e];simp only[Bool.true_and];rw[zal];exact zah σ r hr (by rw[h];rfl)
 · have e:fOf r.op=(1,true):=by rw[h];rfl
   rw[e];simp only[Bool.true_and];rw[z48];exact z47 σ r hr (by rw[h];rfl)
 · have e:fOf r.op=(8,true):=by rw[h];rfl
   rw[e];simp only[Bool.true_and];rw[zde];exact zdd σ r hr (by rw[h];rfl)
 · have e:fOf r.op=(128,true):=by rw[h];rfl
   rw[e];simp only[Bool.true_and];rw[zam];exact zai σ r hr (by rw[h];rfl)
 · have e:fOf r.op=(1,true):=by rw[h];rfl
   rw[e];simp only[Bool.true_and];rw[z48];exact z47 σ r hr (by rw[h];rfl)
 · have e:fOf r.op=(768,true):=by rw[h];rfl
   rw[e];simp only[Bool.true_and];rw[zan];exact zaj σ r hr (by rw[h];rfl)
 · have e:fOf r.op=(1,true):=by rw[h];rfl
   rw[e];simp only[Bool.true_and];rw[z48];exact z47 σ r hr (by rw[h];rfl)
 · have e:fOf r.op=(16,true):=by rw[h];rfl
   rw[e];simp only[Bool.true_and];rw[zbU];exact zbT σ r hr (by rw[h];rfl)
 · have e:fOf r.op=(0,true):=by rw[h];rfl
   rw[e];simp only[Bool.true_and];rw[z4T];exact z4S σ r hr (by rw[h];rfl)
 · have e:fOf r.op=(1,true):=by rw[h];rfl
   rw[e];simp only[Bool.true_and];rw[z48];exact z47 σ r hr (by rw[h];rfl)
 · have e:fOf r.op=(0,true):=by rw[h];rfl
   rw[e];simp only[Bool.true_and];rw[z4T];exact z4S σ r hr (by rw[h];rfl)
 · have e:fOf r.op=(0,true):=by rw[h];rfl
   rw[e];simp only[Bool.true_and];rw[z4T];exact z4S σ r hr (by rw[h];rfl)
 · rw[z7I h];exact z7L σ r (zbO h)
end
section
variable (σ:St)
theorem zeX (n:Nat) (hn:n<18446744073709551616):Ans Tryz.prog 52 [UN n] σ (.sl 1 (byv (putN n))) σ:=(z4P σ n hn).shut (by rw[z02]) (z1P _ _)
end
theorem zg9 (b:Byt):ruR b=(listR b).bind fun p1=>(listR p1.2).bind fun p2=>(bandR p2.2).bind fun p3=>(rowR 4 (textR 12) p3.2).bind fun p4 =>
  if ruIs (mkRu (p1.1,p2.1,p3.1,p4.1)) then some (mkRu (p1.1,p2.1,p3.1,p4.1),p4.2) else none:=by
 simp only[ruR,ruR0,onlyR,z0U,seqR]
 cases listR b with
 |none=>rfl
 |some p1 =>
 simp only[Option.bind_some]
 cases listR p1.2 with
 |none=>rfl
 |some p2 =>
 simp only[Option.bind_some]
 cases bandR p2.2 with
 |none=>rfl
 |some p3 =>
 simp only[Option.bind_some]
 cases rowR 4 (textR 12) p3.2 with
 |none=>rfl
 |some p4=>rfl
theorem z1Q {M:List Mtr} (h:listB M=true):∀x∈M,x.2.1.size≤100000:=fun x hx=>by have:=(zcT h).2 x hx;omega
section
variable (σ:St)
set_option maxHeartbeats 4000000 in
theorem z4C (b:Byt) (hb:b.length≤50000):Ans Tryz.prog 139 [.sl 1 (byv b)] σ (readV (ruR b) b ruV noRuV) σ:=by
 have hR:=zg9 b;have r1:=fun s=>z7D s b hb
 cases h1:listR b with
 |none =>
  rw[h1]at hR;have hR:ruR b=none:=hR;simp only[z0v h1]at r1;refine Ans.of_run' t139 (fun hbel _=>?_)
  rw[hR];simp -implicitDefEqProofs only[c139,r139,go_sem,List.append_assoc,List.length_append,g0,g1,s0,s1];refine CO.intro (r1 _) ?_;simp -implicitDefEqProofs only[go_sem,g0,g1,s0,s1];exact Fini.trim2 (σ':=σ) (by simp -implicitDefEqProofs only[go_sem,resA,z01,rvA,oneOf,g0]<;>rfl) rfl (Nat.le_refl _) (by unfold readV;exact z0a (z1o _)) hbel
 |some p1 =>
 obtain⟨m1,t1⟩:=p1;rw[h1]at hR;simp only[Option.bind_some]at hR;simp only[z0E h1]at r1;obtain⟨d1,l1,k1⟩:=ends_list.drop (b:=b) (a:=0) (Nat.zero_le _) h1;have v1:=(listB_fits.bwd b m1 t1 h1).1;have r2:=fun s=>z7D s t1 (by omega)
 have le1:(((b.length-t1.length:Nat):Int)≤(b.length:Nat))=True:=eq_true (by omega)
 cases h2:listR t1 with
 |none =>
  rw[h2]at hR;have hR:ruR b=none:=hR;simp only[z0v h2]at r2;refine Ans.of_run' t139 (fun hbel _=>?_)
  rw[hR];simp -implicitDefEqProofs only[c139,r139,go_sem,List.append_assoc,List.length_append,g0,g1,s0,s1];refine CO.intro (r1 _) ?_;simp -implicitDefEqProofs only[go_sem,g0,g1,s0,s1,z02,le1,z0q,z0r,d1,List.take_length,Int.le_refl];refine CO.intro (r2 _) ?_;simp -implicitDefEqProofs only[go_sem,g0,g1,s0,s1];exact Fini.trim2 (σ':=σ) (by simp -implicitDefEqProofs only[go_sem,resA,z01,rvA,oneOf,g0]<;>rfl) rfl (Nat.le_refl _) (by unfold readV;exact z0a (z1o _)) hbel
 |some p2 =>
 obtain⟨m2,t2⟩:=p2;rw[h2]at hR;simp only[Option.bind_some]at hR;simp only[z0E h2]at r2;obtain⟨d2,l2,k2⟩:=ends_list.drop (b:=b) (a:=b.length-t1.length) (by omega) (by rw[d1];exact h2)
 have v2:=(listB_fits.bwd t1 m2 t2 h2).1;have kk2:t2.length≤t1.length:=(listB_fits.rest h2).1;have r3:=fun s=>z3b s t2 (by omega)
 have a2:=addN (a:=b.length-t1.length) (b:=t1.length-t2.length) (by omega)
 rw[show b.length-t1.length+(t1.length-t2.length)=b.length-t2.length by omega]at a2
 have le2:(((b.length-t2.length:Nat):Int)≤(b.length:Nat))=True:=eq_true (by omega)
 cases h3:bandR t2 with
 |none =>
  rw[h3]at hR;have hR:ruR b=none:=hR;simp only[z0v h3]at r3;unfold bandV at r3;refine Ans.of_run' t139 (fun hbel _=>?_)
  rw[hR];simp -implicitDefEqProofs only[c139,r139,go_sem,List.append_assoc,List.length_append,g0,g1,s0,s1];refine CO.intro (r1 _) ?_;simp -implicitDefEqProofs only[go_sem,g0,g1,s0,s1,z02,le1,z0q,z0r,d1,List.take_length,Int.le_refl];refine CO.intro (r2 _) ?_;simp -implicitDefEqProofs only[go_sem,g0,g1,s0,s1,z02,a2,le2,z0q,z0r,d2,List.take_length,Int.le_refl];refine CO.intro (r3 _) ?_;simp -implicitDefEqProofs only[go_sem,g0,g1,s0,s1];exact Fini.trim2 (σ':=σ) (by simp -implicitDefEqProofs only[go_sem,resA,z01,rvA,oneOf,g0]<;>rfl) rfl (Nat.le_refl _) (by unfold readV;exact z0a (z1o _)) hbel
 |some p3 =>
 obtain⟨⟨any,lo,hi⟩,t3⟩:=p3;rw[h3]at hR;simp only[Option.bind_some]at hR;simp only[z0E h3]at r3;unfold bandV at r3;obtain⟨d3,l3,k3⟩:=ends_band.drop (b:=b) (a:=b.length-t2.length) (by omega) (by rw[d2];exact h3)
 have kk3:t3.length≤t2.length:=(band_fits.rest h3).1;have r4:=fun s=>z19 s t3 (by omega)
 have a3:=addN (a:=b.length-t2.length) (b:=t2.length-t3.length) (by omega)
 rw[show b.length-t2.length+(t2.length-t3.length)=b.length-t3.length by omega]at a3
 have le3:(((b.length-t3.length:Nat):Int)≤(b.length:Nat))=True:=eq_true (by omega)
 refine Ans.of_run' t139 (fun hbel _=>?_)
 simp -implicitDefEqProofs only[c139,r139,go_sem,List.append_assoc,List.length_append,g0,g1,s0,s1];refine CO.intro (r1 _) ?_;simp -implicitDefEqProofs only[go_sem,g0,g1,s0,s1,z02,le1,z0q,z0r,d1,List.take_length,Int.le_refl];refine CO.intro (r2 _) ?_;simp -implicitDefEqProofs only[go_sem,g0,g1,s0,s1,z02,a2,le2,z0q,z0r,d2,List.take_length,Int.le_refl];refine CO.intro (r3 _) ?_;simp -implicitDefEqProofs only[go_sem,g0,g1,s0,s1,z02,a3,le3,z0q,z0r,d3,List.take_length,Int.le_refl];refine CO.intro (r4 _) ?_
 cases hg:getN 0 t3 with
 |none =>
  have hN:rowR 4 (textR 12) t3=none:=by simp only[rowR,numR,hg,Option.bind_none]
  rw[hN]at hR;have hR:ruR b=none:=hR;rw[z0A hg,hR];simp -implicitDefEqProofs only[go_sem,g0,g1,s0,s1];exact Fini.trim2 (σ':=σ) (by simp -implicitDefEqProofs only[go_sem,resA,z01,rvA,oneOf,g0]<;>rfl) rfl (Nat.le_refl _) (by unfold readV;exact z0a (z1o _)) hbel
 |some p4 =>
 obtain⟨n,t4⟩:=p4;rw[z0G hg];have e4:decide ((4:Int)<n)=decide (4<n):=decNN 4 n;by_cases h4:4<n
 · have hN:rowR 4 (textR 12) t3=none:=by simp only[rowR,numR,hg,Option.bind_some,show ¬n≤4 by omega,if_false,Option.bind_none]
   rw[hN]at hR;have hR:ruR b=none:=hR;rw[hR];simp -implicitDefEqProofs only[go_sem,g0,g1,s0,s1,e4,decide_eq_true h4];exact Fini.trim2 (σ':=σ) (by simp -implicitDefEqProofs only[go_sem,resA,z01,rvA,oneOf,g0]<;>rfl) rfl (Nat.le_refl _) (by unfold readV;exact z0a (z1o _)) hbel
 · have hN:numR 4 t3=some (n,t4):=by simp only[numR,hg,Option.bind_some,show n≤4 by omega,if_true]
   obtain⟨d4,l4,k4⟩:=(ends_num 4).drop (b:=b) (a:=b.length-t3.length) (by omega) (by rw[d3];exact hN)
   have kk4:t4.length<t3.length:=z8K hg;have hrow:rowR 4 (textR 12) t3=manyR (textR 12) n t4:=by simp only[rowR,hN,Option.bind_some]
   rw[hrow]at hR;have a4:=addN (a:=b.length-t3.length) (b:=t3.length-t4.length) (by omega)
   rw[show b.length-t3.length+(t3.length-t4.length)=b.length-t4.length by omega]at a4
   have hwn:=wrapI (a:=n) (by omega)
   simp -implicitDefEqProofs only[go_sem,e4,decide_eq_false h4,a4]
   refine Go.Ab.L.intro (α:={ p:Nat×List ByteArray×Nat // p.1≤n∧p.2.1.length=p.1∧p.2.2≤b.length∧(∀x∈p.2.1,x.size≤12)∧manyR (textR 12) n t4=(manyR (textR 12) (n-p.1) (b.drop p.2.2)).map fun r=>(p.2.1++r.1,r.2) }) (fun p=>n-p.1.1)
    (fun p=>mkE 112 [(0,.sl 1 (byv b)),(2,.ptr σ.length 0),(5,.rp [.nils,.nils,Bo false,Fl 0,Fl 0,.nils]),(6,.ptr (σ.length+1) 0),(8,I p.1.2.2),(12,UN n),(13,I p.1.1)])
    (fun p=>σ++Z6::.box [mlV m1,mlV m2,Bo any,Fl lo,Fl hi,txC (σ.length+2) p.1.2.1]::txS p.1.2.1) ?_ ⟨(0,[],b.length-t4.length),Nat.zero_le _,rfl,Nat.sub_le _ _,by simp,by rw[d4];cases manyR (textR 12) n t4<;>simp⟩ rfl rfl
   rintro⟨⟨i,l,at_⟩,hi',hll,hat,hsz,hm⟩ J hJ;simp only at hi' hll hat hsz hm hJ;by_cases hlt:i<n
   · obtain⟨m,hmm⟩:∃m,n-i=m+1:=⟨n-i-1,by omega⟩
     rw[hmm,z5A]at hm;have d0:decide ((i:Int)<n)=true:=dec_lt hlt;have leA:(((at_:Nat):Int)≤(b.length:Nat))=True:=eq_true (by omega)
     have hst:∀ex:St,ex=ex:=fun _=>rfl
     simp -implicitDefEqProofs only[mkE,go_sem,hwn,d0,z02,leA,z0q,z0r,List.take_length,Int.le_refl];refine CO.intro (z13 _ (b.drop at_) 12 (by rw[List.length_drop];omega) (by decide)) ?_
     cases ht:textR 12 (b.drop at_) with
     |none =>
      rw[ht]at hm;simp only[Option.bind_none,Option.map_none]at hm;rw[hm]at hR;have hR:ruR b=none:=hR;rw[z0C ht,hR];simp -implicitDefEqProofs only[go_sem,g0,g1,s0,s1];exact Fini.trim2 (σ':=σ) (by simp -implicitDefEqProofs only[go_sem,resA,z01,rvA,oneOf,g0]<;>rfl) rfl (Nat.le_refl _) (by unfold readV;exact z0a (z1o _)) hbel
     |some x =>
      obtain⟨s,u⟩:=x;obtain⟨z1,z2,z3⟩:=(z0I 12).drop (b:=b) (a:=at_) hat ht;have hs:=((z0T (most:=12) (by decide)).bwd _ _ _ ht).1
      have aa:=addN (a:=at_) (b:=(b.drop at_).length-u.length) (by rw[List.length_drop];omega)
      rw[show at_+((b.drop at_).length-u.length)=b.length-u.length by rw[List.length_drop];omega]at aa
      have hin:=wrap_succ (i:=i) (by omega)
      rw[ht]at hm;simp only[Option.bind_some]at hm
      have hgo:=hJ ⟨(i+1,l++[s],b.length-u.length),by simp only;omega,by simp[hll],by simp only;omega,(by
       intro y hy;simp only[List.mem_append,List.mem_singleton]at hy;rcases hy with hy|rfl
       · exact hsz y hy
       · exact hs),(by
       simp only;rw[hm,z1,show n-(i+1)=m by omega]
       cases manyR (textR 12) m u<;>simp)⟩ (by simp only;omega)
      simp only at hgo;rw[z6l _ (z4Q l s),z6m (z4Q l s),z9g]at hgo;rw[List.length_append,List.length_singleton]at hgo;rw[z1e ht]
      cases hem:l.isEmpty with
      |true =>
       have hle:l=[]:=List.isEmpty_iff.1 hem;subst hle;unfold txC txS;simp only[List.isEmpty_nil,if_true];have p32:((1:Nat)≤2^32)=True:=eq_true (by decide)
       simp -implicitDefEqProofs only[go_sem,g0,g1,s0,s1,aa,hin,p32,List.length_append,List.append_assoc,List.length_cons,List.length_nil];exact hgo
      |false =>
       rw[z6l _ hem,z6m hem];have hle:l.length+1≤4294967296:=by omega
       simp -implicitDefEqProofs only[go_sem,g0,g1,g2,s0,s1,s2,aa,hin,z1l,hle,List.length_singleton];exact hgo
   · have hie:i=n:=by omega
     subst hie;have d0:decide ((i:Int)<i)=false:=by simp
     rw[Nat.sub_self]at hm;simp only[manyR,Option.map_some,List.append_nil]at hm;rw[hm]at hR;simp only[Option.bind_some]at hR;have hsm:RSm (mkRu (m1,m2,(any,lo,hi),l)):=⟨z1Q v1,z1Q v2,fun s hs=>by have:=hsz s hs;omega⟩
     have hru:=fun s=>z1L s (mkRu (m1,m2,(any,lo,hi),l)) hsm
     have hlen:b.length-(b.drop at_).length=at_:=by rw[List.length_drop];omega
     have fin:(ruIs (mkRu (m1,m2,(any,lo,hi),l))=false→ruR b=none)∧(ruIs (mkRu (m1,m2,(any,lo,hi),l))=true→ruR b=some (mkRu (m1,m2,(any,lo,hi),l),b.drop at_)):=by
      refine⟨fun h=>?_,fun h=>?_⟩
      · rw[hR,h];rfl
      · rw[hR,h];rfl
     generalize ruIs (mkRu (m1,m2,(any,lo,hi),l))=ok at hru fin
     cases hem:l.isEmpty with
     |true =>
      have hle:l=[]:=List.isEmpty_iff.1 hem;subst hle;unfold txC txS;simp only[List.isEmpty_nil,if_true];simp -implicitDefEqProofs only[mkE,go_sem,hwn,d0,zbs,g0,g1,g2,s0,s1,s2];refine CO.intro (hru _) ?_
      cases ok with
      |false =>
       rw[fin.1 rfl];simp -implicitDefEqProofs only[go_sem,g0,g1,g2,s0,s1,s2];exact Fini.trim2 (σ':=σ) (by simp -implicitDefEqProofs only[go_sem,resA,z01,rvA,oneOf,g0]<;>rfl) rfl (Nat.le_refl _) (by unfold readV;exact z0a (z1o _)) hbel
      |true =>
       rw[z0E (fin.2 rfl),hlen];simp -implicitDefEqProofs only[go_sem,g0,g1,g2,s0,s1,s2];exact Fini.trim2 (σ':=σ) (by simp -implicitDefEqProofs only[go_sem,resA,z01,rvA,oneOf,g0]<;>rfl) rfl (Nat.le_refl _) (z0a (z5z _ _)) hbel
     |false =>
      have ne32:(σ.length+2≠σ.length+1)=True:=eq_true (by omega)
      rw[z6l _ hem,z6m hem];simp -implicitDefEqProofs only[mkE,go_sem,hwn,d0,z1l,ne32,g0,g1,g2,s0,s1,s2];refine CO.intro (hru _) ?_
      cases ok with
      |false =>
       rw[fin.1 rfl];simp -implicitDefEqProofs only[go_sem,g0,g1,g2,s0,s1,s2];exact Fini.trim2 (σ':=σ) (by simp -implicitDefEqProofs only[go_sem,resA,z01,rvA,oneOf,g0]<;>rfl) rfl (Nat.le_refl _) (by unfold readV;exact z0a (z1o _)) hbel
      |true =>
       rw[z0E (fin.2 rfl),hlen];simp -implicitDefEqProofs only[go_sem,g0,g1,g2,s0,s1,s2];exact Fini.trim2 (σ':=σ) (by simp -implicitDefEqProofs only[go_sem,resA,z01,rvA,oneOf,g0]<;>rfl) rfl (Nat.le_refl _) (z0a (z5z _ _)) hbel
end
end Go.Proofs.YteakobbdgehlgaaGreatDoor
namespace Go.Ab
open Go
theorem L.step {P:Program} {n0:Nat} {clr:List Tmp} {x:ACode} {k:List Fr} {B:Bs} {env:Env} {σ:St}
  (h:∀J:Env→St→Prop,(∀env σ,L P n0 clr x k B env σ→J env σ)→R P n0 x (.loop J clr::k) B env σ):L P n0 clr x k B env σ:=by
 unfold L;intro I hI;refine hI _ _ (h I fun env' σ' hl=>?_)
 unfold L at hl;exact hl I hI
end Go.Ab
namespace Go.Proofs.YteakobbdgehlgaaGreatDoor
open Go Go.Ab Go.Cod
set_option maxRecDepth 100000
theorem z0M {σ:St} {p:Nat} {o:Ob} (h:σ[p]?=some o):σ.set p o=σ:=by
 obtain⟨hp,e⟩:=List.getElem?_eq_some_iff.1 h;rw[←e];exact List.set_getElem_self hp
theorem z6L {M:Nat} {b:Byt} {u:Nat} {t:Byt} (h:numR M b=some (u,t)):getN 0 b=some (u,t)∧u≤M:=by
 simp only[numR]at h
 cases hg:getN 0 b with
 |none=>simp[hg]at h
 |some p =>
  simp only[hg,Option.bind_some]at h;split at h
  · simp only[Option.some.injEq]at h;subst h;exact⟨rfl,by assumption⟩
  · cases h
section
variable (σ:St) (p:Nat) (b:Byt) (hb:b.length≤50000)
include hb in
theorem z6M (c0 c1 c3 c4 c5 c6 c7 c8 c9 c10 c11 c12 c13 c14 c15 c16 c126 c139:AV) (h:σ[p]?=some (.box [c0,c1,I 0,c3,c4,c5,c6,c7,c8,c9,c10,c11,c12,c13,c14,c15,c16,c126,c139])) (hr:numR 1099511627776 b=none):Ans Tryz.prog 118 [.ptr p 0,.pl (.int .u8 73),.sl 1 (byv b)] σ (.tup [I 0,Bo false]) σ:=by
 have h9:=z0M h
 cases hg:getN 0 b with
 |none =>
  have k:=z19 σ b (by omega)
  rw[z0A hg]at k;have d:decide ((1099511627776:Int)<((0:Nat):Int))=false:=by decide
  have w0:IntKind.i64.wrap ((0:Nat):Int)=0:=rfl;refine Ans.of_run t118 ?_;simp -implicitDefEqProofs only[c118,r118,go_sem];refine CO.intro k ?_;simp -implicitDefEqProofs only[go_sem,d,w0,h];refine Fini.ret3 (n:=0) rfl rfl ?_;exact h9
 |some q =>
  obtain⟨u,t⟩:=q;have k:=z19 σ b (by omega)
  rw[z0G hg]at k
  have d:decide ((1099511627776:Int)<(u:Int))=true:=by
   have:¬u≤1099511627776:=fun hu=>by simp[numR,hg,hu]at hr
   simp;omega
  refine Ans.of_run t118 ?_;simp -implicitDefEqProofs only[c118,r118,go_sem];refine CO.intro k ?_;simp -implicitDefEqProofs only[go_sem,d];exact Fini.ret rfl
include hb in
theorem z6N (c0 c1 c2 c3 c4 c5 c6 c7 c8 c9 c10 c11 c12 c13 c14 c15 c16 c126 c139:AV) (h:σ[p]?=some (.box [c0,c1,c2,c3,c4,c5,c6,c7,c8,c9,c10,c11,c12,c13,c14,c15,c16,c126,c139])) (u:Nat) (t:Byt) (hr:numR 1099511627776 b=some (u,t)):Ans Tryz.prog 118 [.ptr p 0,.pl (.int .u8 73),.sl 1 (byv b)] σ (.tup [I (b.length-t.length:Nat),Bo true]) (σ.set p (.box [c0,c1,I (u:Nat),c3,c4,c5,c6,c7,c8,c9,c10,c11,c12,c13,c14,c15,c16,c126,c139])):=by
 have h9:=z0M h;obtain⟨hg,hu⟩:=z6L hr;have k:=z19 σ b (by omega)
 rw[z0G hg]at k;have d:decide ((1099511627776:Int)<(u:Int))=false:=by simp;omega
 have wu:IntKind.i64.wrap (u:Int)=(u:Int):=wrapI (by omega)
 refine Ans.of_run t118 ?_;simp -implicitDefEqProofs only[c118,r118,go_sem];refine CO.intro k ?_;simp -implicitDefEqProofs only[go_sem,d,wu,h];exact Fini.ret rfl
include hb in
theorem z9m (c0 c1 c2 c3 c5 c6 c7 c8 c9 c10 c11 c12 c13 c14 c15 c16 c126 c139:AV) (h:σ[p]?=some (.box [c0,c1,c2,c3,UN 0,c5,c6,c7,c8,c9,c10,c11,c12,c13,c14,c15,c16,c126,c139])) (hr:numR 1099511627776 b=none):Ans Tryz.prog 118 [.ptr p 0,.pl (.int .u8 83),.sl 1 (byv b)] σ (.tup [I 0,Bo false]) σ:=by
 have h9:=z0M h
 cases hg:getN 0 b with
 |none =>
  have k:=z19 σ b (by omega)
  rw[z0A hg]at k;have d:decide ((1099511627776:Int)<((0:Nat):Int))=false:=by decide
  have w0:IntKind.i64.wrap ((0:Nat):Int)=0:=rfl;refine Ans.of_run t118 ?_;simp -implicitDefEqProofs only[c118,r118,go_sem];refine CO.intro k ?_;simp -implicitDefEqProofs only[go_sem,d,w0,h];refine Fini.ret3 (n:=0) rfl rfl ?_;exact h9
 |some q =>
  obtain⟨u,t⟩:=q;have k:=z19 σ b (by omega)
  rw[z0G hg]at k
  have d:decide ((1099511627776:Int)<(u:Int))=true:=by
   have:¬u≤1099511627776:=fun hu=>by simp[numR,hg,hu]at hr
   simp;omega
  refine Ans.of_run t118 ?_;simp -implicitDefEqProofs only[c118,r118,go_sem];refine CO.intro k ?_;simp -implicitDefEqProofs only[go_sem,d];exact Fini.ret rfl
include hb in
theorem z9n (c0 c1 c2 c3 c4 c5 c6 c7 c8 c9 c10 c11 c12 c13 c14 c15 c16 c126 c139:AV) (h:σ[p]?=some (.box [c0,c1,c2,c3,c4,c5,c6,c7,c8,c9,c10,c11,c12,c13,c14,c15,c16,c126,c139])) (u:Nat) (t:Byt) (hr:numR 1099511627776 b=some (u,t)):Ans Tryz.prog 118 [.ptr p 0,.pl (.int .u8 83),.sl 1 (byv b)] σ (.tup [I (b.length-t.length:Nat),Bo true]) (σ.set p (.box [c0,c1,c2,c3,UN u,c5,c6,c7,c8,c9,c10,c11,c12,c13,c14,c15,c16,c126,c139])):=by
 have h9:=z0M h;obtain⟨hg,hu⟩:=z6L hr;have k:=z19 σ b (by omega)
 rw[z0G hg]at k;have d:decide ((1099511627776:Int)<(u:Int))=false:=by simp;omega
 have wu:IntKind.i64.wrap (u:Int)=(u:Int):=wrapI (by omega)
 refine Ans.of_run t118 ?_;simp -implicitDefEqProofs only[c118,r118,go_sem];refine CO.intro k ?_;simp -implicitDefEqProofs only[go_sem,d,wu,h];exact Fini.ret rfl
include hb in
theorem z9o (c0 c1 c2 c3 c4 c6 c7 c8 c9 c10 c11 c12 c13 c14 c15 c16 c126 c139:AV) (h:σ[p]?=some (.box [c0,c1,c2,c3,c4,UN 0,c6,c7,c8,c9,c10,c11,c12,c13,c14,c15,c16,c126,c139])) (hr:numR 1099511627776 b=none):Ans Tryz.prog 118 [.ptr p 0,.pl (.int .u8 69),.sl 1 (byv b)] σ (.tup [I 0,Bo false]) σ:=by
 have h9:=z0M h
 cases hg:getN 0 b with
 |none =>
  have k:=z19 σ b (by omega)
  rw[z0A hg]at k;have d:decide ((1099511627776:Int)<((0:Nat):Int))=false:=by decide
  have w0:IntKind.i64.wrap ((0:Nat):Int)=0:=rfl;refine Ans.of_run t118 ?_;simp -implicitDefEqProofs only[c118,r118,go_sem];refine CO.intro k ?_;simp -implicitDefEqProofs only[go_sem,d,w0,h];refine Fini.ret3 (n:=0) rfl rfl ?_;exact h9
 |some q =>
  obtain⟨u,t⟩:=q;have k:=z19 σ b (by omega)
  rw[z0G hg]at k
  have d:decide ((1099511627776:Int)<(u:Int))=true:=by
   have:¬u≤1099511627776:=fun hu=>by simp[numR,hg,hu]at hr
   simp;omega
  refine Ans.of_run t118 ?_;simp -implicitDefEqProofs only[c118,r118,go_sem];refine CO.intro k ?_;simp -implicitDefEqProofs only[go_sem,d];exact Fini.ret rfl
include hb in
theorem z9p (c0 c1 c2 c3 c4 c5 c6 c7 c8 c9 c10 c11 c12 c13 c14 c15 c16 c126 c139:AV) (h:σ[p]?=some (.box [c0,c1,c2,c3,c4,c5,c6,c7,c8,c9,c10,c11,c12,c13,c14,c15,c16,c126,c139])) (u:Nat) (t:Byt) (hr:numR 1099511627776 b=some (u,t)):Ans Tryz.prog 118 [.ptr p 0,.pl (.int .u8 69),.sl 1 (byv b)] σ (.tup [I (b.length-t.length:Nat),Bo true]) (σ.set p (.box [c0,c1,c2,c3,c4,UN u,c6,c7,c8,c9,c10,c11,c12,c13,c14,c15,c16,c126,c139])):=by
 have h9:=z0M h;obtain⟨hg,hu⟩:=z6L hr;have k:=z19 σ b (by omega)
 rw[z0G hg]at k;have d:decide ((1099511627776:Int)<(u:Int))=false:=by simp;omega
 have wu:IntKind.i64.wrap (u:Int)=(u:Int):=wrapI (by omega)
 refine Ans.of_run t118 ?_;simp -implicitDefEqProofs only[c118,r118,go_sem];refine CO.intro k ?_;simp -implicitDefEqProofs only[go_sem,d,wu,h];exact Fini.ret rfl
include hb in
theorem zdf (c0 c1 c2 c4 c5 c6 c7 c8 c9 c10 c11 c12 c13 c14 c15 c16 c126 c139:AV) (h:σ[p]?=some (.box [c0,c1,c2,Sx ⟨#[]⟩,c4,c5,c6,c7,c8,c9,c10,c11,c12,c13,c14,c15,c16,c126,c139])) (hr:textR 16 b=none):Ans Tryz.prog 118 [.ptr p 0,.pl (.int .u8 84),.sl 1 (byv b)] σ (.tup [I 0,Bo false]) σ:=by
 have h9:=z0M h;have k:=z13 σ b 16 (by omega) (by decide)
 rw[z0C hr]at k;refine Ans.of_run t118 ?_;simp -implicitDefEqProofs only[c118,r118,go_sem];refine CO.intro k ?_;simp -implicitDefEqProofs only[go_sem,h];refine Fini.ret3 (n:=0) rfl rfl ?_;exact h9
include hb in
theorem zdg (c0 c1 c2 c3 c4 c5 c6 c7 c8 c9 c10 c11 c12 c13 c14 c15 c16 c126 c139:AV) (h:σ[p]?=some (.box [c0,c1,c2,c3,c4,c5,c6,c7,c8,c9,c10,c11,c12,c13,c14,c15,c16,c126,c139])) (s:ByteArray) (t:Byt) (hr:textR 16 b=some (s,t)):Ans Tryz.prog 118 [.ptr p 0,.pl (.int .u8 84),.sl 1 (byv b)] σ (.tup [I (b.length-t.length:Nat),Bo true]) (σ.set p (.box [c0,c1,c2,Sx s,c4,c5,c6,c7,c8,c9,c10,c11,c12,c13,c14,c15,c16,c126,c139])):=by
 have h9:=z0M h;have k:=z13 σ b 16 (by omega) (by decide)
 rw[z1e hr]at k;refine Ans.of_run t118 ?_;simp -implicitDefEqProofs only[c118,r118,go_sem];refine CO.intro k ?_;simp -implicitDefEqProofs only[go_sem,h];exact Fini.ret rfl
include hb in
theorem zdh (c0 c1 c2 c3 c4 c5 c6 c7 c8 c9 c10 c11 c12 c13 c14 c15 c16 c126 c139:AV) (h:σ[p]?=some (.box [c0,c1,c2,c3,c4,c5,c6,c7,c8,c9,c10,c11,c12,c13,c14,c15,c16,c126,c139])) (hr:b=[]):Ans Tryz.prog 118 [.ptr p 0,.pl (.int .u8 90),.sl 1 (byv b)] σ (.tup [I 0,Bo false]) σ:=by
 have h9:=z0M h;have d:(((b.length:Nat):Int)==0)=true:=by rw[hr];decide
 refine Ans.of_run t118 ?_;simp -implicitDefEqProofs only[c118,r118,go_sem,z02,d];exact Fini.ret rfl
include hb in
theorem zdi (c0 c1 c2 c3 c4 c5 c6 c7 c8 c9 c10 c11 c12 c13 c14 c15 c16 c126 c139:AV) (h:σ[p]?=some (.box [c0,c1,c2,c3,c4,c5,c6,c7,c8,c9,c10,c11,c12,c13,c14,c15,c16,c126,c139])) (c:UInt8) (t:Byt) (hr:b=c::t):Ans Tryz.prog 118 [.ptr p 0,.pl (.int .u8 90),.sl 1 (byv b)] σ (.tup [I 1,Bo true]) (σ.set p (.box [c0,c1,c2,c3,c4,c5,I (c.toNat:Nat),c7,c8,c9,c10,c11,c12,c13,c14,c15,c16,c126,c139])):=by
 have h9:=z0M h;have d:(((b.length:Nat):Int)==0)=false:=by rw[hr,List.length_cons];exact neI (by omega)
 have hpos:((0:Int)<(b.length:Nat))=True:=eq_true (by rw[hr,List.length_cons];omega)
 have hx:(byv b)[0]?=some (bc c):=by rw[hr];rfl
 have z0:Int.toNat 0=0:=rfl;have wc:IntKind.i64.wrap (c.toNat:Int)=(c.toNat:Int):=wrapI (by have:=c.toNat_lt;omega)
 refine Ans.of_run t118 ?_;simp -implicitDefEqProofs only[c118,r118,go_sem,z02,d,hpos,hx,z0,bc,wc,h];exact Fini.ret rfl
include hb in
theorem z6O (c0 c1 c2 c3 c4 c5 c6 c8 c9 c10 c11 c12 c13 c14 c15 c16 c126 c139:AV) (h:σ[p]?=some (.box [c0,c1,c2,c3,c4,c5,c6,.nils,c8,c9,c10,c11,c12,c13,c14,c15,c16,c126,c139])) (hr:listR b=none):Ans Tryz.prog 118 [.ptr p 0,.pl (.int .u8 77),.sl 1 (byv b)] σ (.tup [I 0,Bo false]) σ:=by
 have h9:=z0M h;have k:=z4l σ b hb;rw[z0v hr]at k;refine Ans.of_run t118 ?_;simp -implicitDefEqProofs only[c118,r118,go_sem];refine CO.intro k ?_;simp -implicitDefEqProofs only[go_sem,h];refine Fini.ret3 (n:=0) rfl rfl ?_;exact h9
include hb in
theorem z6P (c0 c1 c2 c3 c4 c5 c6 c7 c8 c9 c10 c11 c12 c13 c14 c15 c16 c126 c139:AV) (h:σ[p]?=some (.box [c0,c1,c2,c3,c4,c5,c6,c7,c8,c9,c10,c11,c12,c13,c14,c15,c16,c126,c139])) (x:List Mtr) (t:Byt) (hr:listR b=some (x,t)):Ans Tryz.prog 118 [.ptr p 0,.pl (.int .u8 77),.sl 1 (byv b)] σ (.tup [I (b.length-t.length:Nat),Bo true]) (σ.set p (.box [c0,c1,c2,c3,c4,c5,c6,mlV x,c8,c9,c10,c11,c12,c13,c14,c15,c16,c126,c139])):=by
 have h9:=z0M h;have k:=z4l σ b hb;rw[z0E hr]at k;refine Ans.of_run t118 ?_;simp -implicitDefEqProofs only[c118,r118,go_sem];refine CO.intro k ?_;simp -implicitDefEqProofs only[go_sem,h];exact Fini.ret rfl
include hb in
theorem z9q (c0 c1 c2 c3 c4 c5 c6 c7 c11 c12 c13 c14 c15 c16 c126 c139:AV) (h:σ[p]?=some (.box [c0,c1,c2,c3,c4,c5,c6,c7,Bo false,Fl 0,Fl 0,c11,c12,c13,c14,c15,c16,c126,c139])) (hr:bandR b=none):Ans Tryz.prog 118 [.ptr p 0,.pl (.int .u8 66),.sl 1 (byv b)] σ (.tup [I 0,Bo false]) σ:=by
 have h9:=z0M h;have k:=z3b σ b hb;rw[z0v hr]at k;unfold bandV at k;refine Ans.of_run t118 ?_;simp -implicitDefEqProofs only[c118,r118,go_sem];refine CO.intro k ?_;simp -implicitDefEqProofs only[go_sem,h];refine Fini.ret3 (n:=0) rfl rfl ?_;exact h9
include hb in
theorem z9r (c0 c1 c2 c3 c4 c5 c6 c7 c8 c9 c10 c11 c12 c13 c14 c15 c16 c126 c139:AV) (h:σ[p]?=some (.box [c0,c1,c2,c3,c4,c5,c6,c7,c8,c9,c10,c11,c12,c13,c14,c15,c16,c126,c139])) (x:Bnd) (t:Byt) (hr:bandR b=some (x,t)):Ans Tryz.prog 118 [.ptr p 0,.pl (.int .u8 66),.sl 1 (byv b)] σ (.tup [I (b.length-t.length:Nat),Bo true]) (σ.set p (.box [c0,c1,c2,c3,c4,c5,c6,c7,Bo x.1,Fl x.2.1,Fl x.2.2,c11,c12,c13,c14,c15,c16,c126,c139])):=by
 have h9:=z0M h;have k:=z3b σ b hb;rw[z0E hr]at k;unfold bandV at k;refine Ans.of_run t118 ?_;simp -implicitDefEqProofs only[c118,r118,go_sem];refine CO.intro k ?_;simp -implicitDefEqProofs only[go_sem,h];exact Fini.ret rfl
include hb in
theorem zdj (c0 c1 c2 c3 c4 c5 c6 c7 c8 c9 c10 c126 c139:AV) (h:σ[p]?=some (.box [c0,c1,c2,c3,c4,c5,c6,c7,c8,c9,c10,.nils,.nils,Bo false,Fl 0,Fl 0,.nils,c126,c139])) (hr:ruR b=none):Ans Tryz.prog 118 [.ptr p 0,.pl (.int .u8 82),.sl 1 (byv b)] σ (.tup [I 0,Bo false]) σ:=by
 have h9:=z0M h;have k:=z4C σ b hb;rw[z0v hr]at k;unfold noRuV at k;refine Ans.of_run t118 ?_;simp -implicitDefEqProofs only[c118,r118,go_sem];refine CO.intro k ?_;simp -implicitDefEqProofs only[go_sem,h];refine Fini.ret3 (n:=0) rfl rfl ?_;exact h9
include hb in
theorem zdk (c0 c1 c2 c3 c4 c5 c6 c7 c8 c9 c10 c11 c12 c13 c14 c15 c16 c126 c139:AV) (h:σ[p]?=some (.box [c0,c1,c2,c3,c4,c5,c6,c7,c8,c9,c10,c11,c12,c13,c14,c15,c16,c126,c139])) (x:RuM) (t:Byt) (hr:ruR b=some (x,t)):Ans Tryz.prog 118 [.ptr p 0,.pl (.int .u8 82),.sl 1 (byv b)] σ (.tup [I (b.length-t.length:Nat),Bo true]) (σ.set p (.box [c0,c1,c2,c3,c4,c5,c6,c7,c8,c9,c10,mlV x.src,mlV x.tgt,Bo x.any,Fl x.lo,Fl x.hi,.sl 1 (txs x.eq),c126,c139])):=by
 have h9:=z0M h;have k:=z4C σ b hb;rw[z0E hr]at k;unfold ruV at k;refine Ans.of_run t118 ?_;simp -implicitDefEqProofs only[c118,r118,go_sem];refine CO.intro k ?_;simp -implicitDefEqProofs only[go_sem,h];exact Fini.ret rfl
include hb in
theorem zdl (c0 c1 c2 c3 c4 c5 c6 c7 c8 c9 c10 c11 c12 c13 c14 c15 c16 c139:AV) (h:σ[p]?=some (.box [c0,c1,c2,c3,c4,c5,c6,c7,c8,c9,c10,c11,c12,c13,c14,c15,c16,.nils,c139])) (hr:setR b=none):Ans Tryz.prog 118 [.ptr p 0,.pl (.int .u8 76),.sl 1 (byv b)] σ (.tup [I 0,Bo false]) σ:=by
 have h9:=z0M h;have k:=z5D σ b hb;rw[z0v hr]at k;refine Ans.of_run t118 ?_;simp -implicitDefEqProofs only[c118,r118,go_sem];refine CO.intro k ?_;simp -implicitDefEqProofs only[go_sem,h];refine Fini.ret3 (n:=0) rfl rfl ?_;exact h9
include hb in
theorem zdm (c0 c1 c2 c3 c4 c5 c6 c7 c8 c9 c10 c11 c12 c13 c14 c15 c16 c126 c139:AV) (h:σ[p]?=some (.box [c0,c1,c2,c3,c4,c5,c6,c7,c8,c9,c10,c11,c12,c13,c14,c15,c16,c126,c139])) (x:List Lab) (t:Byt) (hr:setR b=some (x,t)):Ans Tryz.prog 118 [.ptr p 0,.pl (.int .u8 76),.sl 1 (byv b)] σ (.tup [I (b.length-t.length:Nat),Bo true]) (σ.set p (.box [c0,c1,c2,c3,c4,c5,c6,c7,c8,c9,c10,c11,c12,c13,c14,c15,c16,lsV x,c139])):=by
 have h9:=z0M h;have k:=z5D σ b hb;rw[z0E hr]at k;refine Ans.of_run t118 ?_;simp -implicitDefEqProofs only[c118,r118,go_sem];refine CO.intro k ?_;simp -implicitDefEqProofs only[go_sem,h];exact Fini.ret rfl
include hb in
theorem zdn (c0 c1 c2 c3 c4 c5 c6 c7 c8 c9 c10 c11 c12 c13 c14 c15 c16 c126:AV) (h:σ[p]?=some (.box [c0,c1,c2,c3,c4,c5,c6,c7,c8,c9,c10,c11,c12,c13,c14,c15,c16,c126,Fl 0])) (hr:valR b=none):Ans Tryz.prog 118 [.ptr p 0,.pl (.int .u8 86),.sl 1 (byv b)] σ (.tup [I 8,Bo false]) σ:=by
 have h9:=z0M h;have k:=z2K σ b (by omega)
 unfold wordV at k;have k2:=fun u=>z46 σ u
 simp only[valR,onlyR]at hr
 cases hw:wordR b with
 |none =>
  rw[hw]at k;have e0:okV 0=true:=by decide +kernel
  have k2:=k2 0;rw[e0]at k2;refine Ans.of_run t118 ?_;simp -implicitDefEqProofs only[c118,r118,go_sem];refine CO.intro k ?_;simp -implicitDefEqProofs only[go_sem];refine CO.intro k2 ?_;simp -implicitDefEqProofs only[go_sem,h,if_true];refine Fini.ret3 (n:=0) rfl rfl ?_;exact h9
 |some q =>
  obtain⟨u,t⟩:=q;rw[hw]at k hr
  have e0:okV u=false:=by
   simp only[Option.bind_some]at hr
   cases ho:okV u with
   |true=>rw[ho]at hr;simp at hr
   |false=>rfl
  have k2:=k2 u;rw[e0]at k2;refine Ans.of_run t118 ?_;simp -implicitDefEqProofs only[c118,r118,go_sem];refine CO.intro k ?_;simp -implicitDefEqProofs only[go_sem];refine CO.intro k2 ?_;simp -implicitDefEqProofs only[go_sem,h,Bool.false_eq_true,if_false];refine Fini.ret3 (n:=0) rfl rfl ?_;exact h9
include hb in
theorem zdo (c0 c1 c2 c3 c4 c5 c6 c7 c8 c9 c10 c11 c12 c13 c14 c15 c16 c126 c139:AV) (h:σ[p]?=some (.box [c0,c1,c2,c3,c4,c5,c6,c7,c8,c9,c10,c11,c12,c13,c14,c15,c16,c126,c139])) (u:Nat) (t:Byt) (hr:valR b=some (u,t)):Ans Tryz.prog 118 [.ptr p 0,.pl (.int .u8 86),.sl 1 (byv b)] σ (.tup [I 8,Bo true]) (σ.set p (.box [c0,c1,c2,c3,c4,c5,c6,c7,c8,c9,c10,c11,c12,c13,c14,c15,c16,c126,Fl u])):=by
 have h9:=z0M h;have k:=z2K σ b (by omega)
 unfold wordV at k;simp only[valR,onlyR]at hr
 cases hw:wordR b with
 |none=>simp[hw]at hr
 |some q =>
  obtain⟨u',t'⟩:=q;rw[hw]at k hr
  have e0:okV u'=true∧u'=u:=by
   simp only[Option.bind_some]at hr
   cases ho:okV u' with
   |true =>
    rw[ho]at hr;simp only[if_true,Option.some.injEq,Prod.mk.injEq]at hr;exact⟨rfl,hr.1⟩
   |false=>rw[ho]at hr;simp at hr
  obtain⟨e0,rfl⟩:=e0;have k2:=z46 σ u';rw[e0]at k2;refine Ans.of_run t118 ?_;simp -implicitDefEqProofs only[c118,r118,go_sem];refine CO.intro k ?_;simp -implicitDefEqProofs only[go_sem];refine CO.intro k2 ?_;simp -implicitDefEqProofs only[go_sem,h,if_true];exact Fini.ret rfl
end
end Go.Proofs.YteakobbdgehlgaaGreatDoor
