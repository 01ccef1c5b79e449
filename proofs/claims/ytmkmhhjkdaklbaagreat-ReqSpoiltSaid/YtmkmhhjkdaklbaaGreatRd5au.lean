/- Whether a request may be, by the document, at some of the strings of fields. Printed by a program. No condition. -/
import Derived.Test.YtmkmhhjkdaklbaaGreatRd3au
import Derived.Test.YtmkmhhjkdaklbaaGreatRq2au
import Derived.Test.YtmkmhhjkdaklbaaGreatRd1u
set_option linter.unusedSimpArgs false
set_option linter.unusedVariables false
set_option linter.unusedSectionVars false
namespace Go.Proofs.YtmkmhhjkdaklbaaGreat
open Go Go.Ab Go.Cod
set_option maxRecDepth 100000
section
variable (σ:St)
set_option maxHeartbeats 8000000 in
theorem zbW (r:ReM) (hr:ReSm r) (hd:dOf r.op=S116):Ans Tryz.prog 89 [reV r] σ (Bo (docB r S116)) σ:=by
 obtain⟨tok,op,id,txt,st,en,sta,mt,any,lo,hi,⟨src,tgt,ra,rl,rh,eq⟩,ls,val⟩:=r;obtain⟨hm,hru,hls⟩:=hr;simp only at hm hru hls hd;have k1:=z0r σ op;rw[hd]at k1;have ii:=fun c h=>z2y σ S116 c h
 have i73:=ii 73 (by decide)
 have i84:=ii 84 (by decide)
 have i83:=ii 83 (by decide)
 have i90:=ii 90 (by decide)
 have i77:=ii 77 (by decide)
 have i66:=ii 66 (by decide)
 have i82:=ii 82 (by decide)
 have i76:=ii 76 (by decide)
 simp only[zdU]at i73 i84 i83 i90 i77 i66 i82 i76;have b0:=z2k σ txt;have b1:=z1o σ mt hm;have b2:=z1v σ (any,lo,hi);have b3:=z29 σ any lo hi;have b4:=z1U σ ⟨src,tgt,ra,rl,rh,eq⟩ hru;have b5:=z1K σ ⟨src,tgt,ra,rl,rh,eq⟩;have b6:=z2l σ ls hls;have b7:=z0D σ val;unfold bandV at b2;unfold ruV at b4 b5;unfold docB;simp only[zdU,Bool.true_or,Bool.false_or,Bool.not_true,Bool.not_false,Bool.true_and,if_true,Bool.false_eq_true,if_false];refine Ans.of_run t89 ?_;unfold reV reC;simp -implicitDefEqProofs only[c89,r89,go_sem];refine CO.intro k1 ?_;simp -implicitDefEqProofs only[go_sem];refine CO.intro i73 ?_
 cases h0:(id==0) with
 |false =>
  have fh00:=ne_of h0;simp -implicitDefEqProofs only[go_sem,h0,fh00];exact Fini.ret rfl
 |true =>
 have fh00:=ne_of h0
 cases h1:(decide (0≤id)) with
 |false =>
  have fh10:=lt_of h1;simp -implicitDefEqProofs only[go_sem,h0,fh00,h1,fh10];exact Fini.ret rfl
 |true =>
 have fh10:=lt_of h1
 cases h2:(decide (id≤2147483647)) with
 |false =>
  have fh20:=gt_of h2;simp -implicitDefEqProofs only[go_sem,h0,fh00,h1,fh10,h2,fh20];exact Fini.ret rfl
 |true =>
 have fh20:=gt_of h2;simp -implicitDefEqProofs only[go_sem,h0,fh00,h1,fh10,h2,fh20];refine CO.intro i84 ?_;simp -implicitDefEqProofs only[go_sem];refine CO.intro i84 ?_;unfold emS
 cases h3:(txt.toList==(⟨#[]⟩:ByteArray).toList) with
 |false =>
  simp -implicitDefEqProofs only[go_sem,h3];exact Fini.ret rfl
 |true =>
 simp -implicitDefEqProofs only[go_sem,h3];refine CO.intro i83 ?_;unfold clkB
 cases h4:(decide (((st:Nat):Int)≤1099511627776)) with
 |false =>
  have fh40:=gt_of h4;simp -implicitDefEqProofs only[go_sem,h4,fh40];exact Fini.ret rfl
 |true =>
 have fh40:=gt_of h4
 cases h5:(decide (((en:Nat):Int)≤1099511627776)) with
 |false =>
  have fh50:=gt_of h5;simp -implicitDefEqProofs only[go_sem,h4,fh40,h5,fh50];exact Fini.ret rfl
 |true =>
 have fh50:=gt_of h5;simp -implicitDefEqProofs only[go_sem,h4,fh40,h5,fh50];refine CO.intro i90 ?_
 cases h6:(sta==0) with
 |false =>
  have fh60:=ne_of h6;simp -implicitDefEqProofs only[go_sem,h6,fh60];exact Fini.ret rfl
 |true =>
 have fh60:=ne_of h6
 cases h7:(decide (0≤sta)) with
 |false =>
  have fh70:=lt_of h7;simp -implicitDefEqProofs only[go_sem,h6,fh60,h7,fh70];exact Fini.ret rfl
 |true =>
 have fh70:=lt_of h7
 cases h8:(decide (sta≤3)) with
 |false =>
  have fh80:=gt_of h8;simp -implicitDefEqProofs only[go_sem,h6,fh60,h7,fh70,h8,fh80];exact Fini.ret rfl
 |true =>
 have fh80:=gt_of h8;simp -implicitDefEqProofs only[go_sem,h6,fh60,h7,fh70,h8,fh80];refine CO.intro i77 ?_;simp -implicitDefEqProofs only[go_sem];refine CO.intro i83 ?_;have hl:(((mt.length:Nat):Int)==0)= !(!emI mt.length):=by rw[Bool.not_not];rfl
 cases hm0:(!emI mt.length) with
 |false =>
  rw[hm0]at hl;simp -implicitDefEqProofs only[go_sem,hl];exact Fini.ret rfl
 |true =>
 rw[hm0]at hl;simp -implicitDefEqProofs only[go_sem,hl];refine CO.intro b1 ?_
 cases h9:(listB mt) with
 |false =>
  simp -implicitDefEqProofs only[go_sem];exact Fini.ret rfl
 |true =>
 simp -implicitDefEqProofs only[go_sem];refine CO.intro i66 ?_;simp -implicitDefEqProofs only[go_sem];refine CO.intro b3 ?_
 cases h10:(mayB any lo hi) with
 |false =>
  simp -implicitDefEqProofs only[go_sem];exact Fini.ret rfl
 |true =>
 simp -implicitDefEqProofs only[go_sem];refine CO.intro i82 ?_;simp -implicitDefEqProofs only[go_sem];refine CO.intro i82 ?_;simp -implicitDefEqProofs only[go_sem];refine CO.intro b5 ?_
 cases h11:(noRl ⟨src,tgt,ra,rl,rh,eq⟩) with
 |false =>
  simp -implicitDefEqProofs only[go_sem];exact Fini.ret rfl
 |true =>
 simp -implicitDefEqProofs only[go_sem];refine CO.intro i76 ?_;unfold emI zF
 cases h12:(((ls.length:Nat):Int)==0) with
 |false =>
  simp -implicitDefEqProofs only[go_sem,h12];exact Fini.ret rfl
 |true =>
 simp -implicitDefEqProofs only[go_sem,h12];refine CO.intro b7 ?_;simp -implicitDefEqProofs only[go_sem];exact Fini.ret rfl
set_option maxHeartbeats 8000000 in
theorem zbX (r:ReM) (hr:ReSm r) (hd:dOf r.op=S117):Ans Tryz.prog 89 [reV r] σ (Bo (docB r S117)) σ:=by
 obtain⟨tok,op,id,txt,st,en,sta,mt,any,lo,hi,⟨src,tgt,ra,rl,rh,eq⟩,ls,val⟩:=r;obtain⟨hm,hru,hls⟩:=hr;simp only at hm hru hls hd;have k1:=z0r σ op;rw[hd]at k1;have ii:=fun c h=>z2y σ S117 c h
 have i73:=ii 73 (by decide)
 have i84:=ii 84 (by decide)
 have i83:=ii 83 (by decide)
 have i90:=ii 90 (by decide)
 have i77:=ii 77 (by decide)
 have i66:=ii 66 (by decide)
 have i82:=ii 82 (by decide)
 have i76:=ii 76 (by decide)
 simp only[zdV]at i73 i84 i83 i90 i77 i66 i82 i76;have b0:=z2k σ txt;have b1:=z1o σ mt hm;have b2:=z1v σ (any,lo,hi);have b3:=z29 σ any lo hi;have b4:=z1U σ ⟨src,tgt,ra,rl,rh,eq⟩ hru;have b5:=z1K σ ⟨src,tgt,ra,rl,rh,eq⟩;have b6:=z2l σ ls hls;have b7:=z0D σ val;unfold bandV at b2;unfold ruV at b4 b5;unfold docB;simp only[zdV,Bool.true_or,Bool.false_or,Bool.not_true,Bool.not_false,Bool.true_and,if_true,Bool.false_eq_true,if_false];refine Ans.of_run t89 ?_;unfold reV reC;simp -implicitDefEqProofs only[c89,r89,go_sem];refine CO.intro k1 ?_;simp -implicitDefEqProofs only[go_sem];refine CO.intro i73 ?_
 cases h0:(decide (0≤id)) with
 |false =>
  have fh00:=lt_of h0;simp -implicitDefEqProofs only[go_sem,h0,fh00];exact Fini.ret rfl
 |true =>
 have fh00:=lt_of h0
 cases h1:(decide (id≤2147483647)) with
 |false =>
  have fh10:=gt_of h1;simp -implicitDefEqProofs only[go_sem,h0,fh00,h1,fh10];exact Fini.ret rfl
 |true =>
 have fh10:=gt_of h1;simp -implicitDefEqProofs only[go_sem,h0,fh00,h1,fh10];refine CO.intro i84 ?_;simp -implicitDefEqProofs only[go_sem];refine CO.intro i84 ?_;unfold emS
 cases h2:(txt.toList==(⟨#[]⟩:ByteArray).toList) with
 |false =>
  simp -implicitDefEqProofs only[go_sem,h2];exact Fini.ret rfl
 |true =>
 simp -implicitDefEqProofs only[go_sem,h2];refine CO.intro i83 ?_;unfold clkB
 cases h3:(decide (((st:Nat):Int)≤1099511627776)) with
 |false =>
  have fh30:=gt_of h3;simp -implicitDefEqProofs only[go_sem,h3,fh30];exact Fini.ret rfl
 |true =>
 have fh30:=gt_of h3
 cases h4:(decide (((en:Nat):Int)≤1099511627776)) with
 |false =>
  have fh40:=gt_of h4;simp -implicitDefEqProofs only[go_sem,h3,fh30,h4,fh40];exact Fini.ret rfl
 |true =>
 have fh40:=gt_of h4;simp -implicitDefEqProofs only[go_sem,h3,fh30,h4,fh40];refine CO.intro i90 ?_
 cases h5:(sta==0) with
 |false =>
  have fh50:=ne_of h5;simp -implicitDefEqProofs only[go_sem,h5,fh50];exact Fini.ret rfl
 |true =>
 have fh50:=ne_of h5
 cases h6:(decide (0≤sta)) with
 |false =>
  have fh60:=lt_of h6;simp -implicitDefEqProofs only[go_sem,h5,fh50,h6,fh60];exact Fini.ret rfl
 |true =>
 have fh60:=lt_of h6
 cases h7:(decide (sta≤3)) with
 |false =>
  have fh70:=gt_of h7;simp -implicitDefEqProofs only[go_sem,h5,fh50,h6,fh60,h7,fh70];exact Fini.ret rfl
 |true =>
 have fh70:=gt_of h7;simp -implicitDefEqProofs only[go_sem,h5,fh50,h6,fh60,h7,fh70];refine CO.intro i77 ?_;simp -implicitDefEqProofs only[go_sem];refine CO.intro i83 ?_;have hl:(((mt.length:Nat):Int)==0)= !(!emI mt.length):=by rw[Bool.not_not];rfl
 cases hm0:(!emI mt.length) with
 |false =>
  rw[hm0]at hl;simp -implicitDefEqProofs only[go_sem,hl];exact Fini.ret rfl
 |true =>
 rw[hm0]at hl;simp -implicitDefEqProofs only[go_sem,hl];refine CO.intro b1 ?_
 cases h8:(listB mt) with
 |false =>
  simp -implicitDefEqProofs only[go_sem];exact Fini.ret rfl
 |true =>
 simp -implicitDefEqProofs only[go_sem];refine CO.intro i66 ?_;simp -implicitDefEqProofs only[go_sem];refine CO.intro b3 ?_
 cases h9:(mayB any lo hi) with
 |false =>
  simp -implicitDefEqProofs only[go_sem];exact Fini.ret rfl
 |true =>
 simp -implicitDefEqProofs only[go_sem];refine CO.intro i82 ?_;simp -implicitDefEqProofs only[go_sem];refine CO.intro i82 ?_;simp -implicitDefEqProofs only[go_sem];refine CO.intro b5 ?_
 cases h10:(noRl ⟨src,tgt,ra,rl,rh,eq⟩) with
 |false =>
  simp -implicitDefEqProofs only[go_sem];exact Fini.ret rfl
 |true =>
 simp -implicitDefEqProofs only[go_sem];refine CO.intro i76 ?_;unfold emI zF
 cases h11:(((ls.length:Nat):Int)==0) with
 |false =>
  simp -implicitDefEqProofs only[go_sem,h11];exact Fini.ret rfl
 |true =>
 simp -implicitDefEqProofs only[go_sem,h11];refine CO.intro b7 ?_;simp -implicitDefEqProofs only[go_sem];exact Fini.ret rfl
end
section
variable (σ:St)
set_option maxHeartbeats 8000000 in
theorem zfw (r:ReM) (hr:ReSm r) (hd:dOf r.op=S8):Ans Tryz.prog 89 [reV r] σ (Bo (docB r S8)) σ:=by
 obtain⟨tok,op,id,txt,st,en,sta,mt,any,lo,hi,⟨src,tgt,ra,rl,rh,eq⟩,ls,val⟩:=r;obtain⟨hm,hru,hls⟩:=hr;simp only at hm hru hls hd;have k1:=z0r σ op;rw[hd]at k1;have ii:=fun c h=>z2y σ S8 c h
 have i73:=ii 73 (by decide)
 have i84:=ii 84 (by decide)
 have i83:=ii 83 (by decide)
 have i90:=ii 90 (by decide)
 have i77:=ii 77 (by decide)
 have i66:=ii 66 (by decide)
 have i82:=ii 82 (by decide)
 have i76:=ii 76 (by decide)
 simp only[hc_8]at i73 i84 i83 i90 i77 i66 i82 i76;have b0:=z2k σ txt;have b1:=z1o σ mt hm;have b2:=z1v σ (any,lo,hi);have b3:=z29 σ any lo hi;have b4:=z1U σ ⟨src,tgt,ra,rl,rh,eq⟩ hru;have b5:=z1K σ ⟨src,tgt,ra,rl,rh,eq⟩;have b6:=z2l σ ls hls;have b7:=z0D σ val;unfold bandV at b2;unfold ruV at b4 b5;unfold docB;simp only[hc_8,Bool.true_or,Bool.false_or,Bool.not_true,Bool.not_false,Bool.true_and,if_true,Bool.false_eq_true,if_false];refine Ans.of_run t89 ?_;unfold reV reC;simp -implicitDefEqProofs only[c89,r89,go_sem];refine CO.intro k1 ?_;simp -implicitDefEqProofs only[go_sem];refine CO.intro i73 ?_
 cases h0:(id==0) with
 |false =>
  have fh00:=ne_of h0;simp -implicitDefEqProofs only[go_sem,h0,fh00];exact Fini.ret rfl
 |true =>
 have fh00:=ne_of h0
 cases h1:(decide (0≤id)) with
 |false =>
  have fh10:=lt_of h1;simp -implicitDefEqProofs only[go_sem,h0,fh00,h1,fh10];exact Fini.ret rfl
 |true =>
 have fh10:=lt_of h1
 cases h2:(decide (id≤2147483647)) with
 |false =>
  have fh20:=gt_of h2;simp -implicitDefEqProofs only[go_sem,h0,fh00,h1,fh10,h2,fh20];exact Fini.ret rfl
 |true =>
 have fh20:=gt_of h2;simp -implicitDefEqProofs only[go_sem,h0,fh00,h1,fh10,h2,fh20];refine CO.intro i84 ?_;simp -implicitDefEqProofs only[go_sem];refine CO.intro i84 ?_;unfold emS
 cases h3:(txt.toList==(⟨#[]⟩:ByteArray).toList) with
 |false =>
  simp -implicitDefEqProofs only[go_sem,h3];exact Fini.ret rfl
 |true =>
 simp -implicitDefEqProofs only[go_sem,h3];refine CO.intro i83 ?_;unfold emU
 cases h4:(((st:Nat):Int)==0) with
 |false =>
  have fh40:=ne_of h4;simp -implicitDefEqProofs only[go_sem,h4,fh40];exact Fini.ret rfl
 |true =>
 have fh40:=ne_of h4
 cases h5:(((en:Nat):Int)==0) with
 |false =>
  have fh50:=ne_of h5;simp -implicitDefEqProofs only[go_sem,h4,fh40,h5,fh50];exact Fini.ret rfl
 |true =>
 have fh50:=ne_of h5;unfold clkB
 cases h6:(decide (((st:Nat):Int)≤1099511627776)) with
 |false =>
  have fh60:=gt_of h6;simp -implicitDefEqProofs only[go_sem,h4,fh40,h5,fh50,h6,fh60];exact Fini.ret rfl
 |true =>
 have fh60:=gt_of h6
 cases h7:(decide (((en:Nat):Int)≤1099511627776)) with
 |false =>
  have fh70:=gt_of h7;simp -implicitDefEqProofs only[go_sem,h4,fh40,h5,fh50,h6,fh60,h7,fh70];exact Fini.ret rfl
 |true =>
 have fh70:=gt_of h7;simp -implicitDefEqProofs only[go_sem,h4,fh40,h5,fh50,h6,fh60,h7,fh70];refine CO.intro i90 ?_
 cases h8:(decide (0≤sta)) with
 |false =>
  have fh80:=lt_of h8;simp -implicitDefEqProofs only[go_sem,h8,fh80];exact Fini.ret rfl
 |true =>
 have fh80:=lt_of h8
 cases h9:(decide (sta≤3)) with
 |false =>
  have fh90:=gt_of h9;simp -implicitDefEqProofs only[go_sem,h8,fh80,h9,fh90];exact Fini.ret rfl
 |true =>
 have fh90:=gt_of h9;simp -implicitDefEqProofs only[go_sem,h8,fh80,h9,fh90];refine CO.intro i77 ?_;have hl:=z5e mt.length
 cases hm0:(emI mt.length) with
 |false =>
  rw[hm0]at hl;simp -implicitDefEqProofs only[go_sem,hl];exact Fini.ret rfl
 |true =>
 rw[hm0]at hl;simp -implicitDefEqProofs only[go_sem,hl];refine CO.intro i83 ?_;simp -implicitDefEqProofs only[go_sem];refine CO.intro b1 ?_
 cases h10:(listB mt) with
 |false =>
  simp -implicitDefEqProofs only[go_sem];exact Fini.ret rfl
 |true =>
 simp -implicitDefEqProofs only[go_sem];refine CO.intro i66 ?_;simp -implicitDefEqProofs only[go_sem];refine CO.intro b2 ?_
 cases h11:(noBd (any,lo,hi)) with
 |false =>
  simp -implicitDefEqProofs only[go_sem];exact Fini.ret rfl
 |true =>
 simp -implicitDefEqProofs only[go_sem];refine CO.intro b3 ?_
 cases h12:(mayB any lo hi) with
 |false =>
  simp -implicitDefEqProofs only[go_sem];exact Fini.ret rfl
 |true =>
 simp -implicitDefEqProofs only[go_sem];refine CO.intro i82 ?_;simp -implicitDefEqProofs only[go_sem];refine CO.intro i82 ?_;simp -implicitDefEqProofs only[go_sem];refine CO.intro b5 ?_
 cases h13:(noRl ⟨src,tgt,ra,rl,rh,eq⟩) with
 |false =>
  simp -implicitDefEqProofs only[go_sem];exact Fini.ret rfl
 |true =>
 simp -implicitDefEqProofs only[go_sem];refine CO.intro i76 ?_;unfold emI zF
 cases h14:(((ls.length:Nat):Int)==0) with
 |false =>
  simp -implicitDefEqProofs only[go_sem,h14];exact Fini.ret rfl
 |true =>
 simp -implicitDefEqProofs only[go_sem,h14];refine CO.intro b7 ?_;simp -implicitDefEqProofs only[go_sem];exact Fini.ret rfl
set_option maxHeartbeats 8000000 in
theorem zbY (r:ReM) (hr:ReSm r) (hd:dOf r.op=S128):Ans Tryz.prog 89 [reV r] σ (Bo (docB r S128)) σ:=by
 obtain⟨tok,op,id,txt,st,en,sta,mt,any,lo,hi,⟨src,tgt,ra,rl,rh,eq⟩,ls,val⟩:=r;obtain⟨hm,hru,hls⟩:=hr;simp only at hm hru hls hd;have k1:=z0r σ op;rw[hd]at k1;have ii:=fun c h=>z2y σ S128 c h
 have i73:=ii 73 (by decide)
 have i84:=ii 84 (by decide)
 have i83:=ii 83 (by decide)
 have i90:=ii 90 (by decide)
 have i77:=ii 77 (by decide)
 have i66:=ii 66 (by decide)
 have i82:=ii 82 (by decide)
 have i76:=ii 76 (by decide)
 simp only[zdW]at i73 i84 i83 i90 i77 i66 i82 i76;have b0:=z2k σ txt;have b1:=z1o σ mt hm;have b2:=z1v σ (any,lo,hi);have b3:=z29 σ any lo hi;have b4:=z1U σ ⟨src,tgt,ra,rl,rh,eq⟩ hru;have b5:=z1K σ ⟨src,tgt,ra,rl,rh,eq⟩;have b6:=z2l σ ls hls;have b7:=z0D σ val;unfold bandV at b2;unfold ruV at b4 b5;unfold docB;simp only[zdW,Bool.true_or,Bool.false_or,Bool.not_true,Bool.not_false,Bool.true_and,if_true,Bool.false_eq_true,if_false];refine Ans.of_run t89 ?_;unfold reV reC;simp -implicitDefEqProofs only[c89,r89,go_sem];refine CO.intro k1 ?_;simp -implicitDefEqProofs only[go_sem];refine CO.intro i73 ?_
 cases h0:(id==0) with
 |false =>
  have fh00:=ne_of h0;simp -implicitDefEqProofs only[go_sem,h0,fh00];exact Fini.ret rfl
 |true =>
 have fh00:=ne_of h0
 cases h1:(decide (0≤id)) with
 |false =>
  have fh10:=lt_of h1;simp -implicitDefEqProofs only[go_sem,h0,fh00,h1,fh10];exact Fini.ret rfl
 |true =>
 have fh10:=lt_of h1
 cases h2:(decide (id≤2147483647)) with
 |false =>
  have fh20:=gt_of h2;simp -implicitDefEqProofs only[go_sem,h0,fh00,h1,fh10,h2,fh20];exact Fini.ret rfl
 |true =>
 have fh20:=gt_of h2;simp -implicitDefEqProofs only[go_sem,h0,fh00,h1,fh10,h2,fh20];refine CO.intro i84 ?_;simp -implicitDefEqProofs only[go_sem];refine CO.intro i84 ?_;unfold emS
 cases h3:(txt.toList==(⟨#[]⟩:ByteArray).toList) with
 |false =>
  simp -implicitDefEqProofs only[go_sem,h3];exact Fini.ret rfl
 |true =>
 simp -implicitDefEqProofs only[go_sem,h3];refine CO.intro i83 ?_;unfold emU
 cases h4:(((st:Nat):Int)==0) with
 |false =>
  have fh40:=ne_of h4;simp -implicitDefEqProofs only[go_sem,h4,fh40];exact Fini.ret rfl
 |true =>
 have fh40:=ne_of h4
 cases h5:(((en:Nat):Int)==0) with
 |false =>
  have fh50:=ne_of h5;simp -implicitDefEqProofs only[go_sem,h4,fh40,h5,fh50];exact Fini.ret rfl
 |true =>
 have fh50:=ne_of h5;unfold clkB
 cases h6:(decide (((st:Nat):Int)≤1099511627776)) with
 |false =>
  have fh60:=gt_of h6;simp -implicitDefEqProofs only[go_sem,h4,fh40,h5,fh50,h6,fh60];exact Fini.ret rfl
 |true =>
 have fh60:=gt_of h6
 cases h7:(decide (((en:Nat):Int)≤1099511627776)) with
 |false =>
  have fh70:=gt_of h7;simp -implicitDefEqProofs only[go_sem,h4,fh40,h5,fh50,h6,fh60,h7,fh70];exact Fini.ret rfl
 |true =>
 have fh70:=gt_of h7;simp -implicitDefEqProofs only[go_sem,h4,fh40,h5,fh50,h6,fh60,h7,fh70];refine CO.intro i90 ?_
 cases h8:(sta==0) with
 |false =>
  have fh80:=ne_of h8;simp -implicitDefEqProofs only[go_sem,h8,fh80];exact Fini.ret rfl
 |true =>
 have fh80:=ne_of h8
 cases h9:(decide (0≤sta)) with
 |false =>
  have fh90:=lt_of h9;simp -implicitDefEqProofs only[go_sem,h8,fh80,h9,fh90];exact Fini.ret rfl
 |true =>
 have fh90:=lt_of h9
 cases h10:(decide (sta≤3)) with
 |false =>
  have fh100:=gt_of h10;simp -implicitDefEqProofs only[go_sem,h8,fh80,h9,fh90,h10,fh100];exact Fini.ret rfl
 |true =>
 have fh100:=gt_of h10;simp -implicitDefEqProofs only[go_sem,h8,fh80,h9,fh90,h10,fh100];refine CO.intro i77 ?_;have hl:=z5e mt.length
 cases hm0:(emI mt.length) with
 |false =>
  rw[hm0]at hl;simp -implicitDefEqProofs only[go_sem,hl];exact Fini.ret rfl
 |true =>
 rw[hm0]at hl;simp -implicitDefEqProofs only[go_sem,hl];refine CO.intro i83 ?_;simp -implicitDefEqProofs only[go_sem];refine CO.intro b1 ?_
 cases h11:(listB mt) with
 |false =>
  simp -implicitDefEqProofs only[go_sem];exact Fini.ret rfl
 |true =>
 simp -implicitDefEqProofs only[go_sem];refine CO.intro i66 ?_;simp -implicitDefEqProofs only[go_sem];refine CO.intro b2 ?_
 cases h12:(noBd (any,lo,hi)) with
 |false =>
  simp -implicitDefEqProofs only[go_sem];exact Fini.ret rfl
 |true =>
 simp -implicitDefEqProofs only[go_sem];refine CO.intro b3 ?_
 cases h13:(mayB any lo hi) with
 |false =>
  simp -implicitDefEqProofs only[go_sem];exact Fini.ret rfl
 |true =>
 simp -implicitDefEqProofs only[go_sem];refine CO.intro i82 ?_;simp -implicitDefEqProofs only[go_sem];refine CO.intro b4 ?_
 cases h14:(ruIs ⟨src,tgt,ra,rl,rh,eq⟩) with
 |false =>
  simp -implicitDefEqProofs only[go_sem];exact Fini.ret rfl
 |true =>
 simp -implicitDefEqProofs only[go_sem];refine CO.intro i82 ?_;simp -implicitDefEqProofs only[go_sem];refine CO.intro i76 ?_;unfold emI zF
 cases h15:(((ls.length:Nat):Int)==0) with
 |false =>
  simp -implicitDefEqProofs only[go_sem,h15];exact Fini.ret rfl
 |true =>
 simp -implicitDefEqProofs only[go_sem,h15];refine CO.intro b7 ?_;simp -implicitDefEqProofs only[go_sem];exact Fini.ret rfl
end
section
variable (σ:St)
set_option maxHeartbeats 8000000 in
theorem zbZ (r:ReM) (hr:ReSm r) (hd:dOf r.op=S768):Ans Tryz.prog 89 [reV r] σ (Bo (docB r S768)) σ:=by
 obtain⟨tok,op,id,txt,st,en,sta,mt,any,lo,hi,⟨src,tgt,ra,rl,rh,eq⟩,ls,val⟩:=r;obtain⟨hm,hru,hls⟩:=hr;simp only at hm hru hls hd;have k1:=z0r σ op;rw[hd]at k1;have ii:=fun c h=>z2y σ S768 c h
 have i73:=ii 73 (by decide)
 have i84:=ii 84 (by decide)
 have i83:=ii 83 (by decide)
 have i90:=ii 90 (by decide)
 have i77:=ii 77 (by decide)
 have i66:=ii 66 (by decide)
 have i82:=ii 82 (by decide)
 have i76:=ii 76 (by decide)
 simp only[zdX]at i73 i84 i83 i90 i77 i66 i82 i76;have b0:=z2k σ txt;have b1:=z1o σ mt hm;have b2:=z1v σ (any,lo,hi);have b3:=z29 σ any lo hi;have b4:=z1U σ ⟨src,tgt,ra,rl,rh,eq⟩ hru;have b5:=z1K σ ⟨src,tgt,ra,rl,rh,eq⟩;have b6:=z2l σ ls hls;have b7:=z0D σ val;unfold bandV at b2;unfold ruV at b4 b5;unfold docB;simp only[zdX,Bool.true_or,Bool.false_or,Bool.not_true,Bool.not_false,Bool.true_and,if_true,Bool.false_eq_true,if_false];refine Ans.of_run t89 ?_;unfold reV reC;simp -implicitDefEqProofs only[c89,r89,go_sem];refine CO.intro k1 ?_;simp -implicitDefEqProofs only[go_sem];refine CO.intro i73 ?_
 cases h0:(id==0) with
 |false =>
  have fh00:=ne_of h0;simp -implicitDefEqProofs only[go_sem,h0,fh00];exact Fini.ret rfl
 |true =>
 have fh00:=ne_of h0
 cases h1:(decide (0≤id)) with
 |false =>
  have fh10:=lt_of h1;simp -implicitDefEqProofs only[go_sem,h0,fh00,h1,fh10];exact Fini.ret rfl
 |true =>
 have fh10:=lt_of h1
 cases h2:(decide (id≤2147483647)) with
 |false =>
  have fh20:=gt_of h2;simp -implicitDefEqProofs only[go_sem,h0,fh00,h1,fh10,h2,fh20];exact Fini.ret rfl
 |true =>
 have fh20:=gt_of h2;simp -implicitDefEqProofs only[go_sem,h0,fh00,h1,fh10,h2,fh20];refine CO.intro i84 ?_;simp -implicitDefEqProofs only[go_sem];refine CO.intro i84 ?_;unfold emS
 cases h3:(txt.toList==(⟨#[]⟩:ByteArray).toList) with
 |false =>
  simp -implicitDefEqProofs only[go_sem,h3];exact Fini.ret rfl
 |true =>
 simp -implicitDefEqProofs only[go_sem,h3];refine CO.intro i83 ?_;unfold emU
 cases h4:(((st:Nat):Int)==0) with
 |false =>
  have fh40:=ne_of h4;simp -implicitDefEqProofs only[go_sem,h4,fh40];exact Fini.ret rfl
 |true =>
 have fh40:=ne_of h4
 cases h5:(((en:Nat):Int)==0) with
 |false =>
  have fh50:=ne_of h5;simp -implicitDefEqProofs only[go_sem,h4,fh40,h5,fh50];exact Fini.ret rfl
 |true =>
 have fh50:=ne_of h5;unfold clkB
 cases h6:(decide (((st:Nat):Int)≤1099511627776)) with
 |false =>
  have fh60:=gt_of h6;simp -implicitDefEqProofs only[go_sem,h4,fh40,h5,fh50,h6,fh60];exact Fini.ret rfl
 |true =>
 have fh60:=gt_of h6
 cases h7:(decide (((en:Nat):Int)≤1099511627776)) with
 |false =>
  have fh70:=gt_of h7;simp -implicitDefEqProofs only[go_sem,h4,fh40,h5,fh50,h6,fh60,h7,fh70];exact Fini.ret rfl
 |true =>
 have fh70:=gt_of h7;simp -implicitDefEqProofs only[go_sem,h4,fh40,h5,fh50,h6,fh60,h7,fh70];refine CO.intro i90 ?_
 cases h8:(sta==0) with
 |false =>
  have fh80:=ne_of h8;simp -implicitDefEqProofs only[go_sem,h8,fh80];exact Fini.ret rfl
 |true =>
 have fh80:=ne_of h8
 cases h9:(decide (0≤sta)) with
 |false =>
  have fh90:=lt_of h9;simp -implicitDefEqProofs only[go_sem,h8,fh80,h9,fh90];exact Fini.ret rfl
 |true =>
 have fh90:=lt_of h9
 cases h10:(decide (sta≤3)) with
 |false =>
  have fh100:=gt_of h10;simp -implicitDefEqProofs only[go_sem,h8,fh80,h9,fh90,h10,fh100];exact Fini.ret rfl
 |true =>
 have fh100:=gt_of h10;simp -implicitDefEqProofs only[go_sem,h8,fh80,h9,fh90,h10,fh100];refine CO.intro i77 ?_;have hl:=z5e mt.length
 cases hm0:(emI mt.length) with
 |false =>
  rw[hm0]at hl;simp -implicitDefEqProofs only[go_sem,hl];exact Fini.ret rfl
 |true =>
 rw[hm0]at hl;simp -implicitDefEqProofs only[go_sem,hl];refine CO.intro i83 ?_;simp -implicitDefEqProofs only[go_sem];refine CO.intro b1 ?_
 cases h11:(listB mt) with
 |false =>
  simp -implicitDefEqProofs only[go_sem];exact Fini.ret rfl
 |true =>
 simp -implicitDefEqProofs only[go_sem];refine CO.intro i66 ?_;simp -implicitDefEqProofs only[go_sem];refine CO.intro b2 ?_
 cases h12:(noBd (any,lo,hi)) with
 |false =>
  simp -implicitDefEqProofs only[go_sem];exact Fini.ret rfl
 |true =>
 simp -implicitDefEqProofs only[go_sem];refine CO.intro b3 ?_
 cases h13:(mayB any lo hi) with
 |false =>
  simp -implicitDefEqProofs only[go_sem];exact Fini.ret rfl
 |true =>
 simp -implicitDefEqProofs only[go_sem];refine CO.intro i82 ?_;simp -implicitDefEqProofs only[go_sem];refine CO.intro i82 ?_;simp -implicitDefEqProofs only[go_sem];refine CO.intro b5 ?_
 cases h14:(noRl ⟨src,tgt,ra,rl,rh,eq⟩) with
 |false =>
  simp -implicitDefEqProofs only[go_sem];exact Fini.ret rfl
 |true =>
 simp -implicitDefEqProofs only[go_sem];refine CO.intro i76 ?_;simp -implicitDefEqProofs only[go_sem];refine CO.intro b6 ?_;simp -implicitDefEqProofs only[go_sem];exact Fini.ret rfl
set_option maxHeartbeats 8000000 in
theorem zdY (r:ReM) (hr:ReSm r) (hd:dOf r.op=S16):Ans Tryz.prog 89 [reV r] σ (Bo (docB r S16)) σ:=by
 obtain⟨tok,op,id,txt,st,en,sta,mt,any,lo,hi,⟨src,tgt,ra,rl,rh,eq⟩,ls,val⟩:=r;obtain⟨hm,hru,hls⟩:=hr;simp only at hm hru hls hd;have k1:=z0r σ op;rw[hd]at k1;have ii:=fun c h=>z2y σ S16 c h
 have i73:=ii 73 (by decide)
 have i84:=ii 84 (by decide)
 have i83:=ii 83 (by decide)
 have i90:=ii 90 (by decide)
 have i77:=ii 77 (by decide)
 have i66:=ii 66 (by decide)
 have i82:=ii 82 (by decide)
 have i76:=ii 76 (by decide)
 simp only[hc_16]at i73 i84 i83 i90 i77 i66 i82 i76;have b0:=z2k σ txt;have b1:=z1o σ mt hm;have b2:=z1v σ (any,lo,hi);have b3:=z29 σ any lo hi;have b4:=z1U σ ⟨src,tgt,ra,rl,rh,eq⟩ hru;have b5:=z1K σ ⟨src,tgt,ra,rl,rh,eq⟩;have b6:=z2l σ ls hls;have b7:=z0D σ val;unfold bandV at b2;unfold ruV at b4 b5;unfold docB;simp only[hc_16,Bool.true_or,Bool.false_or,Bool.not_true,Bool.not_false,Bool.true_and,if_true,Bool.false_eq_true,if_false];refine Ans.of_run t89 ?_;unfold reV reC;simp -implicitDefEqProofs only[c89,r89,go_sem];refine CO.intro k1 ?_;simp -implicitDefEqProofs only[go_sem];refine CO.intro i73 ?_
 cases h0:(id==0) with
 |false =>
  have fh00:=ne_of h0;simp -implicitDefEqProofs only[go_sem,h0,fh00];exact Fini.ret rfl
 |true =>
 have fh00:=ne_of h0
 cases h1:(decide (0≤id)) with
 |false =>
  have fh10:=lt_of h1;simp -implicitDefEqProofs only[go_sem,h0,fh00,h1,fh10];exact Fini.ret rfl
 |true =>
 have fh10:=lt_of h1
 cases h2:(decide (id≤2147483647)) with
 |false =>
  have fh20:=gt_of h2;simp -implicitDefEqProofs only[go_sem,h0,fh00,h1,fh10,h2,fh20];exact Fini.ret rfl
 |true =>
 have fh20:=gt_of h2;simp -implicitDefEqProofs only[go_sem,h0,fh00,h1,fh10,h2,fh20];refine CO.intro i84 ?_;simp -implicitDefEqProofs only[go_sem];refine CO.intro i84 ?_;unfold emS
 cases h3:(txt.toList==(⟨#[]⟩:ByteArray).toList) with
 |false =>
  simp -implicitDefEqProofs only[go_sem,h3];exact Fini.ret rfl
 |true =>
 simp -implicitDefEqProofs only[go_sem,h3];refine CO.intro i83 ?_;unfold emU
 cases h4:(((st:Nat):Int)==0) with
 |false =>
  have fh40:=ne_of h4;simp -implicitDefEqProofs only[go_sem,h4,fh40];exact Fini.ret rfl
 |true =>
 have fh40:=ne_of h4
 cases h5:(((en:Nat):Int)==0) with
 |false =>
  have fh50:=ne_of h5;simp -implicitDefEqProofs only[go_sem,h4,fh40,h5,fh50];exact Fini.ret rfl
 |true =>
 have fh50:=ne_of h5;unfold clkB
 cases h6:(decide (((st:Nat):Int)≤1099511627776)) with
 |false =>
  have fh60:=gt_of h6;simp -implicitDefEqProofs only[go_sem,h4,fh40,h5,fh50,h6,fh60];exact Fini.ret rfl
 |true =>
 have fh60:=gt_of h6
 cases h7:(decide (((en:Nat):Int)≤1099511627776)) with
 |false =>
  have fh70:=gt_of h7;simp -implicitDefEqProofs only[go_sem,h4,fh40,h5,fh50,h6,fh60,h7,fh70];exact Fini.ret rfl
 |true =>
 have fh70:=gt_of h7;simp -implicitDefEqProofs only[go_sem,h4,fh40,h5,fh50,h6,fh60,h7,fh70];refine CO.intro i90 ?_
 cases h8:(sta==0) with
 |false =>
  have fh80:=ne_of h8;simp -implicitDefEqProofs only[go_sem,h8,fh80];exact Fini.ret rfl
 |true =>
 have fh80:=ne_of h8
 cases h9:(decide (0≤sta)) with
 |false =>
  have fh90:=lt_of h9;simp -implicitDefEqProofs only[go_sem,h8,fh80,h9,fh90];exact Fini.ret rfl
 |true =>
 have fh90:=lt_of h9
 cases h10:(decide (sta≤3)) with
 |false =>
  have fh100:=gt_of h10;simp -implicitDefEqProofs only[go_sem,h8,fh80,h9,fh90,h10,fh100];exact Fini.ret rfl
 |true =>
 have fh100:=gt_of h10;simp -implicitDefEqProofs only[go_sem,h8,fh80,h9,fh90,h10,fh100];refine CO.intro i77 ?_;simp -implicitDefEqProofs only[go_sem];refine CO.intro i83 ?_;simp -implicitDefEqProofs only[go_sem];refine CO.intro b1 ?_
 cases h11:(listB mt) with
 |false =>
  simp -implicitDefEqProofs only[go_sem];exact Fini.ret rfl
 |true =>
 simp -implicitDefEqProofs only[go_sem];refine CO.intro i66 ?_;simp -implicitDefEqProofs only[go_sem];refine CO.intro b2 ?_
 cases h12:(noBd (any,lo,hi)) with
 |false =>
  simp -implicitDefEqProofs only[go_sem];exact Fini.ret rfl
 |true =>
 simp -implicitDefEqProofs only[go_sem];refine CO.intro b3 ?_
 cases h13:(mayB any lo hi) with
 |false =>
  simp -implicitDefEqProofs only[go_sem];exact Fini.ret rfl
 |true =>
 simp -implicitDefEqProofs only[go_sem];refine CO.intro i82 ?_;simp -implicitDefEqProofs only[go_sem];refine CO.intro i82 ?_;simp -implicitDefEqProofs only[go_sem];refine CO.intro b5 ?_
 cases h14:(noRl ⟨src,tgt,ra,rl,rh,eq⟩) with
 |false =>
  simp -implicitDefEqProofs only[go_sem];exact Fini.ret rfl
 |true =>
 simp -implicitDefEqProofs only[go_sem];refine CO.intro i76 ?_;unfold emI zF
 cases h15:(((ls.length:Nat):Int)==0) with
 |false =>
  simp -implicitDefEqProofs only[go_sem,h15];exact Fini.ret rfl
 |true =>
 simp -implicitDefEqProofs only[go_sem,h15];refine CO.intro b7 ?_;simp -implicitDefEqProofs only[go_sem];exact Fini.ret rfl
end
theorem z2z (x:Bnd) (h:noBd x=true):mayB x.1 x.2.1 x.2.2=true:=by
 obtain⟨a,lo,hi⟩:=x;unfold noBd zF at h;simp only[Bool.and_eq_true,Bool.not_eq_true',beq_iff_eq]at h;obtain⟨rfl,h1,h2⟩:=h;have e1:=z3m (Int.ofNat.inj h1);have e2:=z3m (Int.ofNat.inj h2);subst e1 e2
 decide +kernel
theorem z5t (r:ReM):(zeroB r 0&&z0c r 0)=docB r S0:=by
 have hb:=z2z (r.any,r.lo,r.hi);unfold zeroB z0c docB idR staR;simp only[hs_0,hc_0,Bool.true_or,Bool.false_or,Bool.not_true,Bool.not_false,Bool.true_and,if_true,Bool.false_eq_true,if_false,Bool.and_assoc];rw[Bool.eq_iff_iff];simp only[Bool.and_eq_true];simp only at hb;constructor
 · intro h;simp only[h,hb,and_self,true_and,and_true]
 · intro h;simp only[h,hb,and_self,true_and,and_true]
theorem z4J (r:ReM):(zeroB r 1&&z0c r 1)=docB r S1:=by
 have hb:=z2z (r.any,r.lo,r.hi);unfold zeroB z0c docB idR staR;simp only[hs_1,hc_1,Bool.true_or,Bool.false_or,Bool.not_true,Bool.not_false,Bool.true_and,if_true,Bool.false_eq_true,if_false,Bool.and_assoc];rw[Bool.eq_iff_iff];simp only[Bool.and_eq_true];simp only at hb;constructor
 · intro h;simp only[h,hb,and_self,true_and,and_true]
 · intro h;simp only[h,hb,and_self,true_and,and_true]
theorem zb0 (r:ReM):(zeroB r 3&&z0c r 3)=docB r S3:=by
 have hb:=z2z (r.any,r.lo,r.hi);unfold zeroB z0c docB idR staR;simp only[hs_3,hc_3,Bool.true_or,Bool.false_or,Bool.not_true,Bool.not_false,Bool.true_and,if_true,Bool.false_eq_true,if_false,Bool.and_assoc];rw[Bool.eq_iff_iff];simp only[Bool.and_eq_true];simp only at hb;constructor
 · intro h;simp only[h,hb,and_self,true_and,and_true]
 · intro h;simp only[h,hb,and_self,true_and,and_true]
theorem zc0 (r:ReM):(zeroB r 116&&z0c r 116)=docB r S116:=by
 have hb:=z2z (r.any,r.lo,r.hi);unfold zeroB z0c docB idR staR;simp only[z78,zdU,Bool.true_or,Bool.false_or,Bool.not_true,Bool.not_false,Bool.true_and,if_true,Bool.false_eq_true,if_false,Bool.and_assoc];rw[Bool.eq_iff_iff];simp only[Bool.and_eq_true];simp only at hb;constructor
 · intro h;simp only[h,hb,and_self,true_and,and_true]
 · intro h;simp only[h,hb,and_self,true_and,and_true]
theorem zc1 (r:ReM):(zeroB r 117&&z0c r 117)=docB r S117:=by
 have hb:=z2z (r.any,r.lo,r.hi);unfold zeroB z0c docB idR staR;simp only[z79,zdV,Bool.true_or,Bool.false_or,Bool.not_true,Bool.not_false,Bool.true_and,if_true,Bool.false_eq_true,if_false,Bool.and_assoc];rw[Bool.eq_iff_iff];simp only[Bool.and_eq_true];simp only at hb;constructor
 · intro h;simp only[h,hb,and_self,true_and,and_true]
 · intro h;simp only[h,hb,and_self,true_and,and_true]
theorem zfx (r:ReM):(zeroB r 8&&z0c r 8)=docB r S8:=by
 have hb:=z2z (r.any,r.lo,r.hi);unfold zeroB z0c docB idR staR;simp only[hs_8,hc_8,Bool.true_or,Bool.false_or,Bool.not_true,Bool.not_false,Bool.true_and,if_true,Bool.false_eq_true,if_false,Bool.and_assoc];rw[Bool.eq_iff_iff];simp only[Bool.and_eq_true];simp only at hb;constructor
 · intro h;simp only[h,hb,and_self,true_and,and_true]
 · intro h;simp only[h,hb,and_self,true_and,and_true]
theorem zc2 (r:ReM):(zeroB r 128&&z0c r 128)=docB r S128:=by
 have hb:=z2z (r.any,r.lo,r.hi);unfold zeroB z0c docB idR staR;simp only[hs_128,zdW,Bool.true_or,Bool.false_or,Bool.not_true,Bool.not_false,Bool.true_and,if_true,Bool.false_eq_true,if_false,Bool.and_assoc];rw[Bool.eq_iff_iff];simp only[Bool.and_eq_true];simp only at hb;constructor
 · intro h;simp only[h,hb,and_self,true_and,and_true]
 · intro h;simp only[h,hb,and_self,true_and,and_true]
theorem zc3 (r:ReM):(zeroB r 768&&z0c r 768)=docB r S768:=by
 have hb:=z2z (r.any,r.lo,r.hi);unfold zeroB z0c docB idR staR;simp only[hs_768,zdX,Bool.true_or,Bool.false_or,Bool.not_true,Bool.not_false,Bool.true_and,if_true,Bool.false_eq_true,if_false,Bool.and_assoc];rw[Bool.eq_iff_iff];simp only[Bool.and_eq_true];simp only at hb;constructor
 · intro h;simp only[h,hb,and_self,true_and,and_true]
 · intro h;simp only[h,hb,and_self,true_and,and_true]
theorem zdZ (r:ReM):(zeroB r 16&&z0c r 16)=docB r S16:=by
 have hb:=z2z (r.any,r.lo,r.hi);unfold zeroB z0c docB idR staR;simp only[hs_16,hc_16,Bool.true_or,Bool.false_or,Bool.not_true,Bool.not_false,Bool.true_and,if_true,Bool.false_eq_true,if_false,Bool.and_assoc];rw[Bool.eq_iff_iff];simp only[Bool.and_eq_true];simp only at hb;constructor
 · intro h;simp only[h,hb,and_self,true_and,and_true]
 · intro h;simp only[h,hb,and_self,true_and,and_true]
section
variable (σ:St)
theorem z98 (r:ReM) (hd:dOf r.op=⟨#[]⟩):Ans Tryz.prog 89 [reV r] σ (Bo false) σ:=by
 have k1:=z0r σ r.op;rw[hd]at k1;have hn:((⟨#[]⟩:ByteArray).toList==(⟨#[]⟩:ByteArray).toList)=true:=by decide +kernel
 refine Ans.of_run t89 ?_;unfold reV reC;simp -implicitDefEqProofs only[c89,r89,go_sem];refine CO.intro k1 ?_;simp -implicitDefEqProofs only[go_sem,hn];exact Fini.ret rfl
theorem z1L (r:ReM) (hr:ReSm r):Ans Tryz.prog 89 [reV r] σ (Bo (mayR r)) σ:=by
 unfold mayR;rcases ops17 r.op with h|h|h|h|h|h|h|h|h|h|h|h|h|h|h|h|h|h
 · have e:fOf r.op=(0,true):=by rw[h];rfl
   rw[e];simp only[Bool.true_and];rw[z5t];exact z5s σ r hr (by rw[h];rfl)
 · have e:fOf r.op=(1,true):=by rw[h];rfl
   rw[e];simp only[Bool.true_and];rw[z4J];exact z4I σ r hr (by rw[h];rfl)
 · have e:fOf r.op=(3,true):=by rw[h];rfl
   rw[e];simp only[Bool.true_and];rw[zb0];exact zaZ σ r hr (by rw[h];rfl)
 · have e:fOf r.op=(3,true):=by rw[h];rfl
   rw[e];simp only[Bool.true_and];rw[zb0];exact zaZ σ r hr (by rw[h];rfl)
 · have e:fOf r.op=(116,true):=by rw[h];rfl
   rw[e];simp only[Bool.true_and];rw[zc0];exact zbW σ r hr (by rw[h];rfl)
 · have e:fOf r.op=(117,true):=by rw[h];rfl
   rw[e];simp only[Bool.true_and];rw[zc1];exact zbX σ r hr (by rw[h];rfl)
 · have e:fOf r.op=(1,true):=by rw[h];rfl
   rw[e];simp only[Bool.true_and];rw[z4J];exact z4I σ r hr (by rw[h];rfl)
 · have e:fOf r.op=(8,true):=by rw[h];rfl
   rw[e];simp only[Bool.true_and];rw[zfx];exact zfw σ r hr (by rw[h];rfl)
 · have e:fOf r.op=(128,true):=by rw[h];rfl
   rw[e];simp only[Bool.true_and];rw[zc2];exact zbY σ r hr (by rw[h];rfl)
 · have e:fOf r.op=(1,true):=by rw[h];rfl
   rw[e];simp only[Bool.true_and];rw[z4J];exact z4I σ r hr (by rw[h];rfl)
 · have e:fOf r.op=(768,true):=by rw[h];rfl
   rw[e];simp only[Bool.true_and];rw[zc3];exact zbZ σ r hr (by rw[h];rfl)
 · have e:fOf r.op=(1,true):=by rw[h];rfl
   rw[e];simp only[Bool.true_and];rw[z4J];exact z4I σ r hr (by rw[h];rfl)
 · have e:fOf r.op=(16,true):=by rw[h];rfl
   rw[e];simp only[Bool.true_and];rw[zdZ];exact zdY σ r hr (by rw[h];rfl)
 · have e:fOf r.op=(0,true):=by rw[h];rfl
   rw[e];simp only[Bool.true_and];rw[z5t];exact z5s σ r hr (by rw[h];rfl)
 · have e:fOf r.op=(1,true):=by rw[h];rfl
   rw[e];simp only[Bool.true_and];rw[z4J];exact z4I σ r hr (by rw[h];rfl)
 · have e:fOf r.op=(0,true):=by rw[h];rfl
   rw[e];simp only[Bool.true_and];rw[z5t];exact z5s σ r hr (by rw[h];rfl)
 · have e:fOf r.op=(0,true):=by rw[h];rfl
   rw[e];simp only[Bool.true_and];rw[z5t];exact z5s σ r hr (by rw[h];rfl)
 · rw[z8W h];exact z98 σ r (zdF h)
end
end Go.Proofs.YtmkmhhjkdaklbaaGreat
namespace Go.Ab
open Go
theorem L.step {P:Program} {n0:Nat} {clr:List Tmp} {x:ACode} {k:List Fr} {B:Bs} {env:Env} {σ:St}
  (h:∀J:Env→St→Prop,(∀env σ,L P n0 clr x k B env σ→J env σ)→R P n0 x (.loop J clr::k) B env σ):L P n0 clr x k B env σ:=by
 unfold L;intro I hI;refine hI _ _ (h I fun env' σ' hl=>?_)
 unfold L at hl;exact hl I hI
end Go.Ab
namespace Go.Proofs.YtmkmhhjkdaklbaaGreat
open Go Go.Ab Go.Cod
set_option maxRecDepth 100000
theorem z0S {σ:St} {p:Nat} {o:Ob} (h:σ[p]?=some o):σ.set p o=σ:=by
 obtain⟨hp,e⟩:=List.getElem?_eq_some_iff.1 h;rw[←e];exact List.set_getElem_self hp
theorem z7Q {M:Nat} {b:Byt} {u:Nat} {t:Byt} (h:numR M b=some (u,t)):getN 0 b=some (u,t)∧u≤M:=by
 simp only[numR]at h
 cases hg:getN 0 b with
 |none=>simp[hg]at h
 |some p =>
  simp only[hg,Option.bind_some]at h;split at h
  · simp only[Option.some.injEq]at h;subst h;exact⟨rfl,by assumption⟩
  · cases h
section
variable (σ:St) (p:Nat) (b:Byt) (hb:b.length≤50000)
include hb in
theorem z7R (c0 c1 c3 c4 c5 c6 c7 c8 c9 c10 c11 c12 c13 c14 c15 c16 c17 c18:AV) (h:σ[p]?=some (.box [c0,c1,I 0,c3,c4,c5,c6,c7,c8,c9,c10,c11,c12,c13,c14,c15,c16,c17,c18])) (hr:numR 1099511627776 b=none):Ans Tryz.prog 105 [.ptr p 0,.pl (.int .u8 73),.sl 1 (byv b)] σ (.tup [I 0,Bo false]) σ:=by
 have h9:=z0S h
 cases hg:getN 0 b with
 |none =>
  have k:=z1I σ b (by omega)
  rw[z13 hg]at k;have d:decide ((1099511627776:Int)<((0:Nat):Int))=false:=by decide
  have w0:IntKind.i64.wrap ((0:Nat):Int)=0:=rfl;refine Ans.of_run t105 ?_;simp -implicitDefEqProofs only[c105,r105,go_sem];refine CO.intro k ?_;simp -implicitDefEqProofs only[go_sem,d,w0,h];refine Fini.ret3 (n:=0) rfl rfl ?_;exact h9
 |some q =>
  obtain⟨u,t⟩:=q;have k:=z1I σ b (by omega)
  rw[z1a hg]at k
  have d:decide ((1099511627776:Int)<(u:Int))=true:=by
   have:¬u≤1099511627776:=fun hu=>by simp[numR,hg,hu]at hr
   simp;omega
  refine Ans.of_run t105 ?_;simp -implicitDefEqProofs only[c105,r105,go_sem];refine CO.intro k ?_;simp -implicitDefEqProofs only[go_sem,d];exact Fini.ret rfl
include hb in
theorem z7S (c0 c1 c2 c3 c4 c5 c6 c7 c8 c9 c10 c11 c12 c13 c14 c15 c16 c17 c18:AV) (h:σ[p]?=some (.box [c0,c1,c2,c3,c4,c5,c6,c7,c8,c9,c10,c11,c12,c13,c14,c15,c16,c17,c18])) (u:Nat) (t:Byt) (hr:numR 1099511627776 b=some (u,t)):Ans Tryz.prog 105 [.ptr p 0,.pl (.int .u8 73),.sl 1 (byv b)] σ (.tup [I (b.length-t.length:Nat),Bo true]) (σ.set p (.box [c0,c1,I (u:Nat),c3,c4,c5,c6,c7,c8,c9,c10,c11,c12,c13,c14,c15,c16,c17,c18])):=by
 have h9:=z0S h;obtain⟨hg,hu⟩:=z7Q hr;have k:=z1I σ b (by omega)
 rw[z1a hg]at k;have d:decide ((1099511627776:Int)<(u:Int))=false:=by simp;omega
 have wu:IntKind.i64.wrap (u:Int)=(u:Int):=wrapI (by omega)
 refine Ans.of_run t105 ?_;simp -implicitDefEqProofs only[c105,r105,go_sem];refine CO.intro k ?_;simp -implicitDefEqProofs only[go_sem,d,wu,h];exact Fini.ret rfl
include hb in
theorem zb1 (c0 c1 c2 c3 c5 c6 c7 c8 c9 c10 c11 c12 c13 c14 c15 c16 c17 c18:AV) (h:σ[p]?=some (.box [c0,c1,c2,c3,UN 0,c5,c6,c7,c8,c9,c10,c11,c12,c13,c14,c15,c16,c17,c18])) (hr:numR 1099511627776 b=none):Ans Tryz.prog 105 [.ptr p 0,.pl (.int .u8 83),.sl 1 (byv b)] σ (.tup [I 0,Bo false]) σ:=by
 have h9:=z0S h
 cases hg:getN 0 b with
 |none =>
  have k:=z1I σ b (by omega)
  rw[z13 hg]at k;have d:decide ((1099511627776:Int)<((0:Nat):Int))=false:=by decide
  have w0:IntKind.i64.wrap ((0:Nat):Int)=0:=rfl;refine Ans.of_run t105 ?_;simp -implicitDefEqProofs only[c105,r105,go_sem];refine CO.intro k ?_;simp -implicitDefEqProofs only[go_sem,d,w0,h];refine Fini.ret3 (n:=0) rfl rfl ?_;exact h9
 |some q =>
  obtain⟨u,t⟩:=q;have k:=z1I σ b (by omega)
  rw[z1a hg]at k
  have d:decide ((1099511627776:Int)<(u:Int))=true:=by
   have:¬u≤1099511627776:=fun hu=>by simp[numR,hg,hu]at hr
   simp;omega
  refine Ans.of_run t105 ?_;simp -implicitDefEqProofs only[c105,r105,go_sem];refine CO.intro k ?_;simp -implicitDefEqProofs only[go_sem,d];exact Fini.ret rfl
include hb in
theorem zb2 (c0 c1 c2 c3 c4 c5 c6 c7 c8 c9 c10 c11 c12 c13 c14 c15 c16 c17 c18:AV) (h:σ[p]?=some (.box [c0,c1,c2,c3,c4,c5,c6,c7,c8,c9,c10,c11,c12,c13,c14,c15,c16,c17,c18])) (u:Nat) (t:Byt) (hr:numR 1099511627776 b=some (u,t)):Ans Tryz.prog 105 [.ptr p 0,.pl (.int .u8 83),.sl 1 (byv b)] σ (.tup [I (b.length-t.length:Nat),Bo true]) (σ.set p (.box [c0,c1,c2,c3,UN u,c5,c6,c7,c8,c9,c10,c11,c12,c13,c14,c15,c16,c17,c18])):=by
 have h9:=z0S h;obtain⟨hg,hu⟩:=z7Q hr;have k:=z1I σ b (by omega)
 rw[z1a hg]at k;have d:decide ((1099511627776:Int)<(u:Int))=false:=by simp;omega
 have wu:IntKind.i64.wrap (u:Int)=(u:Int):=wrapI (by omega)
 refine Ans.of_run t105 ?_;simp -implicitDefEqProofs only[c105,r105,go_sem];refine CO.intro k ?_;simp -implicitDefEqProofs only[go_sem,d,wu,h];exact Fini.ret rfl
include hb in
theorem zb3 (c0 c1 c2 c3 c4 c6 c7 c8 c9 c10 c11 c12 c13 c14 c15 c16 c17 c18:AV) (h:σ[p]?=some (.box [c0,c1,c2,c3,c4,UN 0,c6,c7,c8,c9,c10,c11,c12,c13,c14,c15,c16,c17,c18])) (hr:numR 1099511627776 b=none):Ans Tryz.prog 105 [.ptr p 0,.pl (.int .u8 69),.sl 1 (byv b)] σ (.tup [I 0,Bo false]) σ:=by
 have h9:=z0S h
 cases hg:getN 0 b with
 |none =>
  have k:=z1I σ b (by omega)
  rw[z13 hg]at k;have d:decide ((1099511627776:Int)<((0:Nat):Int))=false:=by decide
  have w0:IntKind.i64.wrap ((0:Nat):Int)=0:=rfl;refine Ans.of_run t105 ?_;simp -implicitDefEqProofs only[c105,r105,go_sem];refine CO.intro k ?_;simp -implicitDefEqProofs only[go_sem,d,w0,h];refine Fini.ret3 (n:=0) rfl rfl ?_;exact h9
 |some q =>
  obtain⟨u,t⟩:=q;have k:=z1I σ b (by omega)
  rw[z1a hg]at k
  have d:decide ((1099511627776:Int)<(u:Int))=true:=by
   have:¬u≤1099511627776:=fun hu=>by simp[numR,hg,hu]at hr
   simp;omega
  refine Ans.of_run t105 ?_;simp -implicitDefEqProofs only[c105,r105,go_sem];refine CO.intro k ?_;simp -implicitDefEqProofs only[go_sem,d];exact Fini.ret rfl
include hb in
theorem zb4 (c0 c1 c2 c3 c4 c5 c6 c7 c8 c9 c10 c11 c12 c13 c14 c15 c16 c17 c18:AV) (h:σ[p]?=some (.box [c0,c1,c2,c3,c4,c5,c6,c7,c8,c9,c10,c11,c12,c13,c14,c15,c16,c17,c18])) (u:Nat) (t:Byt) (hr:numR 1099511627776 b=some (u,t)):Ans Tryz.prog 105 [.ptr p 0,.pl (.int .u8 69),.sl 1 (byv b)] σ (.tup [I (b.length-t.length:Nat),Bo true]) (σ.set p (.box [c0,c1,c2,c3,c4,UN u,c6,c7,c8,c9,c10,c11,c12,c13,c14,c15,c16,c17,c18])):=by
 have h9:=z0S h;obtain⟨hg,hu⟩:=z7Q hr;have k:=z1I σ b (by omega)
 rw[z1a hg]at k;have d:decide ((1099511627776:Int)<(u:Int))=false:=by simp;omega
 have wu:IntKind.i64.wrap (u:Int)=(u:Int):=wrapI (by omega)
 refine Ans.of_run t105 ?_;simp -implicitDefEqProofs only[c105,r105,go_sem];refine CO.intro k ?_;simp -implicitDefEqProofs only[go_sem,d,wu,h];exact Fini.ret rfl
include hb in
theorem zfy (c0 c1 c2 c4 c5 c6 c7 c8 c9 c10 c11 c12 c13 c14 c15 c16 c17 c18:AV) (h:σ[p]?=some (.box [c0,c1,c2,Sx ⟨#[]⟩,c4,c5,c6,c7,c8,c9,c10,c11,c12,c13,c14,c15,c16,c17,c18])) (hr:textR 16 b=none):Ans Tryz.prog 105 [.ptr p 0,.pl (.int .u8 84),.sl 1 (byv b)] σ (.tup [I 0,Bo false]) σ:=by
 have h9:=z0S h;have k:=z1m σ b 16 (by omega) (by decide)
 rw[z0R hr]at k;refine Ans.of_run t105 ?_;simp -implicitDefEqProofs only[c105,r105,go_sem];refine CO.intro k ?_;simp -implicitDefEqProofs only[go_sem,h];refine Fini.ret3 (n:=0) rfl rfl ?_;exact h9
include hb in
theorem zfz (c0 c1 c2 c3 c4 c5 c6 c7 c8 c9 c10 c11 c12 c13 c14 c15 c16 c17 c18:AV) (h:σ[p]?=some (.box [c0,c1,c2,c3,c4,c5,c6,c7,c8,c9,c10,c11,c12,c13,c14,c15,c16,c17,c18])) (s:ByteArray) (t:Byt) (hr:textR 16 b=some (s,t)):Ans Tryz.prog 105 [.ptr p 0,.pl (.int .u8 84),.sl 1 (byv b)] σ (.tup [I (b.length-t.length:Nat),Bo true]) (σ.set p (.box [c0,c1,c2,Sx s,c4,c5,c6,c7,c8,c9,c10,c11,c12,c13,c14,c15,c16,c17,c18])):=by
 have h9:=z0S h;have k:=z1m σ b 16 (by omega) (by decide)
 rw[z1t hr]at k;refine Ans.of_run t105 ?_;simp -implicitDefEqProofs only[c105,r105,go_sem];refine CO.intro k ?_;simp -implicitDefEqProofs only[go_sem,h];exact Fini.ret rfl
include hb in
theorem zfA (c0 c1 c2 c3 c4 c5 c6 c7 c8 c9 c10 c11 c12 c13 c14 c15 c16 c17 c18:AV) (h:σ[p]?=some (.box [c0,c1,c2,c3,c4,c5,c6,c7,c8,c9,c10,c11,c12,c13,c14,c15,c16,c17,c18])) (hr:b=[]):Ans Tryz.prog 105 [.ptr p 0,.pl (.int .u8 90),.sl 1 (byv b)] σ (.tup [I 0,Bo false]) σ:=by
 have h9:=z0S h;have d:(((b.length:Nat):Int)==0)=true:=by rw[hr];decide
 refine Ans.of_run t105 ?_;simp -implicitDefEqProofs only[c105,r105,go_sem,z03,d];exact Fini.ret rfl
include hb in
theorem zfB (c0 c1 c2 c3 c4 c5 c6 c7 c8 c9 c10 c11 c12 c13 c14 c15 c16 c17 c18:AV) (h:σ[p]?=some (.box [c0,c1,c2,c3,c4,c5,c6,c7,c8,c9,c10,c11,c12,c13,c14,c15,c16,c17,c18])) (c:UInt8) (t:Byt) (hr:b=c::t):Ans Tryz.prog 105 [.ptr p 0,.pl (.int .u8 90),.sl 1 (byv b)] σ (.tup [I 1,Bo true]) (σ.set p (.box [c0,c1,c2,c3,c4,c5,I (c.toNat:Nat),c7,c8,c9,c10,c11,c12,c13,c14,c15,c16,c17,c18])):=by
 have h9:=z0S h;have d:(((b.length:Nat):Int)==0)=false:=by rw[hr,List.length_cons];exact neI (by omega)
 have hpos:((0:Int)<(b.length:Nat))=True:=eq_true (by rw[hr,List.length_cons];omega)
 have hx:(byv b)[0]?=some (bc c):=by rw[hr];rfl
 have z0:Int.toNat 0=0:=rfl;have wc:IntKind.i64.wrap (c.toNat:Int)=(c.toNat:Int):=wrapI (by have:=c.toNat_lt;omega)
 refine Ans.of_run t105 ?_;simp -implicitDefEqProofs only[c105,r105,go_sem,z03,d,hpos,hx,z0,bc,wc,h];exact Fini.ret rfl
include hb in
theorem z7T (c0 c1 c2 c3 c4 c5 c6 c8 c9 c10 c11 c12 c13 c14 c15 c16 c17 c18:AV) (h:σ[p]?=some (.box [c0,c1,c2,c3,c4,c5,c6,.nils,c8,c9,c10,c11,c12,c13,c14,c15,c16,c17,c18])) (hr:listR b=none):Ans Tryz.prog 105 [.ptr p 0,.pl (.int .u8 77),.sl 1 (byv b)] σ (.tup [I 0,Bo false]) σ:=by
 have h9:=z0S h;have k:=z4Y σ b hb;rw[z0B hr]at k;refine Ans.of_run t105 ?_;simp -implicitDefEqProofs only[c105,r105,go_sem];refine CO.intro k ?_;simp -implicitDefEqProofs only[go_sem,h];refine Fini.ret3 (n:=0) rfl rfl ?_;exact h9
include hb in
theorem z7U (c0 c1 c2 c3 c4 c5 c6 c7 c8 c9 c10 c11 c12 c13 c14 c15 c16 c17 c18:AV) (h:σ[p]?=some (.box [c0,c1,c2,c3,c4,c5,c6,c7,c8,c9,c10,c11,c12,c13,c14,c15,c16,c17,c18])) (x:List Mtr) (t:Byt) (hr:listR b=some (x,t)):Ans Tryz.prog 105 [.ptr p 0,.pl (.int .u8 77),.sl 1 (byv b)] σ (.tup [I (b.length-t.length:Nat),Bo true]) (σ.set p (.box [c0,c1,c2,c3,c4,c5,c6,mlV x,c8,c9,c10,c11,c12,c13,c14,c15,c16,c17,c18])):=by
 have h9:=z0S h;have k:=z4Y σ b hb;rw[z0K hr]at k;refine Ans.of_run t105 ?_;simp -implicitDefEqProofs only[c105,r105,go_sem];refine CO.intro k ?_;simp -implicitDefEqProofs only[go_sem,h];exact Fini.ret rfl
include hb in
theorem zb5 (c0 c1 c2 c3 c4 c5 c6 c7 c11 c12 c13 c14 c15 c16 c17 c18:AV) (h:σ[p]?=some (.box [c0,c1,c2,c3,c4,c5,c6,c7,Bo false,Fl 0,Fl 0,c11,c12,c13,c14,c15,c16,c17,c18])) (hr:bandR b=none):Ans Tryz.prog 105 [.ptr p 0,.pl (.int .u8 66),.sl 1 (byv b)] σ (.tup [I 0,Bo false]) σ:=by
 have h9:=z0S h;have k:=z3y σ b hb;rw[z0B hr]at k;unfold bandV at k;refine Ans.of_run t105 ?_;simp -implicitDefEqProofs only[c105,r105,go_sem];refine CO.intro k ?_;simp -implicitDefEqProofs only[go_sem,h];refine Fini.ret3 (n:=0) rfl rfl ?_;exact h9
include hb in
theorem zb6 (c0 c1 c2 c3 c4 c5 c6 c7 c8 c9 c10 c11 c12 c13 c14 c15 c16 c17 c18:AV) (h:σ[p]?=some (.box [c0,c1,c2,c3,c4,c5,c6,c7,c8,c9,c10,c11,c12,c13,c14,c15,c16,c17,c18])) (x:Bnd) (t:Byt) (hr:bandR b=some (x,t)):Ans Tryz.prog 105 [.ptr p 0,.pl (.int .u8 66),.sl 1 (byv b)] σ (.tup [I (b.length-t.length:Nat),Bo true]) (σ.set p (.box [c0,c1,c2,c3,c4,c5,c6,c7,Bo x.1,Fl x.2.1,Fl x.2.2,c11,c12,c13,c14,c15,c16,c17,c18])):=by
 have h9:=z0S h;have k:=z3y σ b hb;rw[z0K hr]at k;unfold bandV at k;refine Ans.of_run t105 ?_;simp -implicitDefEqProofs only[c105,r105,go_sem];refine CO.intro k ?_;simp -implicitDefEqProofs only[go_sem,h];exact Fini.ret rfl
include hb in
theorem zfC (c0 c1 c2 c3 c4 c5 c6 c7 c8 c9 c10 c17 c18:AV) (h:σ[p]?=some (.box [c0,c1,c2,c3,c4,c5,c6,c7,c8,c9,c10,.nils,.nils,Bo false,Fl 0,Fl 0,.nils,c17,c18])) (hr:ruR b=none):Ans Tryz.prog 105 [.ptr p 0,.pl (.int .u8 82),.sl 1 (byv b)] σ (.tup [I 0,Bo false]) σ:=by
 have h9:=z0S h;have k:=z5a σ b hb;rw[z0B hr]at k;unfold noRuV at k;refine Ans.of_run t105 ?_;simp -implicitDefEqProofs only[c105,r105,go_sem];refine CO.intro k ?_;simp -implicitDefEqProofs only[go_sem,h];refine Fini.ret3 (n:=0) rfl rfl ?_;exact h9
include hb in
theorem zfD (c0 c1 c2 c3 c4 c5 c6 c7 c8 c9 c10 c11 c12 c13 c14 c15 c16 c17 c18:AV) (h:σ[p]?=some (.box [c0,c1,c2,c3,c4,c5,c6,c7,c8,c9,c10,c11,c12,c13,c14,c15,c16,c17,c18])) (x:RuM) (t:Byt) (hr:ruR b=some (x,t)):Ans Tryz.prog 105 [.ptr p 0,.pl (.int .u8 82),.sl 1 (byv b)] σ (.tup [I (b.length-t.length:Nat),Bo true]) (σ.set p (.box [c0,c1,c2,c3,c4,c5,c6,c7,c8,c9,c10,mlV x.src,mlV x.tgt,Bo x.any,Fl x.lo,Fl x.hi,.sl 1 (txs x.eq),c17,c18])):=by
 have h9:=z0S h;have k:=z5a σ b hb;rw[z0K hr]at k;unfold ruV at k;refine Ans.of_run t105 ?_;simp -implicitDefEqProofs only[c105,r105,go_sem];refine CO.intro k ?_;simp -implicitDefEqProofs only[go_sem,h];exact Fini.ret rfl
include hb in
theorem zfE (c0 c1 c2 c3 c4 c5 c6 c7 c8 c9 c10 c11 c12 c13 c14 c15 c16 c18:AV) (h:σ[p]?=some (.box [c0,c1,c2,c3,c4,c5,c6,c7,c8,c9,c10,c11,c12,c13,c14,c15,c16,.nils,c18])) (hr:setR b=none):Ans Tryz.prog 105 [.ptr p 0,.pl (.int .u8 76),.sl 1 (byv b)] σ (.tup [I 0,Bo false]) σ:=by
 have h9:=z0S h;have k:=z6r σ b hb;rw[z0B hr]at k;refine Ans.of_run t105 ?_;simp -implicitDefEqProofs only[c105,r105,go_sem];refine CO.intro k ?_;simp -implicitDefEqProofs only[go_sem,h];refine Fini.ret3 (n:=0) rfl rfl ?_;exact h9
include hb in
theorem zfF (c0 c1 c2 c3 c4 c5 c6 c7 c8 c9 c10 c11 c12 c13 c14 c15 c16 c17 c18:AV) (h:σ[p]?=some (.box [c0,c1,c2,c3,c4,c5,c6,c7,c8,c9,c10,c11,c12,c13,c14,c15,c16,c17,c18])) (x:List Lab) (t:Byt) (hr:setR b=some (x,t)):Ans Tryz.prog 105 [.ptr p 0,.pl (.int .u8 76),.sl 1 (byv b)] σ (.tup [I (b.length-t.length:Nat),Bo true]) (σ.set p (.box [c0,c1,c2,c3,c4,c5,c6,c7,c8,c9,c10,c11,c12,c13,c14,c15,c16,lsV x,c18])):=by
 have h9:=z0S h;have k:=z6r σ b hb;rw[z0K hr]at k;refine Ans.of_run t105 ?_;simp -implicitDefEqProofs only[c105,r105,go_sem];refine CO.intro k ?_;simp -implicitDefEqProofs only[go_sem,h];exact Fini.ret rfl
include hb in
theorem zfG (c0 c1 c2 c3 c4 c5 c6 c7 c8 c9 c10 c11 c12 c13 c14 c15 c16 c17:AV) (h:σ[p]?=some (.box [c0,c1,c2,c3,c4,c5,c6,c7,c8,c9,c10,c11,c12,c13,c14,c15,c16,c17,Fl 0])) (hr:valR b=none):Ans Tryz.prog 105 [.ptr p 0,.pl (.int .u8 86),.sl 1 (byv b)] σ (.tup [I 8,Bo false]) σ:=by
 have h9:=z0S h;have k:=z2U σ b (by omega)
 unfold wordV at k;have k2:=fun u=>z4G σ u
 simp only[valR,onlyR]at hr
 cases hw:wordR b with
 |none =>
  rw[hw]at k;have e0:okV 0=true:=by decide +kernel
  have k2:=k2 0;rw[e0]at k2;refine Ans.of_run t105 ?_;simp -implicitDefEqProofs only[c105,r105,go_sem];refine CO.intro k ?_;simp -implicitDefEqProofs only[go_sem];refine CO.intro k2 ?_;simp -implicitDefEqProofs only[go_sem,h,if_true];refine Fini.ret3 (n:=0) rfl rfl ?_;exact h9
 |some q =>
  obtain⟨u,t⟩:=q;rw[hw]at k hr
  have e0:okV u=false:=by
   simp only[Option.bind_some]at hr
   cases ho:okV u with
   |true=>rw[ho]at hr;simp at hr
   |false=>rfl
  have k2:=k2 u;rw[e0]at k2;refine Ans.of_run t105 ?_;simp -implicitDefEqProofs only[c105,r105,go_sem];refine CO.intro k ?_;simp -implicitDefEqProofs only[go_sem];refine CO.intro k2 ?_;simp -implicitDefEqProofs only[go_sem,h,Bool.false_eq_true,if_false];refine Fini.ret3 (n:=0) rfl rfl ?_;exact h9
include hb in
theorem zfH (c0 c1 c2 c3 c4 c5 c6 c7 c8 c9 c10 c11 c12 c13 c14 c15 c16 c17 c18:AV) (h:σ[p]?=some (.box [c0,c1,c2,c3,c4,c5,c6,c7,c8,c9,c10,c11,c12,c13,c14,c15,c16,c17,c18])) (u:Nat) (t:Byt) (hr:valR b=some (u,t)):Ans Tryz.prog 105 [.ptr p 0,.pl (.int .u8 86),.sl 1 (byv b)] σ (.tup [I 8,Bo true]) (σ.set p (.box [c0,c1,c2,c3,c4,c5,c6,c7,c8,c9,c10,c11,c12,c13,c14,c15,c16,c17,Fl u])):=by
 have h9:=z0S h;have k:=z2U σ b (by omega)
 unfold wordV at k;simp only[valR,onlyR]at hr
 cases hw:wordR b with
 |none=>simp[hw]at hr
 |some q =>
  obtain⟨u',t'⟩:=q;rw[hw]at k hr
  have e0:okV u'=true∧u'=u:=by
   simp only[Option.bind_some]at hr
   cases ho:okV u' with
   |true =>
    rw[ho]at hr;simp only[if_true,Option.some.injEq,Prod.mk.injEq]at hr;exact⟨rfl,hr.1⟩
   |false=>rw[ho]at hr;simp at hr
  obtain⟨e0,rfl⟩:=e0;have k2:=z4G σ u';rw[e0]at k2;refine Ans.of_run t105 ?_;simp -implicitDefEqProofs only[c105,r105,go_sem];refine CO.intro k ?_;simp -implicitDefEqProofs only[go_sem];refine CO.intro k2 ?_;simp -implicitDefEqProofs only[go_sem,h,if_true];exact Fini.ret rfl
end
end Go.Proofs.YtmkmhhjkdaklbaaGreat
namespace Go.Proofs.YtmkmhhjkdaklbaaGreat
open Go Go.Ab Go.Cod
set_option maxRecDepth 100000
def dR_0 (op:Int):Rd ReM:=fun t=>some (x0 op,t)
def dR_1 (op:Int):Rd ReM:=fun t=>(numR 1099511627776 t).bind fun p1=>some ({ x0 op with id:=((p1.1:Nat):Int) },p1.2)
def dR_3 (op:Int):Rd ReM:=fun t=>(numR 1099511627776 t).bind fun p1=>(textR 16 p1.2).bind fun p2=>some ({ x0 op with id:=((p1.1:Nat):Int),txt:=p2.1 },p2.2)
def z2w (op:Int):Rd ReM:=fun t=>(numR 1099511627776 t).bind fun p1=>(numR 1099511627776 p1.2).bind fun p2=>(listR p2.2).bind fun p3=>(bandR p3.2).bind fun p4=>some (mk116 op (p1.1,p2.1,p3.1,p4.1),p4.2)
def z2t (op:Int):Rd ReM:=fun t=>(numR 1099511627776 t).bind fun p1=>(numR 1099511627776 p1.2).bind fun p2=>(numR 1099511627776 p2.2).bind fun p3=>(listR p3.2).bind fun p4=>(bandR p4.2).bind fun p5=>some (mk117 op (p1.1,p2.1,p3.1,p4.1,p5.1),p5.2)
def dR_8 (op:Int):Rd ReM:=fun t=>(byteR t).bind fun p1=>some ({ x0 op with sta:=(((p1.1).toNat:Nat):Int) },p1.2)
def z43 (op:Int):Rd ReM:=fun t=>(ruR t).bind fun p1=>some ({ x0 op with ru:=p1.1 },p1.2)
def z3G (op:Int):Rd ReM:=fun t=>(setR t).bind fun p1=>(valR p1.2).bind fun p2=>some ({ x0 op with ls:=p1.1,val:=p2.1 },p2.2)
def dR_16 (op:Int):Rd ReM:=fun t=>(listR t).bind fun p1=>some ({ x0 op with mt:=p1.1 },p1.2)
theorem ziI {x:ReM} (h:mayR x=true):x.id≤2147483647:=by
 unfold mayR z0c idR at h;simp only[Bool.and_eq_true,decide_eq_true_eq]at h;exact h.2.2.1.2
theorem zfI {t:Byt}:numR 2147483647 t=(numR 1099511627776 t).bind fun p=>if p.1≤2147483647 then some p else none:=by
 simp only[numR]
 cases getN 0 t with
 |none=>rfl
 |some p =>
  simp only[Option.bind_some];by_cases h:p.1≤2147483647
  · rw[if_pos h,if_pos (by omega)];simp[h]
  · rw[if_neg h];split
    · simp[h]
    · rfl
theorem z7V (g:Nat→Rd ReM) (hid:∀u b x t,g u b=some (x,t)→x.id=(u:Int)) (t:Byt) :
  onlyR (fun t=>(numR 2147483647 t).bind fun p=>g p.1 p.2) mayR t=onlyR (fun t=>(numR 1099511627776 t).bind fun p=>g p.1 p.2) mayR t:=by
 simp only[onlyR,zfI]
 cases numR 1099511627776 t with
 |none=>rfl
 |some p =>
  simp only[Option.bind_some];by_cases h:p.1≤2147483647
  · rw[if_pos h];rfl
  · rw[if_neg h];simp only[Option.bind_none]
    cases hg:g p.1 p.2 with
    |none=>rfl
    |some y =>
     have:=hid _ _ _ _ hg;simp only[Option.bind_some];rw[if_neg];intro hm;have:=ziI hm;omega
theorem clD_0 (op:Int) (t:Byt):onlyR (clR 0 op) mayR t=onlyR (dR_0 op) mayR t:=by
 simp only[onlyR];congr 1
theorem clD_1 (op:Int) (t:Byt):onlyR (clR 1 op) mayR t=onlyR (dR_1 op) mayR t:=by
 refine Eq.trans ?_ (z7V (fun u b=>some ({ x0 op with id:=((u:Nat):Int) },b)) ?_ t)
 · simp only[onlyR];congr 1
   show(clR 1 op) t=_;simp only[clR,if_true,if_false,z0Y,seqR,show((1:Int)=1)=True from by simp,show((1:Int)=3)=False from by simp,show((1:Int)=116)=False from by simp,show((1:Int)=117)=False from by simp]
   cases numR 2147483647 t with
   |none=>rfl
   |some p1 =>
   rfl
 · intro u b x t h;simp only[Option.bind_eq_some_iff,Option.some.injEq,Prod.mk.injEq]at h;obtain⟨rfl,_⟩:=h;rfl
theorem clD_3 (op:Int) (t:Byt):onlyR (clR 3 op) mayR t=onlyR (dR_3 op) mayR t:=by
 refine Eq.trans ?_ (z7V (fun u b=>(textR 16 b).bind fun p2=>some ({ x0 op with id:=((u:Nat):Int),txt:=p2.1 },p2.2)) ?_ t)
 · simp only[onlyR];congr 1
   show(clR 3 op) t=_;simp only[clR,if_true,if_false,z0Y,seqR,show((3:Int)=1)=False from by simp,show((3:Int)=3)=True from by simp,show((3:Int)=116)=False from by simp,show((3:Int)=117)=False from by simp]
   cases numR 2147483647 t with
   |none=>rfl
   |some p1 =>
   simp only[Option.bind_some,Option.map_some]
   cases textR 16 p1.2 with
   |none=>rfl
   |some p2 =>
   simp only[Option.bind_some,Option.map_some]
 · intro u b x t h;simp only[Option.bind_eq_some_iff,Option.some.injEq,Prod.mk.injEq]at h;obtain⟨_,_,⟨rfl,_⟩⟩:=h;rfl
theorem zhu (op:Int) (t:Byt):onlyR (clR 116 op) mayR t=onlyR (z2w op) mayR t:=by
 simp only[onlyR];congr 1
 simp only[clR,z2w,if_true,if_false,z0Y,seqR,show((116:Int)=1)=False from by simp,show((116:Int)=3)=False from by simp,show((116:Int)=116)=True from by simp,show((116:Int)=117)=False from by simp,show((116:Int)=8)=False from by simp,show((116:Int)=128)=False from by simp,show((116:Int)=768)=False from by simp,show((116:Int)=16)=False from by simp]
 cases numR 1099511627776 t with
 |none=>rfl
 |some p1 =>
 simp only[Option.bind_some,Option.map_some]
 cases numR 1099511627776 p1.2 with
 |none=>rfl
 |some p2 =>
 simp only[Option.bind_some,Option.map_some]
 cases listR p2.2 with
 |none=>rfl
 |some p3 =>
 simp only[Option.bind_some,Option.map_some]
 cases bandR p3.2 with
 |none=>rfl
 |some p4 =>
 rfl
theorem zhv (op:Int) (t:Byt):onlyR (clR 117 op) mayR t=onlyR (z2t op) mayR t:=by
 refine Eq.trans ?_ (z7V (fun u b=>(numR 1099511627776 b).bind fun p2=>(numR 1099511627776 p2.2).bind fun p3=>(listR p3.2).bind fun p4=>(bandR p4.2).bind fun p5=>some (mk117 op (u,p2.1,p3.1,p4.1,p5.1),p5.2)) ?_ t)
 · simp only[onlyR];congr 1
   show(clR 117 op) t=_;simp only[clR,if_true,if_false,z0Y,seqR,show((117:Int)=1)=False from by simp,show((117:Int)=3)=False from by simp,show((117:Int)=116)=False from by simp,show((117:Int)=117)=True from by simp]
   cases numR 2147483647 t with
   |none=>rfl
   |some p1 =>
   simp only[Option.bind_some,Option.map_some]
   cases numR 1099511627776 p1.2 with
   |none=>rfl
   |some p2 =>
   simp only[Option.bind_some,Option.map_some]
   cases numR 1099511627776 p2.2 with
   |none=>rfl
   |some p3 =>
   simp only[Option.bind_some,Option.map_some]
   cases listR p3.2 with
   |none=>rfl
   |some p4 =>
   simp only[Option.bind_some,Option.map_some]
   cases bandR p4.2 with
   |none=>rfl
   |some p5 =>
   simp only[Option.bind_some,Option.map_some]
 · intro u b x t h;simp only[Option.bind_eq_some_iff,Option.some.injEq,Prod.mk.injEq]at h;obtain⟨_,_,⟨_,_,⟨_,_,⟨_,_,⟨rfl,_⟩⟩⟩⟩⟩:=h;rfl
theorem clD_8 (op:Int) (t:Byt):onlyR (clR 8 op) mayR t=onlyR (dR_8 op) mayR t:=by
 simp only[onlyR];congr 1
 simp only[clR,dR_8,if_true,if_false,z0Y,seqR,show((8:Int)=1)=False from by simp,show((8:Int)=3)=False from by simp,show((8:Int)=116)=False from by simp,show((8:Int)=117)=False from by simp,show((8:Int)=8)=True from by simp,show((8:Int)=128)=False from by simp,show((8:Int)=768)=False from by simp,show((8:Int)=16)=False from by simp]
 cases byteR t with
 |none=>rfl
 |some p1 =>
 rfl
theorem zhw (op:Int) (t:Byt):onlyR (clR 128 op) mayR t=onlyR (z43 op) mayR t:=by
 simp only[onlyR];congr 1
 simp only[clR,z43,if_true,if_false,z0Y,seqR,show((128:Int)=1)=False from by simp,show((128:Int)=3)=False from by simp,show((128:Int)=116)=False from by simp,show((128:Int)=117)=False from by simp,show((128:Int)=8)=False from by simp,show((128:Int)=128)=True from by simp,show((128:Int)=768)=False from by simp,show((128:Int)=16)=False from by simp]
 cases ruR t with
 |none=>rfl
 |some p1 =>
 rfl
theorem zhx (op:Int) (t:Byt):onlyR (clR 768 op) mayR t=onlyR (z3G op) mayR t:=by
 simp only[onlyR];congr 1
 simp only[clR,z3G,if_true,if_false,z0Y,seqR,show((768:Int)=1)=False from by simp,show((768:Int)=3)=False from by simp,show((768:Int)=116)=False from by simp,show((768:Int)=117)=False from by simp,show((768:Int)=8)=False from by simp,show((768:Int)=128)=False from by simp,show((768:Int)=768)=True from by simp,show((768:Int)=16)=False from by simp]
 cases setR t with
 |none=>rfl
 |some p1 =>
 simp only[Option.bind_some,Option.map_some]
 cases valR p1.2 with
 |none=>rfl
 |some p2 =>
 rfl
theorem ziJ (op:Int) (t:Byt):onlyR (clR 16 op) mayR t=onlyR (dR_16 op) mayR t:=by
 simp only[onlyR];congr 1
 simp only[clR,dR_16,if_true,if_false,z0Y,seqR,show((16:Int)=1)=False from by simp,show((16:Int)=3)=False from by simp,show((16:Int)=116)=False from by simp,show((16:Int)=117)=False from by simp,show((16:Int)=8)=False from by simp,show((16:Int)=128)=False from by simp,show((16:Int)=768)=False from by simp,show((16:Int)=16)=True from by simp]
 cases listR t with
 |none=>rfl
 |some p1 =>
 rfl
theorem sz_0:((S0.size:Nat):Int)=1:=rfl
theorem ds_0:(S0.toList==(⟨#[45]⟩:ByteArray).toList)=true:=by decide +kernel
theorem sz_1:((S1.size:Nat):Int)=1:=rfl
theorem ds_1:(S1.toList==(⟨#[45]⟩:ByteArray).toList)=false:=by decide +kernel
theorem ziK:byteAt S1 0=73:=by decide +kernel
theorem sz_3:((S3.size:Nat):Int)=2:=rfl
theorem ds_3:(S3.toList==(⟨#[45]⟩:ByteArray).toList)=false:=by decide +kernel
theorem ziL:byteAt S3 0=73:=by decide +kernel
theorem ziM:byteAt S3 1=84:=by decide +kernel
theorem ziN:((S116.size:Nat):Int)=4:=rfl
theorem ziO:(S116.toList==(⟨#[45]⟩:ByteArray).toList)=false:=by decide +kernel
theorem zfJ:byteAt S116 0=83:=by decide +kernel
theorem zfK:byteAt S116 1=69:=by decide +kernel
theorem zfL:byteAt S116 2=77:=by decide +kernel
theorem zfM:byteAt S116 3=66:=by decide +kernel
theorem ziP:((S117.size:Nat):Int)=5:=rfl
theorem ziQ:(S117.toList==(⟨#[45]⟩:ByteArray).toList)=false:=by decide +kernel
theorem zfN:byteAt S117 0=73:=by decide +kernel
theorem zfO:byteAt S117 1=83:=by decide +kernel
theorem zfP:byteAt S117 2=69:=by decide +kernel
theorem zfQ:byteAt S117 3=77:=by decide +kernel
theorem zfR:byteAt S117 4=66:=by decide +kernel
theorem sz_8:((S8.size:Nat):Int)=1:=rfl
theorem ds_8:(S8.toList==(⟨#[45]⟩:ByteArray).toList)=false:=by decide +kernel
theorem ziR:byteAt S8 0=90:=by decide +kernel
theorem ziS:((S128.size:Nat):Int)=1:=rfl
theorem ziT:(S128.toList==(⟨#[45]⟩:ByteArray).toList)=false:=by decide +kernel
theorem zfS:byteAt S128 0=82:=by decide +kernel
theorem ziU:((S768.size:Nat):Int)=2:=rfl
theorem ziV:(S768.toList==(⟨#[45]⟩:ByteArray).toList)=false:=by decide +kernel
theorem zfT:byteAt S768 0=76:=by decide +kernel
theorem zfU:byteAt S768 1=86:=by decide +kernel
theorem sz_16:((S16.size:Nat):Int)=1:=rfl
theorem ds_16:(S16.toList==(⟨#[45]⟩:ByteArray).toList)=false:=by decide +kernel
theorem zhy:byteAt S16 0=77:=by decide +kernel
theorem wk0:IntKind.i64.wrap 0=0:=rfl
theorem zk0:Int.toNat 0=0:=rfl
theorem wk1:IntKind.i64.wrap 1=1:=rfl
theorem zk1:Int.toNat 1=1:=rfl
theorem wk2:IntKind.i64.wrap 2=2:=rfl
theorem zk2:Int.toNat 2=2:=rfl
theorem wk3:IntKind.i64.wrap 3=3:=rfl
theorem zk3:Int.toNat 3=3:=rfl
theorem wk4:IntKind.i64.wrap 4=4:=rfl
theorem zk4:Int.toNat 4=4:=rfl
theorem wk5:IntKind.i64.wrap 5=5:=rfl
theorem zk5:Int.toNat 5=5:=rfl
theorem z0e:Sub (.tup [noReV,Bo false]) (z0N none):=.tup (.cons zaT (.refl _))
theorem z0d (n:Nat):Bel n (.tup [noReV,Bo false]):=z1P (z6q _)
theorem z3R:RSm noRu:=⟨(by intro x h;cases h),(by intro x h;cases h),(by intro x h;cases h)⟩
theorem ru_sm {r:RuM} (h:ruIs r=true):RSm r:=⟨z1Z (z1A h).1,z1Z (z1A h).2.1,fun s hs=>by have:=(z1A h).2.2.2.2 s hs;omega⟩
theorem ls_sm {L:List Lab} (h:setB L=true):∀x∈L,x.1.size≤100000:=fun x hx=>by have:=(z4i h).2 x hx;omega
theorem ze0 {b:Byt} (h:byteR b=none):b=[]:=by cases b with
 |nil=>rfl
 |cons c t=>cases h
theorem zc4 {b:Byt} {c:UInt8} {t:Byt} (h:byteR b=some (c,t)):b=c::t:=by cases b with
 |nil=>cases h
 |cons d u=>simp only[byteR,Option.some.injEq,Prod.mk.injEq]at h;rw[h.1,h.2]
theorem z1E {α:Type} {rd:Rd α} (h:EndsR rd) {b:Byt} {x:α} {t:Byt} (hr:rd b=some (x,t)):t.length≤b.length:=by
 obtain⟨w,hw⟩:=h _ _ _ hr;rw[hw,List.length_append];omega
theorem z2A (b:Byt) (c:UInt8) (t0:Byt) (hbt:b=c::t0):b.length=t0.length+1∧(((b.length:Nat):Int)==0)=false∧((0:Int)<(b.length:Nat))=True∧(byv b)[0]?=some (bc c) ∧
  IntKind.i64.wrap (c.toNat:Int)=(c.toNat:Int)∧b.drop 1=t0∧((1:Int)≤(b.length:Nat))=True:=by
 have hbl:b.length=t0.length+1:=by rw[hbt];rfl
 exact⟨hbl,neI (by omega),eq_true (by omega),by rw[hbt];rfl,wrapI (by have:=c.toNat_lt;omega),by rw[hbt];rfl,eq_true (by omega)⟩
theorem zhz {b:Byt} {u:Nat} {t:Byt} (h:valR b=some (u,t)):b.length=t.length+8:=by
 have:=(val_fits.bwd _ _ _ h).2;rw[this,List.length_append];show 8+t.length=t.length+8;omega
attribute [go_sem] wk0 wk1 wk2 wk3 wk4 wk5 zk0 zk1 zk2 zk3 zk4 zk5 z03 z0O z0P z08 g0 g1 s0 s1 Int.le_refl sz_0 ds_0 sz_1 ds_1 sz_3 ds_3 ziN ziO ziP ziQ sz_8 ds_8 ziS ziT ziU ziV sz_16 ds_16
section
variable (σ:St)
def wk0_ (c:UInt8) (o:Option ReM):AV:=match o with
 |some x=>.tup [.agg (XC0 c),Bo true]
 |none=>.tup [noReV,Bo false]
theorem zhA (c:UInt8) (t0:Byt):Sub (wk0_ c (wholeO (onlyR (dR_0 (c.toNat:Int)) mayR t0))) (z0N (wholeO (onlyR (dR_0 (c.toNat:Int)) mayR t0))):=by
 simp only[onlyR,dR_0];simp only[Option.bind_some];split
 · cases t0 with
   |nil=>exact .tup (.cons (.agg (.cons (.refl _) <| .cons (.refl _) <| .cons (.refl _) <| .cons (.refl _) <| .cons (.refl _) <| .cons (.refl _) <| .cons (.refl _) <| .cons (.nils 3) <| .cons (.refl _) <| .cons (.refl _) <| .cons (.refl _) <| .cons (.nils 3) <| .cons (.nils 3) <| .cons (.refl _) <| .cons (.refl _) <| .cons (.refl _) <| .cons (.nils 1) <| .cons (.nils 2) <| .cons (.refl _) <| .nil)) (.refl _))
   |cons _ _=>exact z0e
 · exact z0e
set_option maxHeartbeats 16000000 in
theorem z7W (b:Byt) (hb:b.length≤50000) (c:UInt8) (t0:Byt) (hbt:b=c::t0) (hd:dOf (c.toNat:Int)=S0) :
  Ans Tryz.prog 46 [.sl 1 (byv b)] σ (z0N (wholeO (onlyR (dR_0 (c.toNat:Int)) mayR t0))) σ:=by
 obtain⟨hbl,dn,hpos,hx,wc,dr0,le0⟩:=z2A b c t0 hbt;have kf:=z0r (σ++[B19,.box (XC0 c)]) (c.toNat:Int);rw[hd]at kf;refine Ans.subR ?_ (zhA c t0);refine Ans.of_run' t46 (fun hbel _=>?_)
 simp -implicitDefEqProofs only[c46,r46,go_sem,dn,hpos,hx,bc,wc,List.append_assoc,List.length_append];refine CO.intro kf ?_;simp -implicitDefEqProofs only[go_sem];refine L.step fun J hJ=>?_
 have hcl:onlyR (dR_0 (c.toNat:Int)) mayR t0=if mayR (x0 (c.toNat:Int)) then some (x0 (c.toNat:Int),t0) else none:=by simp only[onlyR,dR_0,Option.bind_some]
 rw[hcl];have hsub:Sub (.agg (XC0 c)) (reV (x0 (c.toNat:Int))):=.agg (.cons (.refl _) <| .cons (.refl _) <| .cons (.refl _) <| .cons (.refl _) <| .cons (.refl _) <| .cons (.refl _) <| .cons (.refl _) <| .cons (.nils 3) <| .cons (.refl _) <| .cons (.refl _) <| .cons (.refl _) <| .cons (.nils 3) <| .cons (.nils 3) <| .cons (.refl _) <| .cons (.refl _) <| .cons (.refl _) <| .cons (.nils 1) <| .cons (.nils 2) <| .cons (.refl _) <| .nil);have hsm:ReSm (x0 (c.toNat:Int)):=⟨(by intro x h;cases h),z3R,(by intro x h;cases h)⟩
 have km:=(z1L (σ++[B19,.box (XC0 c)]) (x0 (c.toNat:Int)) hsm).subA (.cons hsub .nil);by_cases ht:t0=[]
 · have hk0:t0.length=0:=by rw[ht];rfl
   have de:((1:Int) != ((b.length:Nat):Int))=false:=by
    rw[bne,show(1:Int)=((b.length:Nat):Int) from by omega]
    simp
   have hbl2:Bel σ.length (.agg (XC0 c)):=.agg _ (fun i hi=>by
     have:∀y∈(XC0 c:List AV),Bel σ.length y:=by
      intro y hy;simp only[List.mem_cons,List.not_mem_nil,or_false]at hy;rcases hy with rfl|rfl|rfl|rfl|rfl|rfl|rfl|rfl|rfl|rfl|rfl|rfl|rfl|rfl|rfl|rfl|rfl|rfl|rfl
      all_goals first|exact .pl _|exact .nils|exact z09 _ _|exact z0u _ _|exact z0g _ _
     exact this _ (List.getElem_mem hi))
   simp -implicitDefEqProofs only[go_sem,List.take_length,de];refine CO.intro km ?_
   cases hm:mayR (x0 (c.toNat:Int)) with
   |false =>
    simp -implicitDefEqProofs only[go_sem];exact tr_ (σ':=σ) (ex:=[_,_]) rfl (z0d _) hbel
   |true =>
    have hW:wholeO (if true=true then some (x0 (c.toNat:Int),t0) else none)=some (x0 (c.toNat:Int)):=by rw[ht];rfl
    rw[hW];simp -implicitDefEqProofs only[go_sem];exact tr_ (σ':=σ) (ex:=[_,_]) rfl (z1P hbl2) hbel
 · have hkp:0<t0.length:=by cases t0 with
    |nil=>exact absurd rfl ht
    |cons _ _=>simp
   have de:((1:Int) != ((b.length:Nat):Int))=true:=by
    rw[bne,neI (show(1:Int)≠((b.length:Nat):Int) by omega)];rfl
   have hW:wholeO (if mayR (x0 (c.toNat:Int))=true then some (x0 (c.toNat:Int),t0) else none)=none:=by
    split
    · cases ht2:t0 with
      |nil=>exact absurd ht2 ht
      |cons _ _=>rfl
    · rfl
   rw[hW];simp -implicitDefEqProofs only[go_sem,List.take_length,de];exact tr_ (σ':=σ) (ex:=[_,_]) rfl (z0d _) hbel
def wk1_ (c:UInt8) (o:Option ReM):AV:=match o with
 |some x=>.tup [.agg (XC1 c (I x.id)),Bo true]
 |none=>.tup [noReV,Bo false]
theorem zhB (c:UInt8) (t0:Byt):Sub (wk1_ c (wholeO (onlyR (dR_1 (c.toNat:Int)) mayR t0))) (z0N (wholeO (onlyR (dR_1 (c.toNat:Int)) mayR t0))):=by
 simp only[onlyR,dR_1]
 cases numR 1099511627776 t0 with
 |none=>exact z0e
 |some p =>
 obtain⟨v0,t1⟩:=p;simp only[Option.bind_some];split
 · cases t1 with
   |nil=>exact .tup (.cons (.agg (.cons (.refl _) <| .cons (.refl _) <| .cons (.refl _) <| .cons (.refl _) <| .cons (.refl _) <| .cons (.refl _) <| .cons (.refl _) <| .cons (.nils 3) <| .cons (.refl _) <| .cons (.refl _) <| .cons (.refl _) <| .cons (.nils 3) <| .cons (.nils 3) <| .cons (.refl _) <| .cons (.refl _) <| .cons (.refl _) <| .cons (.nils 1) <| .cons (.nils 2) <| .cons (.refl _) <| .nil)) (.refl _))
   |cons _ _=>exact z0e
 · exact z0e
set_option maxHeartbeats 16000000 in
theorem z6u (b:Byt) (hb:b.length≤50000) (c:UInt8) (t0:Byt) (hbt:b=c::t0) (hd:dOf (c.toNat:Int)=S1) :
  Ans Tryz.prog 46 [.sl 1 (byv b)] σ (z0N (wholeO (onlyR (dR_1 (c.toNat:Int)) mayR t0))) σ:=by
 obtain⟨hbl,dn,hpos,hx,wc,dr0,le0⟩:=z2A b c t0 hbt;have kf:=z0r (σ++[B19,.box (XC1 c (I 0))]) (c.toNat:Int);rw[hd]at kf;refine Ans.subR ?_ (zhB c t0);refine Ans.of_run' t46 (fun hbel _=>?_)
 simp -implicitDefEqProofs only[c46,r46,go_sem,dn,hpos,hx,bc,wc,List.append_assoc,List.length_append];refine CO.intro kf ?_;simp -implicitDefEqProofs only[go_sem];refine L.step fun J hJ=>?_
 simp -implicitDefEqProofs only[go_sem,z00,List.take_length,ziK,le0,dr0]
 cases h0:numR 1099511627776 t0 with
 |none =>
  have hW:wholeO (onlyR (dR_1 (c.toNat:Int)) mayR t0)=none:=by simp only[onlyR,dR_1,h0,Option.bind_some,Option.bind_none];rfl
  rw[hW];refine CD.intro (z7R (σ++[B19,.box (XC1 c (I 0))]) (σ.length+1) t0 (by omega) _ _ _ _ _ _ _ _ _ _ _ _ _ _ _ _ _ _ (g1 _ _ _ _) h0) ?_
  simp -implicitDefEqProofs only[go_sem,z00,List.take_length];exact tr_ (σ':=σ) (ex:=[_,_]) rfl (z0d _) hbel
 |some x0 =>
 obtain⟨v0,t1⟩:=x0;obtain⟨dr1,lo0,hi0⟩:=(ends_num _).drop (b:=b) (a:=1) (by omega) (by rw[dr0];exact h0)
 have hlt0:=z1E (ends_num _) h0;have ad0:IntKind.i64.wrap ((1:Int)+((t0.length-t1.length:Nat):Int))=((b.length-t1.length:Nat):Int):=by rw[wrapN (by omega) (by omega)];omega
 have le1:(((b.length-t1.length:Nat):Int)≤(b.length:Nat))=True:=eq_true (by omega)
 have k0:=z7S (σ++[B19,.box (XC1 c (I 0))]) (σ.length+1) t0 (by omega) _ _ _ _ _ _ _ _ _ _ _ _ _ _ _ _ _ _ _ (g1 _ _ _ _) v0 t1 h0
 rw[s1]at k0;refine CD.intro k0 ?_;simp -implicitDefEqProofs only[go_sem,z00,ad0,List.take_length];refine hJ _ _ ?_;clear hJ k0;refine L.step fun J hJ=>?_
 have hcl:onlyR (dR_1 (c.toNat:Int)) mayR t0=if mayR ({ x0 (c.toNat:Int) with id:=((v0:Nat):Int) }) then some ({ x0 (c.toNat:Int) with id:=((v0:Nat):Int) },t1) else none:=by simp only[onlyR,dR_1,h0,Option.bind_some]
 rw[hcl];have hsub:Sub (.agg (XC1 c (I (v0:Nat)))) (reV ({ x0 (c.toNat:Int) with id:=((v0:Nat):Int) })):=.agg (.cons (.refl _) <| .cons (.refl _) <| .cons (.refl _) <| .cons (.refl _) <| .cons (.refl _) <| .cons (.refl _) <| .cons (.refl _) <| .cons (.nils 3) <| .cons (.refl _) <| .cons (.refl _) <| .cons (.refl _) <| .cons (.nils 3) <| .cons (.nils 3) <| .cons (.refl _) <| .cons (.refl _) <| .cons (.refl _) <| .cons (.nils 1) <| .cons (.nils 2) <| .cons (.refl _) <| .nil)
 have hsm:ReSm ({ x0 (c.toNat:Int) with id:=((v0:Nat):Int) }):=⟨(by intro x h;cases h),z3R,(by intro x h;cases h)⟩
 have km:=(z1L (σ++[B19,.box (XC1 c (I (v0:Nat)))]) ({ x0 (c.toNat:Int) with id:=((v0:Nat):Int) }) hsm).subA (.cons hsub .nil)
 by_cases ht:t1=[]
 · have hk0:t1.length=0:=by rw[ht];rfl
   have de:(((b.length-t1.length:Nat):Int) != ((b.length:Nat):Int))=false:=by
    rw[bne,show((b.length-t1.length:Nat):Int)=((b.length:Nat):Int) from by omega]
    simp
   have hbl2:Bel σ.length (.agg (XC1 c (I (v0:Nat)))):=.agg _ (fun i hi=>by
     have:∀y∈(XC1 c (I (v0:Nat)):List AV),Bel σ.length y:=by
      intro y hy;simp only[List.mem_cons,List.not_mem_nil,or_false]at hy;rcases hy with rfl|rfl|rfl|rfl|rfl|rfl|rfl|rfl|rfl|rfl|rfl|rfl|rfl|rfl|rfl|rfl|rfl|rfl|rfl
      all_goals first|exact .pl _|exact .nils|exact z09 _ _|exact z0u _ _|exact z0g _ _
     exact this _ (List.getElem_mem hi))
   simp -implicitDefEqProofs only[go_sem,List.take_length,de];refine CO.intro km ?_
   cases hm:mayR ({ x0 (c.toNat:Int) with id:=((v0:Nat):Int) }) with
   |false =>
    simp -implicitDefEqProofs only[go_sem];exact tr_ (σ':=σ) (ex:=[_,_]) rfl (z0d _) hbel
   |true =>
    have hW:wholeO (if true=true then some ({ x0 (c.toNat:Int) with id:=((v0:Nat):Int) },t1) else none)=some ({ x0 (c.toNat:Int) with id:=((v0:Nat):Int) }):=by rw[ht];rfl
    rw[hW];simp -implicitDefEqProofs only[go_sem];exact tr_ (σ':=σ) (ex:=[_,_]) rfl (z1P hbl2) hbel
 · have hkp:0<t1.length:=by cases t1 with
    |nil=>exact absurd rfl ht
    |cons _ _=>simp
   have de:(((b.length-t1.length:Nat):Int) != ((b.length:Nat):Int))=true:=by
    rw[bne,neI (show((b.length-t1.length:Nat):Int)≠((b.length:Nat):Int) by omega)];rfl
   have hW:wholeO (if mayR ({ x0 (c.toNat:Int) with id:=((v0:Nat):Int) })=true then some ({ x0 (c.toNat:Int) with id:=((v0:Nat):Int) },t1) else none)=none:=by
    split
    · cases ht2:t1 with
      |nil=>exact absurd ht2 ht
      |cons _ _=>rfl
    · rfl
   rw[hW];simp -implicitDefEqProofs only[go_sem,List.take_length,de];exact tr_ (σ':=σ) (ex:=[_,_]) rfl (z0d _) hbel
def wk3_ (c:UInt8) (o:Option ReM):AV:=match o with
 |some x=>.tup [.agg (XC3 c (I x.id) (Sx x.txt)),Bo true]
 |none=>.tup [noReV,Bo false]
theorem zhC (c:UInt8) (t0:Byt):Sub (wk3_ c (wholeO (onlyR (dR_3 (c.toNat:Int)) mayR t0))) (z0N (wholeO (onlyR (dR_3 (c.toNat:Int)) mayR t0))):=by
 simp only[onlyR,dR_3]
 cases numR 1099511627776 t0 with
 |none=>exact z0e
 |some p =>
 obtain⟨v0,t1⟩:=p;simp only[Option.bind_some]
 cases textR 16 t1 with
 |none=>exact z0e
 |some p =>
 obtain⟨v1,t2⟩:=p;simp only[Option.bind_some];split
 · cases t2 with
   |nil=>exact .tup (.cons (.agg (.cons (.refl _) <| .cons (.refl _) <| .cons (.refl _) <| .cons (.refl _) <| .cons (.refl _) <| .cons (.refl _) <| .cons (.refl _) <| .cons (.nils 3) <| .cons (.refl _) <| .cons (.refl _) <| .cons (.refl _) <| .cons (.nils 3) <| .cons (.nils 3) <| .cons (.refl _) <| .cons (.refl _) <| .cons (.refl _) <| .cons (.nils 1) <| .cons (.nils 2) <| .cons (.refl _) <| .nil)) (.refl _))
   |cons _ _=>exact z0e
 · exact z0e
set_option maxHeartbeats 16000000 in
theorem ze1 (b:Byt) (hb:b.length≤50000) (c:UInt8) (t0:Byt) (hbt:b=c::t0) (hd:dOf (c.toNat:Int)=S3) :
  Ans Tryz.prog 46 [.sl 1 (byv b)] σ (z0N (wholeO (onlyR (dR_3 (c.toNat:Int)) mayR t0))) σ:=by
 obtain⟨hbl,dn,hpos,hx,wc,dr0,le0⟩:=z2A b c t0 hbt;have kf:=z0r (σ++[B19,.box (XC3 c (I 0) (Sx ⟨#[]⟩))]) (c.toNat:Int);rw[hd]at kf;refine Ans.subR ?_ (zhC c t0);refine Ans.of_run' t46 (fun hbel _=>?_)
 simp -implicitDefEqProofs only[c46,r46,go_sem,dn,hpos,hx,bc,wc,List.append_assoc,List.length_append];refine CO.intro kf ?_;simp -implicitDefEqProofs only[go_sem];refine L.step fun J hJ=>?_
 simp -implicitDefEqProofs only[go_sem,z00,List.take_length,ziL,le0,dr0]
 cases h0:numR 1099511627776 t0 with
 |none =>
  have hW:wholeO (onlyR (dR_3 (c.toNat:Int)) mayR t0)=none:=by simp only[onlyR,dR_3,h0,Option.bind_some,Option.bind_none];rfl
  rw[hW];refine CD.intro (z7R (σ++[B19,.box (XC3 c (I 0) (Sx ⟨#[]⟩))]) (σ.length+1) t0 (by omega) _ _ _ _ _ _ _ _ _ _ _ _ _ _ _ _ _ _ (g1 _ _ _ _) h0) ?_
  simp -implicitDefEqProofs only[go_sem,z00,List.take_length];exact tr_ (σ':=σ) (ex:=[_,_]) rfl (z0d _) hbel
 |some x0 =>
 obtain⟨v0,t1⟩:=x0;obtain⟨dr1,lo0,hi0⟩:=(ends_num _).drop (b:=b) (a:=1) (by omega) (by rw[dr0];exact h0)
 have hlt0:=z1E (ends_num _) h0;have ad0:IntKind.i64.wrap ((1:Int)+((t0.length-t1.length:Nat):Int))=((b.length-t1.length:Nat):Int):=by rw[wrapN (by omega) (by omega)];omega
 have le1:(((b.length-t1.length:Nat):Int)≤(b.length:Nat))=True:=eq_true (by omega)
 have k0:=z7S (σ++[B19,.box (XC3 c (I 0) (Sx ⟨#[]⟩))]) (σ.length+1) t0 (by omega) _ _ _ _ _ _ _ _ _ _ _ _ _ _ _ _ _ _ _ (g1 _ _ _ _) v0 t1 h0
 rw[s1]at k0;refine CD.intro k0 ?_;simp -implicitDefEqProofs only[go_sem,z00,ad0,List.take_length];refine hJ _ _ ?_;clear hJ k0;refine L.step fun J hJ=>?_
 simp -implicitDefEqProofs only[go_sem,z00,List.take_length,ziM,le1,dr1]
 cases h1:textR 16 t1 with
 |none =>
  have hW:wholeO (onlyR (dR_3 (c.toNat:Int)) mayR t0)=none:=by simp only[onlyR,dR_3,h0,h1,Option.bind_some,Option.bind_none];rfl
  rw[hW];refine CD.intro (zfy (σ++[B19,.box (XC3 c (I (v0:Nat)) (Sx ⟨#[]⟩))]) (σ.length+1) t1 (by omega) _ _ _ _ _ _ _ _ _ _ _ _ _ _ _ _ _ _ (g1 _ _ _ _) h1) ?_
  simp -implicitDefEqProofs only[go_sem,z00,List.take_length];exact tr_ (σ':=σ) (ex:=[_,_]) rfl (z0d _) hbel
 |some x1 =>
 obtain⟨v1,t2⟩:=x1;obtain⟨dr2,lo1,hi1⟩:=(z0T _).drop (b:=b) (a:=(b.length-t1.length)) (by omega) (by rw[dr1];exact h1)
 have hlt1:=z1E (z0T _) h1;have ad1:IntKind.i64.wrap (((b.length-t1.length:Nat):Int)+((t1.length-t2.length:Nat):Int))=((b.length-t2.length:Nat):Int):=by rw[wrapN (by omega) (by omega)];omega
 have le2:(((b.length-t2.length:Nat):Int)≤(b.length:Nat))=True:=eq_true (by omega)
 have k1:=zfz (σ++[B19,.box (XC3 c (I (v0:Nat)) (Sx ⟨#[]⟩))]) (σ.length+1) t1 (by omega) _ _ _ _ _ _ _ _ _ _ _ _ _ _ _ _ _ _ _ (g1 _ _ _ _) v1 t2 h1
 rw[s1]at k1;refine CD.intro k1 ?_;simp -implicitDefEqProofs only[go_sem,z00,ad1,List.take_length];refine hJ _ _ ?_;clear hJ k1;refine L.step fun J hJ=>?_
 have hcl:onlyR (dR_3 (c.toNat:Int)) mayR t0=if mayR ({ x0 (c.toNat:Int) with id:=((v0:Nat):Int),txt:=v1 }) then some ({ x0 (c.toNat:Int) with id:=((v0:Nat):Int),txt:=v1 },t2) else none:=by simp only[onlyR,dR_3,h0,h1,Option.bind_some]
 rw[hcl];have hsub:Sub (.agg (XC3 c (I (v0:Nat)) (Sx v1))) (reV ({ x0 (c.toNat:Int) with id:=((v0:Nat):Int),txt:=v1 })):=.agg (.cons (.refl _) <| .cons (.refl _) <| .cons (.refl _) <| .cons (.refl _) <| .cons (.refl _) <| .cons (.refl _) <| .cons (.refl _) <| .cons (.nils 3) <| .cons (.refl _) <| .cons (.refl _) <| .cons (.refl _) <| .cons (.nils 3) <| .cons (.nils 3) <| .cons (.refl _) <| .cons (.refl _) <| .cons (.refl _) <| .cons (.nils 1) <| .cons (.nils 2) <| .cons (.refl _) <| .nil)
 have hsm:ReSm ({ x0 (c.toNat:Int) with id:=((v0:Nat):Int),txt:=v1 }):=⟨(by intro x h;cases h),z3R,(by intro x h;cases h)⟩
 have km:=(z1L (σ++[B19,.box (XC3 c (I (v0:Nat)) (Sx v1))]) ({ x0 (c.toNat:Int) with id:=((v0:Nat):Int),txt:=v1 }) hsm).subA (.cons hsub .nil)
 by_cases ht:t2=[]
 · have hk0:t2.length=0:=by rw[ht];rfl
   have de:(((b.length-t2.length:Nat):Int) != ((b.length:Nat):Int))=false:=by
    rw[bne,show((b.length-t2.length:Nat):Int)=((b.length:Nat):Int) from by omega]
    simp
   have hbl2:Bel σ.length (.agg (XC3 c (I (v0:Nat)) (Sx v1))):=.agg _ (fun i hi=>by
     have:∀y∈(XC3 c (I (v0:Nat)) (Sx v1):List AV),Bel σ.length y:=by
      intro y hy;simp only[List.mem_cons,List.not_mem_nil,or_false]at hy;rcases hy with rfl|rfl|rfl|rfl|rfl|rfl|rfl|rfl|rfl|rfl|rfl|rfl|rfl|rfl|rfl|rfl|rfl|rfl|rfl
      all_goals first|exact .pl _|exact .nils|exact z09 _ _|exact z0u _ _|exact z0g _ _
     exact this _ (List.getElem_mem hi))
   simp -implicitDefEqProofs only[go_sem,List.take_length,de];refine CO.intro km ?_
   cases hm:mayR ({ x0 (c.toNat:Int) with id:=((v0:Nat):Int),txt:=v1 }) with
   |false =>
    simp -implicitDefEqProofs only[go_sem];exact tr_ (σ':=σ) (ex:=[_,_]) rfl (z0d _) hbel
   |true =>
    have hW:wholeO (if true=true then some ({ x0 (c.toNat:Int) with id:=((v0:Nat):Int),txt:=v1 },t2) else none)=some ({ x0 (c.toNat:Int) with id:=((v0:Nat):Int),txt:=v1 }):=by rw[ht];rfl
    rw[hW];simp -implicitDefEqProofs only[go_sem];exact tr_ (σ':=σ) (ex:=[_,_]) rfl (z1P hbl2) hbel
 · have hkp:0<t2.length:=by cases t2 with
    |nil=>exact absurd rfl ht
    |cons _ _=>simp
   have de:(((b.length-t2.length:Nat):Int) != ((b.length:Nat):Int))=true:=by
    rw[bne,neI (show((b.length-t2.length:Nat):Int)≠((b.length:Nat):Int) by omega)];rfl
   have hW:wholeO (if mayR ({ x0 (c.toNat:Int) with id:=((v0:Nat):Int),txt:=v1 })=true then some ({ x0 (c.toNat:Int) with id:=((v0:Nat):Int),txt:=v1 },t2) else none)=none:=by
    split
    · cases ht2:t2 with
      |nil=>exact absurd ht2 ht
      |cons _ _=>rfl
    · rfl
   rw[hW];simp -implicitDefEqProofs only[go_sem,List.take_length,de];exact tr_ (σ':=σ) (ex:=[_,_]) rfl (z0d _) hbel
end
end Go.Proofs.YtmkmhhjkdaklbaaGreat
