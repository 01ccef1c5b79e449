/- Whether a request may be, by the document, at some of the strings of fields. Printed by a program. No condition. -/
import Derived.Test.YtmkmhhjkdaklbaaGreatRd3v
import Derived.Test.YtmkmhhjkdaklbaaGreatXMr3v
set_option linter.unusedSimpArgs false
set_option linter.unusedVariables false
set_option linter.unusedSectionVars false
namespace Go.Proofs.YtmkmhhjkdaklbaaGreat
open Go Go.Ab Go.Cod
set_option maxRecDepth 100000
section
variable (σ:St)
set_option maxHeartbeats 8000000 in
theorem z5g (r:ReM) (hr:ReSm r) (hd:dOf r.op=S0):Ans Tryz.prog 89 [reV r] σ (Bo (docB r S0)) σ:=by
 obtain⟨tok,op,id,txt,st,en,sta,mt,any,lo,hi,⟨src,tgt,ra,rl,rh,eq⟩,ls,val⟩:=r;obtain⟨hm,hru,hls⟩:=hr;simp only at hm hru hls hd;have k1:=z0o σ op;rw[hd]at k1;have ii:=fun c h=>z2u σ S0 c h
 have i73:=ii 73 (by decide)
 have i84:=ii 84 (by decide)
 have i83:=ii 83 (by decide)
 have i90:=ii 90 (by decide)
 have i77:=ii 77 (by decide)
 have i66:=ii 66 (by decide)
 have i82:=ii 82 (by decide)
 have i76:=ii 76 (by decide)
 simp only[hc_0]at i73 i84 i83 i90 i77 i66 i82 i76;have b0:=z2t σ txt;have b1:=z19 σ mt hm;have b2:=z1y σ (any,lo,hi);have b3:=z25 σ any lo hi;have b4:=z1I σ ⟨src,tgt,ra,rl,rh,eq⟩ hru;have b5:=z1O σ ⟨src,tgt,ra,rl,rh,eq⟩;have b6:=z27 σ ls hls;have b7:=z0U σ val;unfold bandV at b2;unfold ruV at b4 b5;unfold docB;simp only[hc_0,Bool.true_or,Bool.false_or,Bool.not_true,Bool.not_false,Bool.true_and,if_true,Bool.false_eq_true,if_false];refine Ans.of_run t89 ?_;unfold reV reC;simp -implicitDefEqProofs only[c89,r89,go_sem];refine CO.intro k1 ?_;simp -implicitDefEqProofs only[go_sem];refine CO.intro i73 ?_
 cases h0:(id==0) with
 |false =>
  have fh00:=ne_of h0;simp -implicitDefEqProofs only[go_sem,h0,fh00];exact Fini.ret rfl
 |true =>
 have fh00:=ne_of h0
 cases h1:(decide (0≤id)) with
 |false =>
  have fh10:=lt_of h1;simp -implicitDefEqProofs only[go_sem,h0,fh00,h1,fh10];exact Fini.ret rfl
 |true =>
 have fh10:=lt_of h1
 cases h2:(decide (id≤2147483647)) with
 |false =>
  have fh20:=gt_of h2;simp -implicitDefEqProofs only[go_sem,h0,fh00,h1,fh10,h2,fh20];exact Fini.ret rfl
 |true =>
 have fh20:=gt_of h2;simp -implicitDefEqProofs only[go_sem,h0,fh00,h1,fh10,h2,fh20];refine CO.intro i84 ?_;simp -implicitDefEqProofs only[go_sem];refine CO.intro i84 ?_;unfold emS
 cases h3:(txt.toList==(⟨#[]⟩:ByteArray).toList) with
 |false =>
  simp -implicitDefEqProofs only[go_sem,h3];exact Fini.ret rfl
 |true =>
 simp -implicitDefEqProofs only[go_sem,h3];refine CO.intro i83 ?_;unfold emU
 cases h4:(((st:Nat):Int)==0) with
 |false =>
  have fh40:=ne_of h4;simp -implicitDefEqProofs only[go_sem,h4,fh40];exact Fini.ret rfl
 |true =>
 have fh40:=ne_of h4
 cases h5:(((en:Nat):Int)==0) with
 |false =>
  have fh50:=ne_of h5;simp -implicitDefEqProofs only[go_sem,h4,fh40,h5,fh50];exact Fini.ret rfl
 |true =>
 have fh50:=ne_of h5;unfold clkB
 cases h6:(decide (((st:Nat):Int)≤1099511627776)) with
 |false =>
  have fh60:=gt_of h6;simp -implicitDefEqProofs only[go_sem,h4,fh40,h5,fh50,h6,fh60];exact Fini.ret rfl
 |true =>
 have fh60:=gt_of h6
 cases h7:(decide (((en:Nat):Int)≤1099511627776)) with
 |false =>
  have fh70:=gt_of h7;simp -implicitDefEqProofs only[go_sem,h4,fh40,h5,fh50,h6,fh60,h7,fh70];exact Fini.ret rfl
 |true =>
 have fh70:=gt_of h7;simp -implicitDefEqProofs only[go_sem,h4,fh40,h5,fh50,h6,fh60,h7,fh70];refine CO.intro i90 ?_
 cases h8:(sta==0) with
 |false =>
  have fh80:=ne_of h8;simp -implicitDefEqProofs only[go_sem,h8,fh80];exact Fini.ret rfl
 |true =>
 have fh80:=ne_of h8
 cases h9:(decide (0≤sta)) with
 |false =>
  have fh90:=lt_of h9;simp -implicitDefEqProofs only[go_sem,h8,fh80,h9,fh90];exact Fini.ret rfl
 |true =>
 have fh90:=lt_of h9
 cases h10:(decide (sta≤3)) with
 |false =>
  have fh100:=gt_of h10;simp -implicitDefEqProofs only[go_sem,h8,fh80,h9,fh90,h10,fh100];exact Fini.ret rfl
 |true =>
 have fh100:=gt_of h10;simp -implicitDefEqProofs only[go_sem,h8,fh80,h9,fh90,h10,fh100];refine CO.intro i77 ?_;have hl:=z4X mt.length
 cases hm0:(emI mt.length) with
 |false =>
  rw[hm0]at hl;simp -implicitDefEqProofs only[go_sem,hl];exact Fini.ret rfl
 |true =>
 rw[hm0]at hl;simp -implicitDefEqProofs only[go_sem,hl];refine CO.intro i83 ?_;simp -implicitDefEqProofs only[go_sem];refine CO.intro b1 ?_
 cases h11:(listB mt) with
 |false =>
  simp -implicitDefEqProofs only[go_sem];exact Fini.ret rfl
 |true =>
 simp -implicitDefEqProofs only[go_sem];refine CO.intro i66 ?_;simp -implicitDefEqProofs only[go_sem];refine CO.intro b2 ?_
 cases h12:(noBd (any,lo,hi)) with
 |false =>
  simp -implicitDefEqProofs only[go_sem];exact Fini.ret rfl
 |true =>
 simp -implicitDefEqProofs only[go_sem];refine CO.intro b3 ?_
 cases h13:(mayB any lo hi) with
 |false =>
  simp -implicitDefEqProofs only[go_sem];exact Fini.ret rfl
 |true =>
 simp -implicitDefEqProofs only[go_sem];refine CO.intro i82 ?_;simp -implicitDefEqProofs only[go_sem];refine CO.intro i82 ?_;simp -implicitDefEqProofs only[go_sem];refine CO.intro b5 ?_
 cases h14:(noRl ⟨src,tgt,ra,rl,rh,eq⟩) with
 |false =>
  simp -implicitDefEqProofs only[go_sem];exact Fini.ret rfl
 |true =>
 simp -implicitDefEqProofs only[go_sem];refine CO.intro i76 ?_;unfold emI zF
 cases h15:(((ls.length:Nat):Int)==0) with
 |false =>
  simp -implicitDefEqProofs only[go_sem,h15];exact Fini.ret rfl
 |true =>
 simp -implicitDefEqProofs only[go_sem,h15];refine CO.intro b7 ?_;simp -implicitDefEqProofs only[go_sem];exact Fini.ret rfl
set_option maxHeartbeats 8000000 in
theorem z4r (r:ReM) (hr:ReSm r) (hd:dOf r.op=S1):Ans Tryz.prog 89 [reV r] σ (Bo (docB r S1)) σ:=by
 obtain⟨tok,op,id,txt,st,en,sta,mt,any,lo,hi,⟨src,tgt,ra,rl,rh,eq⟩,ls,val⟩:=r;obtain⟨hm,hru,hls⟩:=hr;simp only at hm hru hls hd;have k1:=z0o σ op;rw[hd]at k1;have ii:=fun c h=>z2u σ S1 c h
 have i73:=ii 73 (by decide)
 have i84:=ii 84 (by decide)
 have i83:=ii 83 (by decide)
 have i90:=ii 90 (by decide)
 have i77:=ii 77 (by decide)
 have i66:=ii 66 (by decide)
 have i82:=ii 82 (by decide)
 have i76:=ii 76 (by decide)
 simp only[hc_1]at i73 i84 i83 i90 i77 i66 i82 i76;have b0:=z2t σ txt;have b1:=z19 σ mt hm;have b2:=z1y σ (any,lo,hi);have b3:=z25 σ any lo hi;have b4:=z1I σ ⟨src,tgt,ra,rl,rh,eq⟩ hru;have b5:=z1O σ ⟨src,tgt,ra,rl,rh,eq⟩;have b6:=z27 σ ls hls;have b7:=z0U σ val;unfold bandV at b2;unfold ruV at b4 b5;unfold docB;simp only[hc_1,Bool.true_or,Bool.false_or,Bool.not_true,Bool.not_false,Bool.true_and,if_true,Bool.false_eq_true,if_false];refine Ans.of_run t89 ?_;unfold reV reC;simp -implicitDefEqProofs only[c89,r89,go_sem];refine CO.intro k1 ?_;simp -implicitDefEqProofs only[go_sem];refine CO.intro i73 ?_
 cases h0:(decide (0≤id)) with
 |false =>
  have fh00:=lt_of h0;simp -implicitDefEqProofs only[go_sem,h0,fh00];exact Fini.ret rfl
 |true =>
 have fh00:=lt_of h0
 cases h1:(decide (id≤2147483647)) with
 |false =>
  have fh10:=gt_of h1;simp -implicitDefEqProofs only[go_sem,h0,fh00,h1,fh10];exact Fini.ret rfl
 |true =>
 have fh10:=gt_of h1;simp -implicitDefEqProofs only[go_sem,h0,fh00,h1,fh10];refine CO.intro i84 ?_;simp -implicitDefEqProofs only[go_sem];refine CO.intro i84 ?_;unfold emS
 cases h2:(txt.toList==(⟨#[]⟩:ByteArray).toList) with
 |false =>
  simp -implicitDefEqProofs only[go_sem,h2];exact Fini.ret rfl
 |true =>
 simp -implicitDefEqProofs only[go_sem,h2];refine CO.intro i83 ?_;unfold emU
 cases h3:(((st:Nat):Int)==0) with
 |false =>
  have fh30:=ne_of h3;simp -implicitDefEqProofs only[go_sem,h3,fh30];exact Fini.ret rfl
 |true =>
 have fh30:=ne_of h3
 cases h4:(((en:Nat):Int)==0) with
 |false =>
  have fh40:=ne_of h4;simp -implicitDefEqProofs only[go_sem,h3,fh30,h4,fh40];exact Fini.ret rfl
 |true =>
 have fh40:=ne_of h4;unfold clkB
 cases h5:(decide (((st:Nat):Int)≤1099511627776)) with
 |false =>
  have fh50:=gt_of h5;simp -implicitDefEqProofs only[go_sem,h3,fh30,h4,fh40,h5,fh50];exact Fini.ret rfl
 |true =>
 have fh50:=gt_of h5
 cases h6:(decide (((en:Nat):Int)≤1099511627776)) with
 |false =>
  have fh60:=gt_of h6;simp -implicitDefEqProofs only[go_sem,h3,fh30,h4,fh40,h5,fh50,h6,fh60];exact Fini.ret rfl
 |true =>
 have fh60:=gt_of h6;simp -implicitDefEqProofs only[go_sem,h3,fh30,h4,fh40,h5,fh50,h6,fh60];refine CO.intro i90 ?_
 cases h7:(sta==0) with
 |false =>
  have fh70:=ne_of h7;simp -implicitDefEqProofs only[go_sem,h7,fh70];exact Fini.ret rfl
 |true =>
 have fh70:=ne_of h7
 cases h8:(decide (0≤sta)) with
 |false =>
  have fh80:=lt_of h8;simp -implicitDefEqProofs only[go_sem,h7,fh70,h8,fh80];exact Fini.ret rfl
 |true =>
 have fh80:=lt_of h8
 cases h9:(decide (sta≤3)) with
 |false =>
  have fh90:=gt_of h9;simp -implicitDefEqProofs only[go_sem,h7,fh70,h8,fh80,h9,fh90];exact Fini.ret rfl
 |true =>
 have fh90:=gt_of h9;simp -implicitDefEqProofs only[go_sem,h7,fh70,h8,fh80,h9,fh90];refine CO.intro i77 ?_;have hl:=z4X mt.length
 cases hm0:(emI mt.length) with
 |false =>
  rw[hm0]at hl;simp -implicitDefEqProofs only[go_sem,hl];exact Fini.ret rfl
 |true =>
 rw[hm0]at hl;simp -implicitDefEqProofs only[go_sem,hl];refine CO.intro i83 ?_;simp -implicitDefEqProofs only[go_sem];refine CO.intro b1 ?_
 cases h10:(listB mt) with
 |false =>
  simp -implicitDefEqProofs only[go_sem];exact Fini.ret rfl
 |true =>
 simp -implicitDefEqProofs only[go_sem];refine CO.intro i66 ?_;simp -implicitDefEqProofs only[go_sem];refine CO.intro b2 ?_
 cases h11:(noBd (any,lo,hi)) with
 |false =>
  simp -implicitDefEqProofs only[go_sem];exact Fini.ret rfl
 |true =>
 simp -implicitDefEqProofs only[go_sem];refine CO.intro b3 ?_
 cases h12:(mayB any lo hi) with
 |false =>
  simp -implicitDefEqProofs only[go_sem];exact Fini.ret rfl
 |true =>
 simp -implicitDefEqProofs only[go_sem];refine CO.intro i82 ?_;simp -implicitDefEqProofs only[go_sem];refine CO.intro i82 ?_;simp -implicitDefEqProofs only[go_sem];refine CO.intro b5 ?_
 cases h13:(noRl ⟨src,tgt,ra,rl,rh,eq⟩) with
 |false =>
  simp -implicitDefEqProofs only[go_sem];exact Fini.ret rfl
 |true =>
 simp -implicitDefEqProofs only[go_sem];refine CO.intro i76 ?_;unfold emI zF
 cases h14:(((ls.length:Nat):Int)==0) with
 |false =>
  simp -implicitDefEqProofs only[go_sem,h14];exact Fini.ret rfl
 |true =>
 simp -implicitDefEqProofs only[go_sem,h14];refine CO.intro b7 ?_;simp -implicitDefEqProofs only[go_sem];exact Fini.ret rfl
set_option maxHeartbeats 8000000 in
theorem zaM (r:ReM) (hr:ReSm r) (hd:dOf r.op=S3):Ans Tryz.prog 89 [reV r] σ (Bo (docB r S3)) σ:=by
 obtain⟨tok,op,id,txt,st,en,sta,mt,any,lo,hi,⟨src,tgt,ra,rl,rh,eq⟩,ls,val⟩:=r;obtain⟨hm,hru,hls⟩:=hr;simp only at hm hru hls hd;have k1:=z0o σ op;rw[hd]at k1;have ii:=fun c h=>z2u σ S3 c h
 have i73:=ii 73 (by decide)
 have i84:=ii 84 (by decide)
 have i83:=ii 83 (by decide)
 have i90:=ii 90 (by decide)
 have i77:=ii 77 (by decide)
 have i66:=ii 66 (by decide)
 have i82:=ii 82 (by decide)
 have i76:=ii 76 (by decide)
 simp only[hc_3]at i73 i84 i83 i90 i77 i66 i82 i76;have b0:=z2t σ txt;have b1:=z19 σ mt hm;have b2:=z1y σ (any,lo,hi);have b3:=z25 σ any lo hi;have b4:=z1I σ ⟨src,tgt,ra,rl,rh,eq⟩ hru;have b5:=z1O σ ⟨src,tgt,ra,rl,rh,eq⟩;have b6:=z27 σ ls hls;have b7:=z0U σ val;unfold bandV at b2;unfold ruV at b4 b5;unfold docB;simp only[hc_3,Bool.true_or,Bool.false_or,Bool.not_true,Bool.not_false,Bool.true_and,if_true,Bool.false_eq_true,if_false];refine Ans.of_run t89 ?_;unfold reV reC;simp -implicitDefEqProofs only[c89,r89,go_sem];refine CO.intro k1 ?_;simp -implicitDefEqProofs only[go_sem];refine CO.intro i73 ?_
 cases h0:(decide (0≤id)) with
 |false =>
  have fh00:=lt_of h0;simp -implicitDefEqProofs only[go_sem,h0,fh00];exact Fini.ret rfl
 |true =>
 have fh00:=lt_of h0
 cases h1:(decide (id≤2147483647)) with
 |false =>
  have fh10:=gt_of h1;simp -implicitDefEqProofs only[go_sem,h0,fh00,h1,fh10];exact Fini.ret rfl
 |true =>
 have fh10:=gt_of h1;simp -implicitDefEqProofs only[go_sem,h0,fh00,h1,fh10];refine CO.intro i84 ?_;simp -implicitDefEqProofs only[go_sem];refine CO.intro b0 ?_
 cases h2:(tokB txt) with
 |false =>
  simp -implicitDefEqProofs only[go_sem];exact Fini.ret rfl
 |true =>
 simp -implicitDefEqProofs only[go_sem];refine CO.intro i84 ?_;simp -implicitDefEqProofs only[go_sem];refine CO.intro i83 ?_;unfold emU
 cases h3:(((st:Nat):Int)==0) with
 |false =>
  have fh30:=ne_of h3;simp -implicitDefEqProofs only[go_sem,h3,fh30];exact Fini.ret rfl
 |true =>
 have fh30:=ne_of h3
 cases h4:(((en:Nat):Int)==0) with
 |false =>
  have fh40:=ne_of h4;simp -implicitDefEqProofs only[go_sem,h3,fh30,h4,fh40];exact Fini.ret rfl
 |true =>
 have fh40:=ne_of h4;unfold clkB
 cases h5:(decide (((st:Nat):Int)≤1099511627776)) with
 |false =>
  have fh50:=gt_of h5;simp -implicitDefEqProofs only[go_sem,h3,fh30,h4,fh40,h5,fh50];exact Fini.ret rfl
 |true =>
 have fh50:=gt_of h5
 cases h6:(decide (((en:Nat):Int)≤1099511627776)) with
 |false =>
  have fh60:=gt_of h6;simp -implicitDefEqProofs only[go_sem,h3,fh30,h4,fh40,h5,fh50,h6,fh60];exact Fini.ret rfl
 |true =>
 have fh60:=gt_of h6;simp -implicitDefEqProofs only[go_sem,h3,fh30,h4,fh40,h5,fh50,h6,fh60];refine CO.intro i90 ?_
 cases h7:(sta==0) with
 |false =>
  have fh70:=ne_of h7;simp -implicitDefEqProofs only[go_sem,h7,fh70];exact Fini.ret rfl
 |true =>
 have fh70:=ne_of h7
 cases h8:(decide (0≤sta)) with
 |false =>
  have fh80:=lt_of h8;simp -implicitDefEqProofs only[go_sem,h7,fh70,h8,fh80];exact Fini.ret rfl
 |true =>
 have fh80:=lt_of h8
 cases h9:(decide (sta≤3)) with
 |false =>
  have fh90:=gt_of h9;simp -implicitDefEqProofs only[go_sem,h7,fh70,h8,fh80,h9,fh90];exact Fini.ret rfl
 |true =>
 have fh90:=gt_of h9;simp -implicitDefEqProofs only[go_sem,h7,fh70,h8,fh80,h9,fh90];refine CO.intro i77 ?_;have hl:=z4X mt.length
 cases hm0:(emI mt.length) with
 |false =>
  rw[hm0]at hl;simp -implicitDefEqProofs only[go_sem,hl];exact Fini.ret rfl
 |true =>
 rw[hm0]at hl;simp -implicitDefEqProofs only[go_sem,hl];refine CO.intro i83 ?_;simp -implicitDefEqProofs only[go_sem];refine CO.intro b1 ?_
 cases h10:(listB mt) with
 |false =>
  simp -implicitDefEqProofs only[go_sem];exact Fini.ret rfl
 |true =>
 simp -implicitDefEqProofs only[go_sem];refine CO.intro i66 ?_;simp -implicitDefEqProofs only[go_sem];refine CO.intro b2 ?_
 cases h11:(noBd (any,lo,hi)) with
 |false =>
  simp -implicitDefEqProofs only[go_sem];exact Fini.ret rfl
 |true =>
 simp -implicitDefEqProofs only[go_sem];refine CO.intro b3 ?_
 cases h12:(mayB any lo hi) with
 |false =>
  simp -implicitDefEqProofs only[go_sem];exact Fini.ret rfl
 |true =>
 simp -implicitDefEqProofs only[go_sem];refine CO.intro i82 ?_;simp -implicitDefEqProofs only[go_sem];refine CO.intro i82 ?_;simp -implicitDefEqProofs only[go_sem];refine CO.intro b5 ?_
 cases h13:(noRl ⟨src,tgt,ra,rl,rh,eq⟩) with
 |false =>
  simp -implicitDefEqProofs only[go_sem];exact Fini.ret rfl
 |true =>
 simp -implicitDefEqProofs only[go_sem];refine CO.intro i76 ?_;unfold emI zF
 cases h14:(((ls.length:Nat):Int)==0) with
 |false =>
  simp -implicitDefEqProofs only[go_sem,h14];exact Fini.ret rfl
 |true =>
 simp -implicitDefEqProofs only[go_sem,h14];refine CO.intro b7 ?_;simp -implicitDefEqProofs only[go_sem];exact Fini.ret rfl
end
section
variable (σ:St)
set_option maxHeartbeats 8000000 in
theorem zbF (r:ReM) (hr:ReSm r) (hd:dOf r.op=S116):Ans Tryz.prog 89 [reV r] σ (Bo (docB r S116)) σ:=by
 obtain⟨tok,op,id,txt,st,en,sta,mt,any,lo,hi,⟨src,tgt,ra,rl,rh,eq⟩,ls,val⟩:=r;obtain⟨hm,hru,hls⟩:=hr;simp only at hm hru hls hd;have k1:=z0o σ op;rw[hd]at k1;have ii:=fun c h=>z2u σ S116 c h
 have i73:=ii 73 (by decide)
 have i84:=ii 84 (by decide)
 have i83:=ii 83 (by decide)
 have i90:=ii 90 (by decide)
 have i77:=ii 77 (by decide)
 have i66:=ii 66 (by decide)
 have i82:=ii 82 (by decide)
 have i76:=ii 76 (by decide)
 simp only[zdo]at i73 i84 i83 i90 i77 i66 i82 i76;have b0:=z2t σ txt;have b1:=z19 σ mt hm;have b2:=z1y σ (any,lo,hi);have b3:=z25 σ any lo hi;have b4:=z1I σ ⟨src,tgt,ra,rl,rh,eq⟩ hru;have b5:=z1O σ ⟨src,tgt,ra,rl,rh,eq⟩;have b6:=z27 σ ls hls;have b7:=z0U σ val;unfold bandV at b2;unfold ruV at b4 b5;unfold docB;simp only[zdo,Bool.true_or,Bool.false_or,Bool.not_true,Bool.not_false,Bool.true_and,if_true,Bool.false_eq_true,if_false];refine Ans.of_run t89 ?_;unfold reV reC;simp -implicitDefEqProofs only[c89,r89,go_sem];refine CO.intro k1 ?_;simp -implicitDefEqProofs only[go_sem];refine CO.intro i73 ?_
 cases h0:(id==0) with
 |false =>
  have fh00:=ne_of h0;simp -implicitDefEqProofs only[go_sem,h0,fh00];exact Fini.ret rfl
 |true =>
 have fh00:=ne_of h0
 cases h1:(decide (0≤id)) with
 |false =>
  have fh10:=lt_of h1;simp -implicitDefEqProofs only[go_sem,h0,fh00,h1,fh10];exact Fini.ret rfl
 |true =>
 have fh10:=lt_of h1
 cases h2:(decide (id≤2147483647)) with
 |false =>
  have fh20:=gt_of h2;simp -implicitDefEqProofs only[go_sem,h0,fh00,h1,fh10,h2,fh20];exact Fini.ret rfl
 |true =>
 have fh20:=gt_of h2;simp -implicitDefEqProofs only[go_sem,h0,fh00,h1,fh10,h2,fh20];refine CO.intro i84 ?_;simp -implicitDefEqProofs only[go_sem];refine CO.intro i84 ?_;unfold emS
 cases h3:(txt.toList==(⟨#[]⟩:ByteArray).toList) with
 |false =>
  simp -implicitDefEqProofs only[go_sem,h3];exact Fini.ret rfl
 |true =>
 simp -implicitDefEqProofs only[go_sem,h3];refine CO.intro i83 ?_;unfold clkB
 cases h4:(decide (((st:Nat):Int)≤1099511627776)) with
 |false =>
  have fh40:=gt_of h4;simp -implicitDefEqProofs only[go_sem,h4,fh40];exact Fini.ret rfl
 |true =>
 have fh40:=gt_of h4
 cases h5:(decide (((en:Nat):Int)≤1099511627776)) with
 |false =>
  have fh50:=gt_of h5;simp -implicitDefEqProofs only[go_sem,h4,fh40,h5,fh50];exact Fini.ret rfl
 |true =>
 have fh50:=gt_of h5;simp -implicitDefEqProofs only[go_sem,h4,fh40,h5,fh50];refine CO.intro i90 ?_
 cases h6:(sta==0) with
 |false =>
  have fh60:=ne_of h6;simp -implicitDefEqProofs only[go_sem,h6,fh60];exact Fini.ret rfl
 |true =>
 have fh60:=ne_of h6
 cases h7:(decide (0≤sta)) with
 |false =>
  have fh70:=lt_of h7;simp -implicitDefEqProofs only[go_sem,h6,fh60,h7,fh70];exact Fini.ret rfl
 |true =>
 have fh70:=lt_of h7
 cases h8:(decide (sta≤3)) with
 |false =>
  have fh80:=gt_of h8;simp -implicitDefEqProofs only[go_sem,h6,fh60,h7,fh70,h8,fh80];exact Fini.ret rfl
 |true =>
 have fh80:=gt_of h8;simp -implicitDefEqProofs only[go_sem,h6,fh60,h7,fh70,h8,fh80];refine CO.intro i77 ?_;simp -implicitDefEqProofs only[go_sem];refine CO.intro i83 ?_;have hl:(((mt.length:Nat):Int)==0)= !(!emI mt.length):=by rw[Bool.not_not];rfl
 cases hm0:(!emI mt.length) with
 |false =>
  rw[hm0]at hl;simp -implicitDefEqProofs only[go_sem,hl];exact Fini.ret rfl
 |true =>
 rw[hm0]at hl;simp -implicitDefEqProofs only[go_sem,hl];refine CO.intro b1 ?_
 cases h9:(listB mt) with
 |false =>
  simp -implicitDefEqProofs only[go_sem];exact Fini.ret rfl
 |true =>
 simp -implicitDefEqProofs only[go_sem];refine CO.intro i66 ?_;simp -implicitDefEqProofs only[go_sem];refine CO.intro b3 ?_
 cases h10:(mayB any lo hi) with
 |false =>
  simp -implicitDefEqProofs only[go_sem];exact Fini.ret rfl
 |true =>
 simp -implicitDefEqProofs only[go_sem];refine CO.intro i82 ?_;simp -implicitDefEqProofs only[go_sem];refine CO.intro i82 ?_;simp -implicitDefEqProofs only[go_sem];refine CO.intro b5 ?_
 cases h11:(noRl ⟨src,tgt,ra,rl,rh,eq⟩) with
 |false =>
  simp -implicitDefEqProofs only[go_sem];exact Fini.ret rfl
 |true =>
 simp -implicitDefEqProofs only[go_sem];refine CO.intro i76 ?_;unfold emI zF
 cases h12:(((ls.length:Nat):Int)==0) with
 |false =>
  simp -implicitDefEqProofs only[go_sem,h12];exact Fini.ret rfl
 |true =>
 simp -implicitDefEqProofs only[go_sem,h12];refine CO.intro b7 ?_;simp -implicitDefEqProofs only[go_sem];exact Fini.ret rfl
set_option maxHeartbeats 8000000 in
theorem zbG (r:ReM) (hr:ReSm r) (hd:dOf r.op=S117):Ans Tryz.prog 89 [reV r] σ (Bo (docB r S117)) σ:=by
 obtain⟨tok,op,id,txt,st,en,sta,mt,any,lo,hi,⟨src,tgt,ra,rl,rh,eq⟩,ls,val⟩:=r;obtain⟨hm,hru,hls⟩:=hr;simp only at hm hru hls hd;have k1:=z0o σ op;rw[hd]at k1;have ii:=fun c h=>z2u σ S117 c h
 have i73:=ii 73 (by decide)
 have i84:=ii 84 (by decide)
 have i83:=ii 83 (by decide)
 have i90:=ii 90 (by decide)
 have i77:=ii 77 (by decide)
 have i66:=ii 66 (by decide)
 have i82:=ii 82 (by decide)
 have i76:=ii 76 (by decide)
 simp only[zdp]at i73 i84 i83 i90 i77 i66 i82 i76;have b0:=z2t σ txt;have b1:=z19 σ mt hm;have b2:=z1y σ (any,lo,hi);have b3:=z25 σ any lo hi;have b4:=z1I σ ⟨src,tgt,ra,rl,rh,eq⟩ hru;have b5:=z1O σ ⟨src,tgt,ra,rl,rh,eq⟩;have b6:=z27 σ ls hls;have b7:=z0U σ val;unfold bandV at b2;unfold ruV at b4 b5;unfold docB;simp only[zdp,Bool.true_or,Bool.false_or,Bool.not_true,Bool.not_false,Bool.true_and,if_true,Bool.false_eq_true,if_false];refine Ans.of_run t89 ?_;unfold reV reC;simp -implicitDefEqProofs only[c89,r89,go_sem];refine CO.intro k1 ?_;simp -implicitDefEqProofs only[go_sem];refine CO.intro i73 ?_
 cases h0:(decide (0≤id)) with
 |false =>
  have fh00:=lt_of h0;simp -implicitDefEqProofs only[go_sem,h0,fh00];exact Fini.ret rfl
 |true =>
 have fh00:=lt_of h0
 cases h1:(decide (id≤2147483647)) with
 |false =>
  have fh10:=gt_of h1;simp -implicitDefEqProofs only[go_sem,h0,fh00,h1,fh10];exact Fini.ret rfl
 |true =>
 have fh10:=gt_of h1;simp -implicitDefEqProofs only[go_sem,h0,fh00,h1,fh10];refine CO.intro i84 ?_;simp -implicitDefEqProofs only[go_sem];refine CO.intro i84 ?_;unfold emS
 cases h2:(txt.toList==(⟨#[]⟩:ByteArray).toList) with
 |false =>
  simp -implicitDefEqProofs only[go_sem,h2];exact Fini.ret rfl
 |true =>
 simp -implicitDefEqProofs only[go_sem,h2];refine CO.intro i83 ?_;unfold clkB
 cases h3:(decide (((st:Nat):Int)≤1099511627776)) with
 |false =>
  have fh30:=gt_of h3;simp -implicitDefEqProofs only[go_sem,h3,fh30];exact Fini.ret rfl
 |true =>
 have fh30:=gt_of h3
 cases h4:(decide (((en:Nat):Int)≤1099511627776)) with
 |false =>
  have fh40:=gt_of h4;simp -implicitDefEqProofs only[go_sem,h3,fh30,h4,fh40];exact Fini.ret rfl
 |true =>
 have fh40:=gt_of h4;simp -implicitDefEqProofs only[go_sem,h3,fh30,h4,fh40];refine CO.intro i90 ?_
 cases h5:(sta==0) with
 |false =>
  have fh50:=ne_of h5;simp -implicitDefEqProofs only[go_sem,h5,fh50];exact Fini.ret rfl
 |true =>
 have fh50:=ne_of h5
 cases h6:(decide (0≤sta)) with
 |false =>
  have fh60:=lt_of h6;simp -implicitDefEqProofs only[go_sem,h5,fh50,h6,fh60];exact Fini.ret rfl
 |true =>
 have fh60:=lt_of h6
 cases h7:(decide (sta≤3)) with
 |false =>
  have fh70:=gt_of h7;simp -implicitDefEqProofs only[go_sem,h5,fh50,h6,fh60,h7,fh70];exact Fini.ret rfl
 |true =>
 have fh70:=gt_of h7;simp -implicitDefEqProofs only[go_sem,h5,fh50,h6,fh60,h7,fh70];refine CO.intro i77 ?_;simp -implicitDefEqProofs only[go_sem];refine CO.intro i83 ?_;have hl:(((mt.length:Nat):Int)==0)= !(!emI mt.length):=by rw[Bool.not_not];rfl
 cases hm0:(!emI mt.length) with
 |false =>
  rw[hm0]at hl;simp -implicitDefEqProofs only[go_sem,hl];exact Fini.ret rfl
 |true =>
 rw[hm0]at hl;simp -implicitDefEqProofs only[go_sem,hl];refine CO.intro b1 ?_
 cases h8:(listB mt) with
 |false =>
  simp -implicitDefEqProofs only[go_sem];exact Fini.ret rfl
 |true =>
 simp -implicitDefEqProofs only[go_sem];refine CO.intro i66 ?_;simp -implicitDefEqProofs only[go_sem];refine CO.intro b3 ?_
 cases h9:(mayB any lo hi) with
 |false =>
  simp -implicitDefEqProofs only[go_sem];exact Fini.ret rfl
 |true =>
 simp -implicitDefEqProofs only[go_sem];refine CO.intro i82 ?_;simp -implicitDefEqProofs only[go_sem];refine CO.intro i82 ?_;simp -implicitDefEqProofs only[go_sem];refine CO.intro b5 ?_
 cases h10:(noRl ⟨src,tgt,ra,rl,rh,eq⟩) with
 |false =>
  simp -implicitDefEqProofs only[go_sem];exact Fini.ret rfl
 |true =>
 simp -implicitDefEqProofs only[go_sem];refine CO.intro i76 ?_;unfold emI zF
 cases h11:(((ls.length:Nat):Int)==0) with
 |false =>
  simp -implicitDefEqProofs only[go_sem,h11];exact Fini.ret rfl
 |true =>
 simp -implicitDefEqProofs only[go_sem,h11];refine CO.intro b7 ?_;simp -implicitDefEqProofs only[go_sem];exact Fini.ret rfl
end
section
variable (σ:St)
set_option maxHeartbeats 8000000 in
theorem zeX (r:ReM) (hr:ReSm r) (hd:dOf r.op=S8):Ans Tryz.prog 89 [reV r] σ (Bo (docB r S8)) σ:=by
 obtain⟨tok,op,id,txt,st,en,sta,mt,any,lo,hi,⟨src,tgt,ra,rl,rh,eq⟩,ls,val⟩:=r;obtain⟨hm,hru,hls⟩:=hr;simp only at hm hru hls hd;have k1:=z0o σ op;rw[hd]at k1;have ii:=fun c h=>z2u σ S8 c h
 have i73:=ii 73 (by decide)
 have i84:=ii 84 (by decide)
 have i83:=ii 83 (by decide)
 have i90:=ii 90 (by decide)
 have i77:=ii 77 (by decide)
 have i66:=ii 66 (by decide)
 have i82:=ii 82 (by decide)
 have i76:=ii 76 (by decide)
 simp only[hc_8]at i73 i84 i83 i90 i77 i66 i82 i76;have b0:=z2t σ txt;have b1:=z19 σ mt hm;have b2:=z1y σ (any,lo,hi);have b3:=z25 σ any lo hi;have b4:=z1I σ ⟨src,tgt,ra,rl,rh,eq⟩ hru;have b5:=z1O σ ⟨src,tgt,ra,rl,rh,eq⟩;have b6:=z27 σ ls hls;have b7:=z0U σ val;unfold bandV at b2;unfold ruV at b4 b5;unfold docB;simp only[hc_8,Bool.true_or,Bool.false_or,Bool.not_true,Bool.not_false,Bool.true_and,if_true,Bool.false_eq_true,if_false];refine Ans.of_run t89 ?_;unfold reV reC;simp -implicitDefEqProofs only[c89,r89,go_sem];refine CO.intro k1 ?_;simp -implicitDefEqProofs only[go_sem];refine CO.intro i73 ?_
 cases h0:(id==0) with
 |false =>
  have fh00:=ne_of h0;simp -implicitDefEqProofs only[go_sem,h0,fh00];exact Fini.ret rfl
 |true =>
 have fh00:=ne_of h0
 cases h1:(decide (0≤id)) with
 |false =>
  have fh10:=lt_of h1;simp -implicitDefEqProofs only[go_sem,h0,fh00,h1,fh10];exact Fini.ret rfl
 |true =>
 have fh10:=lt_of h1
 cases h2:(decide (id≤2147483647)) with
 |false =>
  have fh20:=gt_of h2;simp -implicitDefEqProofs only[go_sem,h0,fh00,h1,fh10,h2,fh20];exact Fini.ret rfl
 |true =>
 have fh20:=gt_of h2;simp -implicitDefEqProofs only[go_sem,h0,fh00,h1,fh10,h2,fh20];refine CO.intro i84 ?_;simp -implicitDefEqProofs only[go_sem];refine CO.intro i84 ?_;unfold emS
 cases h3:(txt.toList==(⟨#[]⟩:ByteArray).toList) with
 |false =>
  simp -implicitDefEqProofs only[go_sem,h3];exact Fini.ret rfl
 |true =>
 simp -implicitDefEqProofs only[go_sem,h3];refine CO.intro i83 ?_;unfold emU
 cases h4:(((st:Nat):Int)==0) with
 |false =>
  have fh40:=ne_of h4;simp -implicitDefEqProofs only[go_sem,h4,fh40];exact Fini.ret rfl
 |true =>
 have fh40:=ne_of h4
 cases h5:(((en:Nat):Int)==0) with
 |false =>
  have fh50:=ne_of h5;simp -implicitDefEqProofs only[go_sem,h4,fh40,h5,fh50];exact Fini.ret rfl
 |true =>
 have fh50:=ne_of h5;unfold clkB
 cases h6:(decide (((st:Nat):Int)≤1099511627776)) with
 |false =>
  have fh60:=gt_of h6;simp -implicitDefEqProofs only[go_sem,h4,fh40,h5,fh50,h6,fh60];exact Fini.ret rfl
 |true =>
 have fh60:=gt_of h6
 cases h7:(decide (((en:Nat):Int)≤1099511627776)) with
 |false =>
  have fh70:=gt_of h7;simp -implicitDefEqProofs only[go_sem,h4,fh40,h5,fh50,h6,fh60,h7,fh70];exact Fini.ret rfl
 |true =>
 have fh70:=gt_of h7;simp -implicitDefEqProofs only[go_sem,h4,fh40,h5,fh50,h6,fh60,h7,fh70];refine CO.intro i90 ?_
 cases h8:(decide (0≤sta)) with
 |false =>
  have fh80:=lt_of h8;simp -implicitDefEqProofs only[go_sem,h8,fh80];exact Fini.ret rfl
 |true =>
 have fh80:=lt_of h8
 cases h9:(decide (sta≤3)) with
 |false =>
  have fh90:=gt_of h9;simp -implicitDefEqProofs only[go_sem,h8,fh80,h9,fh90];exact Fini.ret rfl
 |true =>
 have fh90:=gt_of h9;simp -implicitDefEqProofs only[go_sem,h8,fh80,h9,fh90];refine CO.intro i77 ?_;have hl:=z4X mt.length
 cases hm0:(emI mt.length) with
 |false =>
  rw[hm0]at hl;simp -implicitDefEqProofs only[go_sem,hl];exact Fini.ret rfl
 |true =>
 rw[hm0]at hl;simp -implicitDefEqProofs only[go_sem,hl];refine CO.intro i83 ?_;simp -implicitDefEqProofs only[go_sem];refine CO.intro b1 ?_
 cases h10:(listB mt) with
 |false =>
  simp -implicitDefEqProofs only[go_sem];exact Fini.ret rfl
 |true =>
 simp -implicitDefEqProofs only[go_sem];refine CO.intro i66 ?_;simp -implicitDefEqProofs only[go_sem];refine CO.intro b2 ?_
 cases h11:(noBd (any,lo,hi)) with
 |false =>
  simp -implicitDefEqProofs only[go_sem];exact Fini.ret rfl
 |true =>
 simp -implicitDefEqProofs only[go_sem];refine CO.intro b3 ?_
 cases h12:(mayB any lo hi) with
 |false =>
  simp -implicitDefEqProofs only[go_sem];exact Fini.ret rfl
 |true =>
 simp -implicitDefEqProofs only[go_sem];refine CO.intro i82 ?_;simp -implicitDefEqProofs only[go_sem];refine CO.intro i82 ?_;simp -implicitDefEqProofs only[go_sem];refine CO.intro b5 ?_
 cases h13:(noRl ⟨src,tgt,ra,rl,rh,eq⟩) with
 |false =>
  simp -implicitDefEqProofs only[go_sem];exact Fini.ret rfl
 |true =>
 simp -implicitDefEqProofs only[go_sem];refine CO.intro i76 ?_;unfold emI zF
 cases h14:(((ls.length:Nat):Int)==0) with
 |false =>
  simp -implicitDefEqProofs only[go_sem,h14];exact Fini.ret rfl
 |true =>
 simp -implicitDefEqProofs only[go_sem,h14];refine CO.intro b7 ?_;simp -implicitDefEqProofs only[go_sem];exact Fini.ret rfl
set_option maxHeartbeats 8000000 in
theorem zbH (r:ReM) (hr:ReSm r) (hd:dOf r.op=S128):Ans Tryz.prog 89 [reV r] σ (Bo (docB r S128)) σ:=by
 obtain⟨tok,op,id,txt,st,en,sta,mt,any,lo,hi,⟨src,tgt,ra,rl,rh,eq⟩,ls,val⟩:=r;obtain⟨hm,hru,hls⟩:=hr;simp only at hm hru hls hd;have k1:=z0o σ op;rw[hd]at k1;have ii:=fun c h=>z2u σ S128 c h
 have i73:=ii 73 (by decide)
 have i84:=ii 84 (by decide)
 have i83:=ii 83 (by decide)
 have i90:=ii 90 (by decide)
 have i77:=ii 77 (by decide)
 have i66:=ii 66 (by decide)
 have i82:=ii 82 (by decide)
 have i76:=ii 76 (by decide)
 simp only[zdq]at i73 i84 i83 i90 i77 i66 i82 i76;have b0:=z2t σ txt;have b1:=z19 σ mt hm;have b2:=z1y σ (any,lo,hi);have b3:=z25 σ any lo hi;have b4:=z1I σ ⟨src,tgt,ra,rl,rh,eq⟩ hru;have b5:=z1O σ ⟨src,tgt,ra,rl,rh,eq⟩;have b6:=z27 σ ls hls;have b7:=z0U σ val;unfold bandV at b2;unfold ruV at b4 b5;unfold docB;simp only[zdq,Bool.true_or,Bool.false_or,Bool.not_true,Bool.not_false,Bool.true_and,if_true,Bool.false_eq_true,if_false];refine Ans.of_run t89 ?_;unfold reV reC;simp -implicitDefEqProofs only[c89,r89,go_sem];refine CO.intro k1 ?_;simp -implicitDefEqProofs only[go_sem];refine CO.intro i73 ?_
 cases h0:(id==0) with
 |false =>
  have fh00:=ne_of h0;simp -implicitDefEqProofs only[go_sem,h0,fh00];exact Fini.ret rfl
 |true =>
 have fh00:=ne_of h0
 cases h1:(decide (0≤id)) with
 |false =>
  have fh10:=lt_of h1;simp -implicitDefEqProofs only[go_sem,h0,fh00,h1,fh10];exact Fini.ret rfl
 |true =>
 have fh10:=lt_of h1
 cases h2:(decide (id≤2147483647)) with
 |false =>
  have fh20:=gt_of h2;simp -implicitDefEqProofs only[go_sem,h0,fh00,h1,fh10,h2,fh20];exact Fini.ret rfl
 |true =>
 have fh20:=gt_of h2;simp -implicitDefEqProofs only[go_sem,h0,fh00,h1,fh10,h2,fh20];refine CO.intro i84 ?_;simp -implicitDefEqProofs only[go_sem];refine CO.intro i84 ?_;unfold emS
 cases h3:(txt.toList==(⟨#[]⟩:ByteArray).toList) with
 |false =>
  simp -implicitDefEqProofs only[go_sem,h3];exact Fini.ret rfl
 |true =>
 simp -implicitDefEqProofs only[go_sem,h3];refine CO.intro i83 ?_;unfold emU
 cases h4:(((st:Nat):Int)==0) with
 |false =>
  have fh40:=ne_of h4;simp -implicitDefEqProofs only[go_sem,h4,fh40];exact Fini.ret rfl
 |true =>
 have fh40:=ne_of h4
 cases h5:(((en:Nat):Int)==0) with
 |false =>
  have fh50:=ne_of h5;simp -implicitDefEqProofs only[go_sem,h4,fh40,h5,fh50];exact Fini.ret rfl
 |true =>
 have fh50:=ne_of h5;unfold clkB
 cases h6:(decide (((st:Nat):Int)≤1099511627776)) with
 |false =>
  have fh60:=gt_of h6;simp -implicitDefEqProofs only[go_sem,h4,fh40,h5,fh50,h6,fh60];exact Fini.ret rfl
 |true =>
 have fh60:=gt_of h6
 cases h7:(decide (((en:Nat):Int)≤1099511627776)) with
 |false =>
  have fh70:=gt_of h7;simp -implicitDefEqProofs only[go_sem,h4,fh40,h5,fh50,h6,fh60,h7,fh70];exact Fini.ret rfl
 |true =>
 have fh70:=gt_of h7;simp -implicitDefEqProofs only[go_sem,h4,fh40,h5,fh50,h6,fh60,h7,fh70];refine CO.intro i90 ?_
 cases h8:(sta==0) with
 |false =>
  have fh80:=ne_of h8;simp -implicitDefEqProofs only[go_sem,h8,fh80];exact Fini.ret rfl
 |true =>
 have fh80:=ne_of h8
 cases h9:(decide (0≤sta)) with
 |false =>
  have fh90:=lt_of h9;simp -implicitDefEqProofs only[go_sem,h8,fh80,h9,fh90];exact Fini.ret rfl
 |true =>
 have fh90:=lt_of h9
 cases h10:(decide (sta≤3)) with
 |false =>
  have fh100:=gt_of h10;simp -implicitDefEqProofs only[go_sem,h8,fh80,h9,fh90,h10,fh100];exact Fini.ret rfl
 |true =>
 have fh100:=gt_of h10;simp -implicitDefEqProofs only[go_sem,h8,fh80,h9,fh90,h10,fh100];refine CO.intro i77 ?_;have hl:=z4X mt.length
 cases hm0:(emI mt.length) with
 |false =>
  rw[hm0]at hl;simp -implicitDefEqProofs only[go_sem,hl];exact Fini.ret rfl
 |true =>
 rw[hm0]at hl;simp -implicitDefEqProofs only[go_sem,hl];refine CO.intro i83 ?_;simp -implicitDefEqProofs only[go_sem];refine CO.intro b1 ?_
 cases h11:(listB mt) with
 |false =>
  simp -implicitDefEqProofs only[go_sem];exact Fini.ret rfl
 |true =>
 simp -implicitDefEqProofs only[go_sem];refine CO.intro i66 ?_;simp -implicitDefEqProofs only[go_sem];refine CO.intro b2 ?_
 cases h12:(noBd (any,lo,hi)) with
 |false =>
  simp -implicitDefEqProofs only[go_sem];exact Fini.ret rfl
 |true =>
 simp -implicitDefEqProofs only[go_sem];refine CO.intro b3 ?_
 cases h13:(mayB any lo hi) with
 |false =>
  simp -implicitDefEqProofs only[go_sem];exact Fini.ret rfl
 |true =>
 simp -implicitDefEqProofs only[go_sem];refine CO.intro i82 ?_;simp -implicitDefEqProofs only[go_sem];refine CO.intro b4 ?_
 cases h14:(ruIs ⟨src,tgt,ra,rl,rh,eq⟩) with
 |false =>
  simp -implicitDefEqProofs only[go_sem];exact Fini.ret rfl
 |true =>
 simp -implicitDefEqProofs only[go_sem];refine CO.intro i82 ?_;simp -implicitDefEqProofs only[go_sem];refine CO.intro i76 ?_;unfold emI zF
 cases h15:(((ls.length:Nat):Int)==0) with
 |false =>
  simp -implicitDefEqProofs only[go_sem,h15];exact Fini.ret rfl
 |true =>
 simp -implicitDefEqProofs only[go_sem,h15];refine CO.intro b7 ?_;simp -implicitDefEqProofs only[go_sem];exact Fini.ret rfl
end
section
variable (σ:St)
set_option maxHeartbeats 8000000 in
theorem zbI (r:ReM) (hr:ReSm r) (hd:dOf r.op=S768):Ans Tryz.prog 89 [reV r] σ (Bo (docB r S768)) σ:=by
 obtain⟨tok,op,id,txt,st,en,sta,mt,any,lo,hi,⟨src,tgt,ra,rl,rh,eq⟩,ls,val⟩:=r;obtain⟨hm,hru,hls⟩:=hr;simp only at hm hru hls hd;have k1:=z0o σ op;rw[hd]at k1;have ii:=fun c h=>z2u σ S768 c h
 have i73:=ii 73 (by decide)
 have i84:=ii 84 (by decide)
 have i83:=ii 83 (by decide)
 have i90:=ii 90 (by decide)
 have i77:=ii 77 (by decide)
 have i66:=ii 66 (by decide)
 have i82:=ii 82 (by decide)
 have i76:=ii 76 (by decide)
 simp only[zdr]at i73 i84 i83 i90 i77 i66 i82 i76;have b0:=z2t σ txt;have b1:=z19 σ mt hm;have b2:=z1y σ (any,lo,hi);have b3:=z25 σ any lo hi;have b4:=z1I σ ⟨src,tgt,ra,rl,rh,eq⟩ hru;have b5:=z1O σ ⟨src,tgt,ra,rl,rh,eq⟩;have b6:=z27 σ ls hls;have b7:=z0U σ val;unfold bandV at b2;unfold ruV at b4 b5;unfold docB;simp only[zdr,Bool.true_or,Bool.false_or,Bool.not_true,Bool.not_false,Bool.true_and,if_true,Bool.false_eq_true,if_false];refine Ans.of_run t89 ?_;unfold reV reC;simp -implicitDefEqProofs only[c89,r89,go_sem];refine CO.intro k1 ?_;simp -implicitDefEqProofs only[go_sem];refine CO.intro i73 ?_
 cases h0:(id==0) with
 |false =>
  have fh00:=ne_of h0;simp -implicitDefEqProofs only[go_sem,h0,fh00];exact Fini.ret rfl
 |true =>
 have fh00:=ne_of h0
 cases h1:(decide (0≤id)) with
 |false =>
  have fh10:=lt_of h1;simp -implicitDefEqProofs only[go_sem,h0,fh00,h1,fh10];exact Fini.ret rfl
 |true =>
 have fh10:=lt_of h1
 cases h2:(decide (id≤2147483647)) with
 |false =>
  have fh20:=gt_of h2;simp -implicitDefEqProofs only[go_sem,h0,fh00,h1,fh10,h2,fh20];exact Fini.ret rfl
 |true =>
 have fh20:=gt_of h2;simp -implicitDefEqProofs only[go_sem,h0,fh00,h1,fh10,h2,fh20];refine CO.intro i84 ?_;simp -implicitDefEqProofs only[go_sem];refine CO.intro i84 ?_;unfold emS
 cases h3:(txt.toList==(⟨#[]⟩:ByteArray).toList) with
 |false =>
  simp -implicitDefEqProofs only[go_sem,h3];exact Fini.ret rfl
 |true =>
 simp -implicitDefEqProofs only[go_sem,h3];refine CO.intro i83 ?_;unfold emU
 cases h4:(((st:Nat):Int)==0) with
 |false =>
  have fh40:=ne_of h4;simp -implicitDefEqProofs only[go_sem,h4,fh40];exact Fini.ret rfl
 |true =>
 have fh40:=ne_of h4
 cases h5:(((en:Nat):Int)==0) with
 |false =>
  have fh50:=ne_of h5;simp -implicitDefEqProofs only[go_sem,h4,fh40,h5,fh50];exact Fini.ret rfl
 |true =>
 have fh50:=ne_of h5;unfold clkB
 cases h6:(decide (((st:Nat):Int)≤1099511627776)) with
 |false =>
  have fh60:=gt_of h6;simp -implicitDefEqProofs only[go_sem,h4,fh40,h5,fh50,h6,fh60];exact Fini.ret rfl
 |true =>
 have fh60:=gt_of h6
 cases h7:(decide (((en:Nat):Int)≤1099511627776)) with
 |false =>
  have fh70:=gt_of h7;simp -implicitDefEqProofs only[go_sem,h4,fh40,h5,fh50,h6,fh60,h7,fh70];exact Fini.ret rfl
 |true =>
 have fh70:=gt_of h7;simp -implicitDefEqProofs only[go_sem,h4,fh40,h5,fh50,h6,fh60,h7,fh70];refine CO.intro i90 ?_
 cases h8:(sta==0) with
 |false =>
  have fh80:=ne_of h8;simp -implicitDefEqProofs only[go_sem,h8,fh80];exact Fini.ret rfl
 |true =>
 have fh80:=ne_of h8
 cases h9:(decide (0≤sta)) with
 |false =>
  have fh90:=lt_of h9;simp -implicitDefEqProofs only[go_sem,h8,fh80,h9,fh90];exact Fini.ret rfl
 |true =>
 have fh90:=lt_of h9
 cases h10:(decide (sta≤3)) with
 |false =>
  have fh100:=gt_of h10;simp -implicitDefEqProofs only[go_sem,h8,fh80,h9,fh90,h10,fh100];exact Fini.ret rfl
 |true =>
 have fh100:=gt_of h10;simp -implicitDefEqProofs only[go_sem,h8,fh80,h9,fh90,h10,fh100];refine CO.intro i77 ?_;have hl:=z4X mt.length
 cases hm0:(emI mt.length) with
 |false =>
  rw[hm0]at hl;simp -implicitDefEqProofs only[go_sem,hl];exact Fini.ret rfl
 |true =>
 rw[hm0]at hl;simp -implicitDefEqProofs only[go_sem,hl];refine CO.intro i83 ?_;simp -implicitDefEqProofs only[go_sem];refine CO.intro b1 ?_
 cases h11:(listB mt) with
 |false =>
  simp -implicitDefEqProofs only[go_sem];exact Fini.ret rfl
 |true =>
 simp -implicitDefEqProofs only[go_sem];refine CO.intro i66 ?_;simp -implicitDefEqProofs only[go_sem];refine CO.intro b2 ?_
 cases h12:(noBd (any,lo,hi)) with
 |false =>
  simp -implicitDefEqProofs only[go_sem];exact Fini.ret rfl
 |true =>
 simp -implicitDefEqProofs only[go_sem];refine CO.intro b3 ?_
 cases h13:(mayB any lo hi) with
 |false =>
  simp -implicitDefEqProofs only[go_sem];exact Fini.ret rfl
 |true =>
 simp -implicitDefEqProofs only[go_sem];refine CO.intro i82 ?_;simp -implicitDefEqProofs only[go_sem];refine CO.intro i82 ?_;simp -implicitDefEqProofs only[go_sem];refine CO.intro b5 ?_
 cases h14:(noRl ⟨src,tgt,ra,rl,rh,eq⟩) with
 |false =>
  simp -implicitDefEqProofs only[go_sem];exact Fini.ret rfl
 |true =>
 simp -implicitDefEqProofs only[go_sem];refine CO.intro i76 ?_;simp -implicitDefEqProofs only[go_sem];refine CO.intro b6 ?_;simp -implicitDefEqProofs only[go_sem];exact Fini.ret rfl
set_option maxHeartbeats 8000000 in
theorem zds (r:ReM) (hr:ReSm r) (hd:dOf r.op=S16):Ans Tryz.prog 89 [reV r] σ (Bo (docB r S16)) σ:=by
 obtain⟨tok,op,id,txt,st,en,sta,mt,any,lo,hi,⟨src,tgt,ra,rl,rh,eq⟩,ls,val⟩:=r;obtain⟨hm,hru,hls⟩:=hr;simp only at hm hru hls hd;have k1:=z0o σ op;rw[hd]at k1;have ii:=fun c h=>z2u σ S16 c h
 have i73:=ii 73 (by decide)
 have i84:=ii 84 (by decide)
 have i83:=ii 83 (by decide)
 have i90:=ii 90 (by decide)
 have i77:=ii 77 (by decide)
 have i66:=ii 66 (by decide)
 have i82:=ii 82 (by decide)
 have i76:=ii 76 (by decide)
 simp only[hc_16]at i73 i84 i83 i90 i77 i66 i82 i76;have b0:=z2t σ txt;have b1:=z19 σ mt hm;have b2:=z1y σ (any,lo,hi);have b3:=z25 σ any lo hi;have b4:=z1I σ ⟨src,tgt,ra,rl,rh,eq⟩ hru;have b5:=z1O σ ⟨src,tgt,ra,rl,rh,eq⟩;have b6:=z27 σ ls hls;have b7:=z0U σ val;unfold bandV at b2;unfold ruV at b4 b5;unfold docB;simp only[hc_16,Bool.true_or,Bool.false_or,Bool.not_true,Bool.not_false,Bool.true_and,if_true,Bool.false_eq_true,if_false];refine Ans.of_run t89 ?_;unfold reV reC;simp -implicitDefEqProofs only[c89,r89,go_sem];refine CO.intro k1 ?_;simp -implicitDefEqProofs only[go_sem];refine CO.intro i73 ?_
 cases h0:(id==0) with
 |false =>
  have fh00:=ne_of h0;simp -implicitDefEqProofs only[go_sem,h0,fh00];exact Fini.ret rfl
 |true =>
 have fh00:=ne_of h0
 cases h1:(decide (0≤id)) with
 |false =>
  have fh10:=lt_of h1;simp -implicitDefEqProofs only[go_sem,h0,fh00,h1,fh10];exact Fini.ret rfl
 |true =>
 have fh10:=lt_of h1
 cases h2:(decide (id≤2147483647)) with
 |false =>
  have fh20:=gt_of h2;simp -implicitDefEqProofs only[go_sem,h0,fh00,h1,fh10,h2,fh20];exact Fini.ret rfl
 |true =>
 have fh20:=gt_of h2;simp -implicitDefEqProofs only[go_sem,h0,fh00,h1,fh10,h2,fh20];refine CO.intro i84 ?_;simp -implicitDefEqProofs only[go_sem];refine CO.intro i84 ?_;unfold emS
 cases h3:(txt.toList==(⟨#[]⟩:ByteArray).toList) with
 |false =>
  simp -implicitDefEqProofs only[go_sem,h3];exact Fini.ret rfl
 |true =>
 simp -implicitDefEqProofs only[go_sem,h3];refine CO.intro i83 ?_;unfold emU
 cases h4:(((st:Nat):Int)==0) with
 |false =>
  have fh40:=ne_of h4;simp -implicitDefEqProofs only[go_sem,h4,fh40];exact Fini.ret rfl
 |true =>
 have fh40:=ne_of h4
 cases h5:(((en:Nat):Int)==0) with
 |false =>
  have fh50:=ne_of h5;simp -implicitDefEqProofs only[go_sem,h4,fh40,h5,fh50];exact Fini.ret rfl
 |true =>
 have fh50:=ne_of h5;unfold clkB
 cases h6:(decide (((st:Nat):Int)≤1099511627776)) with
 |false =>
  have fh60:=gt_of h6;simp -implicitDefEqProofs only[go_sem,h4,fh40,h5,fh50,h6,fh60];exact Fini.ret rfl
 |true =>
 have fh60:=gt_of h6
 cases h7:(decide (((en:Nat):Int)≤1099511627776)) with
 |false =>
  have fh70:=gt_of h7;simp -implicitDefEqProofs only[go_sem,h4,fh40,h5,fh50,h6,fh60,h7,fh70];exact Fini.ret rfl
 |true =>
 have fh70:=gt_of h7;simp -implicitDefEqProofs only[go_sem,h4,fh40,h5,fh50,h6,fh60,h7,fh70];refine CO.intro i90 ?_
 cases h8:(sta==0) with
 |false =>
  have fh80:=ne_of h8;simp -implicitDefEqProofs only[go_sem,h8,fh80];exact Fini.ret rfl
 |true =>
 have fh80:=ne_of h8
 cases h9:(decide (0≤sta)) with
 |false =>
  have fh90:=lt_of h9;simp -implicitDefEqProofs only[go_sem,h8,fh80,h9,fh90];exact Fini.ret rfl
 |true =>
 have fh90:=lt_of h9
 cases h10:(decide (sta≤3)) with
 |false =>
  have fh100:=gt_of h10;simp -implicitDefEqProofs only[go_sem,h8,fh80,h9,fh90,h10,fh100];exact Fini.ret rfl
 |true =>
 have fh100:=gt_of h10;simp -implicitDefEqProofs only[go_sem,h8,fh80,h9,fh90,h10,fh100];refine CO.intro i77 ?_;simp -implicitDefEqProofs only[go_sem];refine CO.intro i83 ?_;simp -implicitDefEqProofs only[go_sem];refine CO.intro b1 ?_
 cases h11:(listB mt) with
 |false =>
  simp -implicitDefEqProofs only[go_sem];exact Fini.ret rfl
 |true =>
 simp -implicitDefEqProofs only[go_sem];refine CO.intro i66 ?_;simp -implicitDefEqProofs only[go_sem];refine CO.intro b2 ?_
 cases h12:(noBd (any,lo,hi)) with
 |false =>
  simp -implicitDefEqProofs only[go_sem];exact Fini.ret rfl
 |true =>
 simp -implicitDefEqProofs only[go_sem];refine CO.intro b3 ?_
 cases h13:(mayB any lo hi) with
 |false =>
  simp -implicitDefEqProofs only[go_sem];exact Fini.ret rfl
 |true =>
 simp -implicitDefEqProofs only[go_sem];refine CO.intro i82 ?_;simp -implicitDefEqProofs only[go_sem];refine CO.intro i82 ?_;simp -implicitDefEqProofs only[go_sem];refine CO.intro b5 ?_
 cases h14:(noRl ⟨src,tgt,ra,rl,rh,eq⟩) with
 |false =>
  simp -implicitDefEqProofs only[go_sem];exact Fini.ret rfl
 |true =>
 simp -implicitDefEqProofs only[go_sem];refine CO.intro i76 ?_;unfold emI zF
 cases h15:(((ls.length:Nat):Int)==0) with
 |false =>
  simp -implicitDefEqProofs only[go_sem,h15];exact Fini.ret rfl
 |true =>
 simp -implicitDefEqProofs only[go_sem,h15];refine CO.intro b7 ?_;simp -implicitDefEqProofs only[go_sem];exact Fini.ret rfl
end
theorem z2v (x:Bnd) (h:noBd x=true):mayB x.1 x.2.1 x.2.2=true:=by
 obtain⟨a,lo,hi⟩:=x;unfold noBd zF at h;simp only[Bool.and_eq_true,Bool.not_eq_true',beq_iff_eq]at h;obtain⟨rfl,h1,h2⟩:=h;have e1:=z3b (Int.ofNat.inj h1);have e2:=z3b (Int.ofNat.inj h2);subst e1 e2
 decide +kernel
theorem z5h (r:ReM):(zeroB r 0&&z0n r 0)=docB r S0:=by
 have hb:=z2v (r.any,r.lo,r.hi);unfold zeroB z0n docB idR staR;simp only[hs_0,hc_0,Bool.true_or,Bool.false_or,Bool.not_true,Bool.not_false,Bool.true_and,if_true,Bool.false_eq_true,if_false,Bool.and_assoc];rw[Bool.eq_iff_iff];simp only[Bool.and_eq_true];simp only at hb;constructor
 · intro h;simp only[h,hb,and_self,true_and,and_true]
 · intro h;simp only[h,hb,and_self,true_and,and_true]
theorem z4s (r:ReM):(zeroB r 1&&z0n r 1)=docB r S1:=by
 have hb:=z2v (r.any,r.lo,r.hi);unfold zeroB z0n docB idR staR;simp only[hs_1,hc_1,Bool.true_or,Bool.false_or,Bool.not_true,Bool.not_false,Bool.true_and,if_true,Bool.false_eq_true,if_false,Bool.and_assoc];rw[Bool.eq_iff_iff];simp only[Bool.and_eq_true];simp only at hb;constructor
 · intro h;simp only[h,hb,and_self,true_and,and_true]
 · intro h;simp only[h,hb,and_self,true_and,and_true]
theorem zaN (r:ReM):(zeroB r 3&&z0n r 3)=docB r S3:=by
 have hb:=z2v (r.any,r.lo,r.hi);unfold zeroB z0n docB idR staR;simp only[hs_3,hc_3,Bool.true_or,Bool.false_or,Bool.not_true,Bool.not_false,Bool.true_and,if_true,Bool.false_eq_true,if_false,Bool.and_assoc];rw[Bool.eq_iff_iff];simp only[Bool.and_eq_true];simp only at hb;constructor
 · intro h;simp only[h,hb,and_self,true_and,and_true]
 · intro h;simp only[h,hb,and_self,true_and,and_true]
theorem zbJ (r:ReM):(zeroB r 116&&z0n r 116)=docB r S116:=by
 have hb:=z2v (r.any,r.lo,r.hi);unfold zeroB z0n docB idR staR;simp only[z8L,zdo,Bool.true_or,Bool.false_or,Bool.not_true,Bool.not_false,Bool.true_and,if_true,Bool.false_eq_true,if_false,Bool.and_assoc];rw[Bool.eq_iff_iff];simp only[Bool.and_eq_true];simp only at hb;constructor
 · intro h;simp only[h,hb,and_self,true_and,and_true]
 · intro h;simp only[h,hb,and_self,true_and,and_true]
theorem zbK (r:ReM):(zeroB r 117&&z0n r 117)=docB r S117:=by
 have hb:=z2v (r.any,r.lo,r.hi);unfold zeroB z0n docB idR staR;simp only[z8M,zdp,Bool.true_or,Bool.false_or,Bool.not_true,Bool.not_false,Bool.true_and,if_true,Bool.false_eq_true,if_false,Bool.and_assoc];rw[Bool.eq_iff_iff];simp only[Bool.and_eq_true];simp only at hb;constructor
 · intro h;simp only[h,hb,and_self,true_and,and_true]
 · intro h;simp only[h,hb,and_self,true_and,and_true]
theorem zeY (r:ReM):(zeroB r 8&&z0n r 8)=docB r S8:=by
 have hb:=z2v (r.any,r.lo,r.hi);unfold zeroB z0n docB idR staR;simp only[hs_8,hc_8,Bool.true_or,Bool.false_or,Bool.not_true,Bool.not_false,Bool.true_and,if_true,Bool.false_eq_true,if_false,Bool.and_assoc];rw[Bool.eq_iff_iff];simp only[Bool.and_eq_true];simp only at hb;constructor
 · intro h;simp only[h,hb,and_self,true_and,and_true]
 · intro h;simp only[h,hb,and_self,true_and,and_true]
theorem zbL (r:ReM):(zeroB r 128&&z0n r 128)=docB r S128:=by
 have hb:=z2v (r.any,r.lo,r.hi);unfold zeroB z0n docB idR staR;simp only[z8N,zdq,Bool.true_or,Bool.false_or,Bool.not_true,Bool.not_false,Bool.true_and,if_true,Bool.false_eq_true,if_false,Bool.and_assoc];rw[Bool.eq_iff_iff];simp only[Bool.and_eq_true];simp only at hb;constructor
 · intro h;simp only[h,hb,and_self,true_and,and_true]
 · intro h;simp only[h,hb,and_self,true_and,and_true]
theorem zbM (r:ReM):(zeroB r 768&&z0n r 768)=docB r S768:=by
 have hb:=z2v (r.any,r.lo,r.hi);unfold zeroB z0n docB idR staR;simp only[z8O,zdr,Bool.true_or,Bool.false_or,Bool.not_true,Bool.not_false,Bool.true_and,if_true,Bool.false_eq_true,if_false,Bool.and_assoc];rw[Bool.eq_iff_iff];simp only[Bool.and_eq_true];simp only at hb;constructor
 · intro h;simp only[h,hb,and_self,true_and,and_true]
 · intro h;simp only[h,hb,and_self,true_and,and_true]
theorem zdt (r:ReM):(zeroB r 16&&z0n r 16)=docB r S16:=by
 have hb:=z2v (r.any,r.lo,r.hi);unfold zeroB z0n docB idR staR;simp only[hs_16,hc_16,Bool.true_or,Bool.false_or,Bool.not_true,Bool.not_false,Bool.true_and,if_true,Bool.false_eq_true,if_false,Bool.and_assoc];rw[Bool.eq_iff_iff];simp only[Bool.and_eq_true];simp only at hb;constructor
 · intro h;simp only[h,hb,and_self,true_and,and_true]
 · intro h;simp only[h,hb,and_self,true_and,and_true]
section
variable (σ:St)
theorem z8U (r:ReM) (hd:dOf r.op=⟨#[]⟩):Ans Tryz.prog 89 [reV r] σ (Bo false) σ:=by
 have k1:=z0o σ r.op;rw[hd]at k1;have hn:((⟨#[]⟩:ByteArray).toList==(⟨#[]⟩:ByteArray).toList)=true:=by decide +kernel
 refine Ans.of_run t89 ?_;unfold reV reC;simp -implicitDefEqProofs only[c89,r89,go_sem];refine CO.intro k1 ?_;simp -implicitDefEqProofs only[go_sem,hn];exact Fini.ret rfl
theorem z1z (r:ReM) (hr:ReSm r):Ans Tryz.prog 89 [reV r] σ (Bo (mayR r)) σ:=by
 unfold mayR;rcases ops17 r.op with h|h|h|h|h|h|h|h|h|h|h|h|h|h|h|h|h|h
 · have e:fOf r.op=(0,true):=by rw[h];rfl
   rw[e];simp only[Bool.true_and];rw[z5h];exact z5g σ r hr (by rw[h];rfl)
 · have e:fOf r.op=(1,true):=by rw[h];rfl
   rw[e];simp only[Bool.true_and];rw[z4s];exact z4r σ r hr (by rw[h];rfl)
 · have e:fOf r.op=(3,true):=by rw[h];rfl
   rw[e];simp only[Bool.true_and];rw[zaN];exact zaM σ r hr (by rw[h];rfl)
 · have e:fOf r.op=(3,true):=by rw[h];rfl
   rw[e];simp only[Bool.true_and];rw[zaN];exact zaM σ r hr (by rw[h];rfl)
 · have e:fOf r.op=(116,true):=by rw[h];rfl
   rw[e];simp only[Bool.true_and];rw[zbJ];exact zbF σ r hr (by rw[h];rfl)
 · have e:fOf r.op=(117,true):=by rw[h];rfl
   rw[e];simp only[Bool.true_and];rw[zbK];exact zbG σ r hr (by rw[h];rfl)
 · have e:fOf r.op=(1,true):=by rw[h];rfl
   rw[e];simp only[Bool.true_and];rw[z4s];exact z4r σ r hr (by rw[h];rfl)
 · have e:fOf r.op=(8,true):=by rw[h];rfl
   rw[e];simp only[Bool.true_and];rw[zeY];exact zeX σ r hr (by rw[h];rfl)
 · have e:fOf r.op=(128,true):=by rw[h];rfl
   rw[e];simp only[Bool.true_and];rw[zbL];exact zbH σ r hr (by rw[h];rfl)
 · have e:fOf r.op=(1,true):=by rw[h];rfl
   rw[e];simp only[Bool.true_and];rw[z4s];exact z4r σ r hr (by rw[h];rfl)
 · have e:fOf r.op=(768,true):=by rw[h];rfl
   rw[e];simp only[Bool.true_and];rw[zbM];exact zbI σ r hr (by rw[h];rfl)
 · have e:fOf r.op=(1,true):=by rw[h];rfl
   rw[e];simp only[Bool.true_and];rw[z4s];exact z4r σ r hr (by rw[h];rfl)
 · have e:fOf r.op=(16,true):=by rw[h];rfl
   rw[e];simp only[Bool.true_and];rw[zdt];exact zds σ r hr (by rw[h];rfl)
 · have e:fOf r.op=(0,true):=by rw[h];rfl
   rw[e];simp only[Bool.true_and];rw[z5h];exact z5g σ r hr (by rw[h];rfl)
 · have e:fOf r.op=(1,true):=by rw[h];rfl
   rw[e];simp only[Bool.true_and];rw[z4s];exact z4r σ r hr (by rw[h];rfl)
 · have e:fOf r.op=(0,true):=by rw[h];rfl
   rw[e];simp only[Bool.true_and];rw[z5h];exact z5g σ r hr (by rw[h];rfl)
 · have e:fOf r.op=(0,true):=by rw[h];rfl
   rw[e];simp only[Bool.true_and];rw[z5h];exact z5g σ r hr (by rw[h];rfl)
 · rw[z8K h];exact z8U σ r (zdn h)
end
section
variable (σ:St)
theorem z6e (n:Nat) (hn:n<18446744073709551616):Ans Tryz.prog 75 [UN n] σ (.sl 1 (byv (putN n))) σ:=(z4p σ n hn).shut (by rw[z01]) (z1Q _ _)
theorem z8V (r:RuM) (hr:RSm r):Ans Tryz.prog 20 [ruV r] σ (.sl 1 (byv (z24 r))) σ:=by
 have hi:=fun s=>z1I s r hr
 unfold z24
 cases hR:ruIs r with
 |false =>
  have:Ans Tryz.prog 20 [ruV r] σ .nils σ:=by
   refine Ans.of_run t20 ?_;unfold ruV at hi⊢;simp -implicitDefEqProofs only[c20,r20,go_sem];refine CO.intro (hi _) ?_;rw[hR];simp -implicitDefEqProofs only[go_sem];exact Fini.ret rfl
  exact this.subR (.nils 1)
 |true =>
  obtain⟨h1,h2,h3,h4,h5⟩:=z1M hR;have hpl:=z5e hR;have m1:=fun s=>z6V s r.src hr.src h1
  have m2:=fun s=>z6W s r.tgt hr.tgt
  have e2:z3t r.tgt=putL r.tgt:=by unfold z3t;rw[h2];rfl
  rw[e2]at m2;have b1:=fun s=>z3O s (r.any,r.lo,r.hi)
  unfold bandV at b1;have n1:=fun s=>z6e s r.eq.length (by omega)
  have hw:=z1k (n:=r.eq.length) (by omega)
  have hl0:=z8H hR
  have e3:byv (putL r.src)++byv (putL r.tgt)++byv (putBd (r.any,r.lo,r.hi))++byv (putN r.eq.length)=byv (preR r 0):=by
   rw[z64,headR];simp only[z0r,List.append_assoc]
  have e4:(putL r.src).length+(putL r.tgt).length+(putBd (r.any,r.lo,r.hi)).length+(putN r.eq.length).length=(preR r 0).length:=by
   rw[z64,headR];simp only[List.length_append];omega
  have hp0:=hpl 0 (Nat.zero_le _);rw[←e4]at hp0;have q1:(putL r.src).length+(putL r.tgt).length≤4294967296:=by omega
  have q2:(putL r.src).length+(putL r.tgt).length+(putBd (r.any,r.lo,r.hi)).length≤4294967296:=by omega
  have q3:(putL r.src).length+(putL r.tgt).length+(putBd (r.any,r.lo,r.hi)).length+(putN r.eq.length).length≤4294967296:=by omega
  refine Ans.of_run' t20 (fun hbel _=>?_)
  unfold ruV at hi⊢;simp -implicitDefEqProofs only[c20,r20,go_sem];refine CO.intro (hi _) ?_;rw[hR];simp -implicitDefEqProofs only[go_sem];refine CD.intro (m1 _) ?_;simp -implicitDefEqProofs only[go_sem];refine CD.intro (m2 _) ?_;simp -implicitDefEqProofs only[go_sem,g0,s0,z01,z0l,bc,q1,List.length_append];refine CD.intro (b1 _) ?_;simp -implicitDefEqProofs only[go_sem,g0,s0,z01,z0l,bc,q1,q2,z0J,hw,List.length_append];refine CO.intro (n1 _) ?_;simp -implicitDefEqProofs only[go_sem,g0,s0,z01,z0l,bc,q1,q2,q3,z0J,hw,List.length_append];refine Go.Ab.L.count r.eq.length (fun i=>mkE 42 [(1,.rp [.sl 3 (mvs3 r.src),.sl 3 (mvs3 r.tgt),Bo r.any,Fl r.lo,Fl r.hi,.sl 1 (txs r.eq)]),(3,.osl σ.length (preR r i).length),(4,I i)]) (fun i=>σ++[.row 1 (byv (preR r i))]) ?_ ?_ (by rw[←e4];rfl) (by rw[←e3])
  · intro i hi J hJ;have hx:=zcO r.eq i hi;have hs:=h5 r.eq[i] (List.getElem_mem hi);have hp:=hpl (i+1) (by omega)
    rw[z8G r i hi]at hJ hp;generalize r.eq[i]=s at hx hs hJ hp;generalize preR r i=pre at hJ hp⊢;have hin:=wrap_succ (i:=i) (by omega)
    rw[List.length_append]at hp hJ;have l1:pre.length+(txtB s).length≤4294967296:=by omega
    simp -implicitDefEqProofs only[mkE,go_sem,z0J,z09 hi,dec_lt hi,hx];refine CO.intro (z1F _ s (by omega)) ?_
    simp -implicitDefEqProofs only[go_sem,g0,s0,z01,z0l,bc,l1,hin];simp only[z0r]at hJ;exact hJ
  · intro J;have d0:decide ((r.eq.length:Int)<r.eq.length)=false:=by simp
    simp -implicitDefEqProofs only[mkE,go_sem,z0J,d0,g0,s0,z01,z7y];exact Fini.trim2 (σ':=σ) (ex:=[_]) rfl rfl (Nat.le_refl _) (z1Q _ _) hbel
end
theorem zi3 (b:Byt):ruR b=(listR b).bind fun p1=>(listR p1.2).bind fun p2=>(bandR p2.2).bind fun p3=>(rowR 4 (textR 12) p3.2).bind fun p4 =>
  if ruIs (mkRu (p1.1,p2.1,p3.1,p4.1)) then some (mkRu (p1.1,p2.1,p3.1,p4.1),p4.2) else none:=by
 simp only[ruR,ruR0,onlyR,z0Z,seqR]
 cases listR b with
 |none=>rfl
 |some p1 =>
 simp only[Option.bind_some]
 cases listR p1.2 with
 |none=>rfl
 |some p2 =>
 simp only[Option.bind_some]
 cases bandR p2.2 with
 |none=>rfl
 |some p3 =>
 simp only[Option.bind_some]
 cases rowR 4 (textR 12) p3.2 with
 |none=>rfl
 |some p4=>rfl
theorem z1Y {M:List Mtr} (h:listB M=true):∀x∈M,x.2.1.size≤100000:=fun x hx=>by have:=(z2Q h).2 x hx;omega
section
variable (σ:St)
set_option maxHeartbeats 4000000 in
theorem z4Z (b:Byt) (hb:b.length≤50000):Ans Tryz.prog 18 [.sl 1 (byv b)] σ (readV (ruR b) b ruV noRuV) σ:=by
 have hR:=zi3 b;have r1:=fun s=>z8S s b hb
 cases h1:listR b with
 |none =>
  rw[h1]at hR;have hR:ruR b=none:=hR;simp only[z0G h1]at r1;refine Ans.of_run' t18 (fun hbel _=>?_)
  rw[hR];simp -implicitDefEqProofs only[c18,r18,go_sem,List.append_assoc,List.length_append,g0,g1,s0,s1];refine CO.intro (r1 _) ?_;simp -implicitDefEqProofs only[go_sem,g0,g1,s0,s1];exact tr_ (σ':=σ) rfl (by unfold readV;exact z0b (z1t _)) hbel
 |some p1 =>
 obtain⟨m1,t1⟩:=p1;rw[h1]at hR;simp only[Option.bind_some]at hR;simp only[z0M h1]at r1;obtain⟨d1,l1,k1⟩:=ends_list.drop (b:=b) (a:=0) (Nat.zero_le _) h1;have v1:=(listB_fits.bwd b m1 t1 h1).1;have r2:=fun s=>z8S s t1 (by omega)
 have le1:(((b.length-t1.length:Nat):Int)≤(b.length:Nat))=True:=eq_true (by omega)
 cases h2:listR t1 with
 |none =>
  rw[h2]at hR;have hR:ruR b=none:=hR;simp only[z0G h2]at r2;refine Ans.of_run' t18 (fun hbel _=>?_)
  rw[hR];simp -implicitDefEqProofs only[c18,r18,go_sem,List.append_assoc,List.length_append,g0,g1,s0,s1];refine CO.intro (r1 _) ?_;simp -implicitDefEqProofs only[go_sem,g0,g1,s0,s1,z01,le1,z0D,z0E,d1,List.take_length,Int.le_refl];refine CO.intro (r2 _) ?_;simp -implicitDefEqProofs only[go_sem,g0,g1,s0,s1];exact tr_ (σ':=σ) rfl (by unfold readV;exact z0b (z1t _)) hbel
 |some p2 =>
 obtain⟨m2,t2⟩:=p2;rw[h2]at hR;simp only[Option.bind_some]at hR;simp only[z0M h2]at r2;obtain⟨d2,l2,k2⟩:=ends_list.drop (b:=b) (a:=b.length-t1.length) (by omega) (by rw[d1];exact h2)
 have v2:=(listB_fits.bwd t1 m2 t2 h2).1;have kk2:t2.length≤t1.length:=(listB_fits.rest h2).1;have r3:=fun s=>z3p s t2 (by omega)
 have a2:=addN (a:=b.length-t1.length) (b:=t1.length-t2.length) (by omega)
 rw[show b.length-t1.length+(t1.length-t2.length)=b.length-t2.length by omega]at a2
 have le2:(((b.length-t2.length:Nat):Int)≤(b.length:Nat))=True:=eq_true (by omega)
 cases h3:bandR t2 with
 |none =>
  rw[h3]at hR;have hR:ruR b=none:=hR;simp only[z0G h3]at r3;unfold bandV at r3;refine Ans.of_run' t18 (fun hbel _=>?_)
  rw[hR];simp -implicitDefEqProofs only[c18,r18,go_sem,List.append_assoc,List.length_append,g0,g1,s0,s1];refine CO.intro (r1 _) ?_;simp -implicitDefEqProofs only[go_sem,g0,g1,s0,s1,z01,le1,z0D,z0E,d1,List.take_length,Int.le_refl];refine CO.intro (r2 _) ?_;simp -implicitDefEqProofs only[go_sem,g0,g1,s0,s1,z01,a2,le2,z0D,z0E,d2,List.take_length,Int.le_refl];refine CO.intro (r3 _) ?_;simp -implicitDefEqProofs only[go_sem,g0,g1,s0,s1];exact tr_ (σ':=σ) rfl (by unfold readV;exact z0b (z1t _)) hbel
 |some p3 =>
 obtain⟨⟨any,lo,hi⟩,t3⟩:=p3;rw[h3]at hR;simp only[Option.bind_some]at hR;simp only[z0M h3]at r3;unfold bandV at r3;obtain⟨d3,l3,k3⟩:=ends_band.drop (b:=b) (a:=b.length-t2.length) (by omega) (by rw[d2];exact h3)
 have kk3:t3.length≤t2.length:=(band_fits.rest h3).1;have r4:=fun s=>z1r s t3 (by omega)
 have a3:=addN (a:=b.length-t2.length) (b:=t2.length-t3.length) (by omega)
 rw[show b.length-t2.length+(t2.length-t3.length)=b.length-t3.length by omega]at a3
 have le3:(((b.length-t3.length:Nat):Int)≤(b.length:Nat))=True:=eq_true (by omega)
 refine Ans.of_run' t18 (fun hbel _=>?_)
 simp -implicitDefEqProofs only[c18,r18,go_sem,List.append_assoc,List.length_append,g0,g1,s0,s1];refine CO.intro (r1 _) ?_;simp -implicitDefEqProofs only[go_sem,g0,g1,s0,s1,z01,le1,z0D,z0E,d1,List.take_length,Int.le_refl];refine CO.intro (r2 _) ?_;simp -implicitDefEqProofs only[go_sem,g0,g1,s0,s1,z01,a2,le2,z0D,z0E,d2,List.take_length,Int.le_refl];refine CO.intro (r3 _) ?_;simp -implicitDefEqProofs only[go_sem,g0,g1,s0,s1,z01,a3,le3,z0D,z0E,d3,List.take_length,Int.le_refl];refine CO.intro (r4 _) ?_
 cases hg:getN 0 t3 with
 |none =>
  have hN:rowR 4 (textR 12) t3=none:=by simp only[rowR,numR,hg,Option.bind_none]
  rw[hN]at hR;have hR:ruR b=none:=hR;rw[z0N hg,hR];simp -implicitDefEqProofs only[go_sem,g0,g1,s0,s1];exact tr_ (σ':=σ) rfl (by unfold readV;exact z0b (z1t _)) hbel
 |some p4 =>
 obtain⟨n,t4⟩:=p4;rw[z0S hg];have e4:decide ((4:Int)<n)=decide (4<n):=decNN 4 n;by_cases h4:4<n
 · have hN:rowR 4 (textR 12) t3=none:=by simp only[rowR,numR,hg,Option.bind_some,show ¬n≤4 by omega,if_false,Option.bind_none]
   rw[hN]at hR;have hR:ruR b=none:=hR;rw[hR];simp -implicitDefEqProofs only[go_sem,g0,g1,s0,s1,e4,decide_eq_true h4];exact tr_ (σ':=σ) rfl (by unfold readV;exact z0b (z1t _)) hbel
 · have hN:numR 4 t3=some (n,t4):=by simp only[numR,hg,Option.bind_some,show n≤4 by omega,if_true]
   obtain⟨d4,l4,k4⟩:=(ends_num 4).drop (b:=b) (a:=b.length-t3.length) (by omega) (by rw[d3];exact hN)
   have kk4:t4.length<t3.length:=zad hg;have hrow:rowR 4 (textR 12) t3=manyR (textR 12) n t4:=by simp only[rowR,hN,Option.bind_some]
   rw[hrow]at hR;have a4:=addN (a:=b.length-t3.length) (b:=t3.length-t4.length) (by omega)
   rw[show b.length-t3.length+(t3.length-t4.length)=b.length-t4.length by omega]at a4
   have hwn:=wrapI (a:=n) (by omega)
   simp -implicitDefEqProofs only[go_sem,e4,decide_eq_false h4,a4]
   refine Go.Ab.L.intro (α:={ p:Nat×List ByteArray×Nat // p.1≤n∧p.2.1.length=p.1∧p.2.2≤b.length∧(∀x∈p.2.1,x.size≤12)∧manyR (textR 12) n t4=(manyR (textR 12) (n-p.1) (b.drop p.2.2)).map fun r=>(p.2.1++r.1,r.2) }) (fun p=>n-p.1.1)
    (fun p=>mkE 112 [(0,.sl 1 (byv b)),(2,.ptr σ.length 0),(5,.rp [.nils,.nils,Bo false,Fl 0,Fl 0,.nils]),(6,.ptr (σ.length+1) 0),(8,I p.1.2.2),(12,UN n),(13,I p.1.1)])
    (fun p=>σ++Z6::.box [mlV m1,mlV m2,Bo any,Fl lo,Fl hi,txC (σ.length+2) p.1.2.1]::txS p.1.2.1) ?_ ⟨(0,[],b.length-t4.length),Nat.zero_le _,rfl,Nat.sub_le _ _,by simp,by rw[d4];cases manyR (textR 12) n t4<;>simp⟩ rfl rfl
   rintro⟨⟨i,l,at_⟩,hi',hll,hat,hsz,hm⟩ J hJ;simp only at hi' hll hat hsz hm hJ;by_cases hlt:i<n
   · obtain⟨m,hmm⟩:∃m,n-i=m+1:=⟨n-i-1,by omega⟩
     rw[hmm,z6b]at hm;have d0:decide ((i:Int)<n)=true:=dec_lt hlt;have leA:(((at_:Nat):Int)≤(b.length:Nat))=True:=eq_true (by omega)
     have hst:∀ex:St,ex=ex:=fun _=>rfl
     simp -implicitDefEqProofs only[mkE,go_sem,hwn,d0,z01,leA,z0D,z0E,List.take_length,Int.le_refl];refine CO.intro (z1q _ (b.drop at_) 12 (by rw[List.length_drop];omega) (by decide)) ?_
     cases ht:textR 12 (b.drop at_) with
     |none =>
      rw[ht]at hm;simp only[Option.bind_none,Option.map_none]at hm;rw[hm]at hR;have hR:ruR b=none:=hR;rw[z0Q ht,hR];simp -implicitDefEqProofs only[go_sem,g0,g1,s0,s1];exact tr_ (σ':=σ) rfl (by unfold readV;exact z0b (z1t _)) hbel
     |some x =>
      obtain⟨s,u⟩:=x;obtain⟨z1,z2,z3⟩:=(z0T 12).drop (b:=b) (a:=at_) hat ht;have hs:=((z1s (most:=12) (by decide)).bwd _ _ _ ht).1
      have aa:=addN (a:=at_) (b:=(b.drop at_).length-u.length) (by rw[List.length_drop];omega)
      rw[show at_+((b.drop at_).length-u.length)=b.length-u.length by rw[List.length_drop];omega]at aa
      have hin:=wrap_succ (i:=i) (by omega)
      rw[ht]at hm;simp only[Option.bind_some]at hm
      have hgo:=hJ ⟨(i+1,l++[s],b.length-u.length),by simp only;omega,by simp[hll],by simp only;omega,(by
       intro y hy;simp only[List.mem_append,List.mem_singleton]at hy;rcases hy with hy|rfl
       · exact hsz y hy
       · exact hs),(by
       simp only;rw[hm,z1,show n-(i+1)=m by omega]
       cases manyR (textR 12) m u<;>simp)⟩ (by simp only;omega)
      simp only at hgo;rw[z6Y _ (z5f l s),z6Z (z5f l s),z5d]at hgo;rw[List.length_append,List.length_singleton]at hgo;rw[z1v ht]
      cases hem:l.isEmpty with
      |true =>
       have hle:l=[]:=List.isEmpty_iff.1 hem;subst hle;unfold txC txS;simp only[List.isEmpty_nil,if_true];have p32:((1:Nat)≤2^32)=True:=eq_true (by decide)
       simp -implicitDefEqProofs only[go_sem,g0,g1,s0,s1,aa,hin,p32,List.length_append,List.append_assoc,List.length_cons,List.length_nil];exact hgo
      |false =>
       rw[z6Y _ hem,z6Z hem];have hle:l.length+1≤4294967296:=by omega
       simp -implicitDefEqProofs only[go_sem,g0,g1,g2,s0,s1,s2,aa,hin,z0J,hle,List.length_singleton];exact hgo
   · have hie:i=n:=by omega
     subst hie;have d0:decide ((i:Int)<i)=false:=by simp
     rw[Nat.sub_self]at hm;simp only[manyR,Option.map_some,List.append_nil]at hm;rw[hm]at hR;simp only[Option.bind_some]at hR;have hsm:RSm (mkRu (m1,m2,(any,lo,hi),l)):=⟨z1Y v1,z1Y v2,fun s hs=>by have:=hsz s hs;omega⟩
     have hru:=fun s=>z1I s (mkRu (m1,m2,(any,lo,hi),l)) hsm
     have hlen:b.length-(b.drop at_).length=at_:=by rw[List.length_drop];omega
     have fin:(ruIs (mkRu (m1,m2,(any,lo,hi),l))=false→ruR b=none)∧(ruIs (mkRu (m1,m2,(any,lo,hi),l))=true→ruR b=some (mkRu (m1,m2,(any,lo,hi),l),b.drop at_)):=by
      refine⟨fun h=>?_,fun h=>?_⟩
      · rw[hR,h];rfl
      · rw[hR,h];rfl
     generalize ruIs (mkRu (m1,m2,(any,lo,hi),l))=ok at hru fin
     cases hem:l.isEmpty with
     |true =>
      have hle:l=[]:=List.isEmpty_iff.1 hem;subst hle;unfold txC txS;simp only[List.isEmpty_nil,if_true];simp -implicitDefEqProofs only[mkE,go_sem,hwn,d0,z2Y,g0,g1,g2,s0,s1,s2];refine CO.intro (hru _) ?_
      cases ok with
      |false =>
       rw[fin.1 rfl];simp -implicitDefEqProofs only[go_sem,g0,g1,g2,s0,s1,s2];exact tr_ (σ':=σ) rfl (by unfold readV;exact z0b (z1t _)) hbel
      |true =>
       rw[z0M (fin.2 rfl),hlen];simp -implicitDefEqProofs only[go_sem,g0,g1,g2,s0,s1,s2];exact tr_ (σ':=σ) rfl (z0b (z66 _ _)) hbel
     |false =>
      have ne32:(σ.length+2≠σ.length+1)=True:=eq_true (by omega)
      rw[z6Y _ hem,z6Z hem];simp -implicitDefEqProofs only[mkE,go_sem,hwn,d0,z0J,ne32,g0,g1,g2,s0,s1,s2];refine CO.intro (hru _) ?_
      cases ok with
      |false =>
       rw[fin.1 rfl];simp -implicitDefEqProofs only[go_sem,g0,g1,g2,s0,s1,s2];exact tr_ (σ':=σ) rfl (by unfold readV;exact z0b (z1t _)) hbel
      |true =>
       rw[z0M (fin.2 rfl),hlen];simp -implicitDefEqProofs only[go_sem,g0,g1,g2,s0,s1,s2];exact tr_ (σ':=σ) rfl (z0b (z66 _ _)) hbel
end
end Go.Proofs.YtmkmhhjkdaklbaaGreat
namespace Go.Ab
open Go
theorem L.step {P:Program} {n0:Nat} {clr:List Tmp} {x:ACode} {k:List Fr} {B:Bs} {env:Env} {σ:St}
  (h:∀J:Env→St→Prop,(∀env σ,L P n0 clr x k B env σ→J env σ)→R P n0 x (.loop J clr::k) B env σ):L P n0 clr x k B env σ:=by
 unfold L;intro I hI;refine hI _ _ (h I fun env' σ' hl=>?_)
 unfold L at hl;exact hl I hI
end Go.Ab
namespace Go.Proofs.YtmkmhhjkdaklbaaGreat
open Go Go.Ab Go.Cod
set_option maxRecDepth 100000
theorem z0R {σ:St} {p:Nat} {o:Ob} (h:σ[p]?=some o):σ.set p o=σ:=by
 obtain⟨hp,e⟩:=List.getElem?_eq_some_iff.1 h;rw[←e];exact List.set_getElem_self hp
theorem z7E {M:Nat} {b:Byt} {u:Nat} {t:Byt} (h:numR M b=some (u,t)):getN 0 b=some (u,t)∧u≤M:=by
 simp only[numR]at h
 cases hg:getN 0 b with
 |none=>simp[hg]at h
 |some p =>
  simp only[hg,Option.bind_some]at h;split at h
  · simp only[Option.some.injEq]at h;subst h;exact⟨rfl,by assumption⟩
  · cases h
section
variable (σ:St) (p:Nat) (b:Byt) (hb:b.length≤50000)
include hb in
theorem z7F (c0 c1 c3 c4 c5 c6 c7 c8 c9 c10 c11 c12 c13 c14 c15 c16 c17 c18:AV) (h:σ[p]?=some (.box [c0,c1,I 0,c3,c4,c5,c6,c7,c8,c9,c10,c11,c12,c13,c14,c15,c16,c17,c18])) (hr:numR 1099511627776 b=none):Ans Tryz.prog 105 [.ptr p 0,.pl (.int .u8 73),.sl 1 (byv b)] σ (.tup [I 0,Bo false]) σ:=by
 have h9:=z0R h
 cases hg:getN 0 b with
 |none =>
  have k:=z1r σ b (by omega)
  rw[z0N hg]at k;have d:decide ((1099511627776:Int)<((0:Nat):Int))=false:=by decide
  have w0:IntKind.i64.wrap ((0:Nat):Int)=0:=rfl;refine Ans.of_run t105 ?_;simp -implicitDefEqProofs only[c105,r105,go_sem];refine CO.intro k ?_;simp -implicitDefEqProofs only[go_sem,d,w0,h];refine Fini.ret3 (n:=0) rfl rfl ?_;exact h9
 |some q =>
  obtain⟨u,t⟩:=q;have k:=z1r σ b (by omega)
  rw[z0S hg]at k
  have d:decide ((1099511627776:Int)<(u:Int))=true:=by
   have:¬u≤1099511627776:=fun hu=>by simp[numR,hg,hu]at hr
   simp;omega
  refine Ans.of_run t105 ?_;simp -implicitDefEqProofs only[c105,r105,go_sem];refine CO.intro k ?_;simp -implicitDefEqProofs only[go_sem,d];exact Fini.ret rfl
include hb in
theorem z7G (c0 c1 c2 c3 c4 c5 c6 c7 c8 c9 c10 c11 c12 c13 c14 c15 c16 c17 c18:AV) (h:σ[p]?=some (.box [c0,c1,c2,c3,c4,c5,c6,c7,c8,c9,c10,c11,c12,c13,c14,c15,c16,c17,c18])) (u:Nat) (t:Byt) (hr:numR 1099511627776 b=some (u,t)):Ans Tryz.prog 105 [.ptr p 0,.pl (.int .u8 73),.sl 1 (byv b)] σ (.tup [I (b.length-t.length:Nat),Bo true]) (σ.set p (.box [c0,c1,I (u:Nat),c3,c4,c5,c6,c7,c8,c9,c10,c11,c12,c13,c14,c15,c16,c17,c18])):=by
 have h9:=z0R h;obtain⟨hg,hu⟩:=z7E hr;have k:=z1r σ b (by omega)
 rw[z0S hg]at k;have d:decide ((1099511627776:Int)<(u:Int))=false:=by simp;omega
 have wu:IntKind.i64.wrap (u:Int)=(u:Int):=wrapI (by omega)
 refine Ans.of_run t105 ?_;simp -implicitDefEqProofs only[c105,r105,go_sem];refine CO.intro k ?_;simp -implicitDefEqProofs only[go_sem,d,wu,h];exact Fini.ret rfl
include hb in
theorem zaO (c0 c1 c2 c3 c5 c6 c7 c8 c9 c10 c11 c12 c13 c14 c15 c16 c17 c18:AV) (h:σ[p]?=some (.box [c0,c1,c2,c3,UN 0,c5,c6,c7,c8,c9,c10,c11,c12,c13,c14,c15,c16,c17,c18])) (hr:numR 1099511627776 b=none):Ans Tryz.prog 105 [.ptr p 0,.pl (.int .u8 83),.sl 1 (byv b)] σ (.tup [I 0,Bo false]) σ:=by
 have h9:=z0R h
 cases hg:getN 0 b with
 |none =>
  have k:=z1r σ b (by omega)
  rw[z0N hg]at k;have d:decide ((1099511627776:Int)<((0:Nat):Int))=false:=by decide
  have w0:IntKind.i64.wrap ((0:Nat):Int)=0:=rfl;refine Ans.of_run t105 ?_;simp -implicitDefEqProofs only[c105,r105,go_sem];refine CO.intro k ?_;simp -implicitDefEqProofs only[go_sem,d,w0,h];refine Fini.ret3 (n:=0) rfl rfl ?_;exact h9
 |some q =>
  obtain⟨u,t⟩:=q;have k:=z1r σ b (by omega)
  rw[z0S hg]at k
  have d:decide ((1099511627776:Int)<(u:Int))=true:=by
   have:¬u≤1099511627776:=fun hu=>by simp[numR,hg,hu]at hr
   simp;omega
  refine Ans.of_run t105 ?_;simp -implicitDefEqProofs only[c105,r105,go_sem];refine CO.intro k ?_;simp -implicitDefEqProofs only[go_sem,d];exact Fini.ret rfl
include hb in
theorem zaP (c0 c1 c2 c3 c4 c5 c6 c7 c8 c9 c10 c11 c12 c13 c14 c15 c16 c17 c18:AV) (h:σ[p]?=some (.box [c0,c1,c2,c3,c4,c5,c6,c7,c8,c9,c10,c11,c12,c13,c14,c15,c16,c17,c18])) (u:Nat) (t:Byt) (hr:numR 1099511627776 b=some (u,t)):Ans Tryz.prog 105 [.ptr p 0,.pl (.int .u8 83),.sl 1 (byv b)] σ (.tup [I (b.length-t.length:Nat),Bo true]) (σ.set p (.box [c0,c1,c2,c3,UN u,c5,c6,c7,c8,c9,c10,c11,c12,c13,c14,c15,c16,c17,c18])):=by
 have h9:=z0R h;obtain⟨hg,hu⟩:=z7E hr;have k:=z1r σ b (by omega)
 rw[z0S hg]at k;have d:decide ((1099511627776:Int)<(u:Int))=false:=by simp;omega
 have wu:IntKind.i64.wrap (u:Int)=(u:Int):=wrapI (by omega)
 refine Ans.of_run t105 ?_;simp -implicitDefEqProofs only[c105,r105,go_sem];refine CO.intro k ?_;simp -implicitDefEqProofs only[go_sem,d,wu,h];exact Fini.ret rfl
include hb in
theorem zaQ (c0 c1 c2 c3 c4 c6 c7 c8 c9 c10 c11 c12 c13 c14 c15 c16 c17 c18:AV) (h:σ[p]?=some (.box [c0,c1,c2,c3,c4,UN 0,c6,c7,c8,c9,c10,c11,c12,c13,c14,c15,c16,c17,c18])) (hr:numR 1099511627776 b=none):Ans Tryz.prog 105 [.ptr p 0,.pl (.int .u8 69),.sl 1 (byv b)] σ (.tup [I 0,Bo false]) σ:=by
 have h9:=z0R h
 cases hg:getN 0 b with
 |none =>
  have k:=z1r σ b (by omega)
  rw[z0N hg]at k;have d:decide ((1099511627776:Int)<((0:Nat):Int))=false:=by decide
  have w0:IntKind.i64.wrap ((0:Nat):Int)=0:=rfl;refine Ans.of_run t105 ?_;simp -implicitDefEqProofs only[c105,r105,go_sem];refine CO.intro k ?_;simp -implicitDefEqProofs only[go_sem,d,w0,h];refine Fini.ret3 (n:=0) rfl rfl ?_;exact h9
 |some q =>
  obtain⟨u,t⟩:=q;have k:=z1r σ b (by omega)
  rw[z0S hg]at k
  have d:decide ((1099511627776:Int)<(u:Int))=true:=by
   have:¬u≤1099511627776:=fun hu=>by simp[numR,hg,hu]at hr
   simp;omega
  refine Ans.of_run t105 ?_;simp -implicitDefEqProofs only[c105,r105,go_sem];refine CO.intro k ?_;simp -implicitDefEqProofs only[go_sem,d];exact Fini.ret rfl
include hb in
theorem zaR (c0 c1 c2 c3 c4 c5 c6 c7 c8 c9 c10 c11 c12 c13 c14 c15 c16 c17 c18:AV) (h:σ[p]?=some (.box [c0,c1,c2,c3,c4,c5,c6,c7,c8,c9,c10,c11,c12,c13,c14,c15,c16,c17,c18])) (u:Nat) (t:Byt) (hr:numR 1099511627776 b=some (u,t)):Ans Tryz.prog 105 [.ptr p 0,.pl (.int .u8 69),.sl 1 (byv b)] σ (.tup [I (b.length-t.length:Nat),Bo true]) (σ.set p (.box [c0,c1,c2,c3,c4,UN u,c6,c7,c8,c9,c10,c11,c12,c13,c14,c15,c16,c17,c18])):=by
 have h9:=z0R h;obtain⟨hg,hu⟩:=z7E hr;have k:=z1r σ b (by omega)
 rw[z0S hg]at k;have d:decide ((1099511627776:Int)<(u:Int))=false:=by simp;omega
 have wu:IntKind.i64.wrap (u:Int)=(u:Int):=wrapI (by omega)
 refine Ans.of_run t105 ?_;simp -implicitDefEqProofs only[c105,r105,go_sem];refine CO.intro k ?_;simp -implicitDefEqProofs only[go_sem,d,wu,h];exact Fini.ret rfl
include hb in
theorem zeZ (c0 c1 c2 c4 c5 c6 c7 c8 c9 c10 c11 c12 c13 c14 c15 c16 c17 c18:AV) (h:σ[p]?=some (.box [c0,c1,c2,Sx ⟨#[]⟩,c4,c5,c6,c7,c8,c9,c10,c11,c12,c13,c14,c15,c16,c17,c18])) (hr:textR 16 b=none):Ans Tryz.prog 105 [.ptr p 0,.pl (.int .u8 84),.sl 1 (byv b)] σ (.tup [I 0,Bo false]) σ:=by
 have h9:=z0R h;have k:=z1q σ b 16 (by omega) (by decide)
 rw[z0Q hr]at k;refine Ans.of_run t105 ?_;simp -implicitDefEqProofs only[c105,r105,go_sem];refine CO.intro k ?_;simp -implicitDefEqProofs only[go_sem,h];refine Fini.ret3 (n:=0) rfl rfl ?_;exact h9
include hb in
theorem zf0 (c0 c1 c2 c3 c4 c5 c6 c7 c8 c9 c10 c11 c12 c13 c14 c15 c16 c17 c18:AV) (h:σ[p]?=some (.box [c0,c1,c2,c3,c4,c5,c6,c7,c8,c9,c10,c11,c12,c13,c14,c15,c16,c17,c18])) (s:ByteArray) (t:Byt) (hr:textR 16 b=some (s,t)):Ans Tryz.prog 105 [.ptr p 0,.pl (.int .u8 84),.sl 1 (byv b)] σ (.tup [I (b.length-t.length:Nat),Bo true]) (σ.set p (.box [c0,c1,c2,Sx s,c4,c5,c6,c7,c8,c9,c10,c11,c12,c13,c14,c15,c16,c17,c18])):=by
 have h9:=z0R h;have k:=z1q σ b 16 (by omega) (by decide)
 rw[z1v hr]at k;refine Ans.of_run t105 ?_;simp -implicitDefEqProofs only[c105,r105,go_sem];refine CO.intro k ?_;simp -implicitDefEqProofs only[go_sem,h];exact Fini.ret rfl
include hb in
theorem zf1 (c0 c1 c2 c3 c4 c5 c6 c7 c8 c9 c10 c11 c12 c13 c14 c15 c16 c17 c18:AV) (h:σ[p]?=some (.box [c0,c1,c2,c3,c4,c5,c6,c7,c8,c9,c10,c11,c12,c13,c14,c15,c16,c17,c18])) (hr:b=[]):Ans Tryz.prog 105 [.ptr p 0,.pl (.int .u8 90),.sl 1 (byv b)] σ (.tup [I 0,Bo false]) σ:=by
 have h9:=z0R h;have d:(((b.length:Nat):Int)==0)=true:=by rw[hr];decide
 refine Ans.of_run t105 ?_;simp -implicitDefEqProofs only[c105,r105,go_sem,z01,d];exact Fini.ret rfl
include hb in
theorem zf2 (c0 c1 c2 c3 c4 c5 c6 c7 c8 c9 c10 c11 c12 c13 c14 c15 c16 c17 c18:AV) (h:σ[p]?=some (.box [c0,c1,c2,c3,c4,c5,c6,c7,c8,c9,c10,c11,c12,c13,c14,c15,c16,c17,c18])) (c:UInt8) (t:Byt) (hr:b=c::t):Ans Tryz.prog 105 [.ptr p 0,.pl (.int .u8 90),.sl 1 (byv b)] σ (.tup [I 1,Bo true]) (σ.set p (.box [c0,c1,c2,c3,c4,c5,I (c.toNat:Nat),c7,c8,c9,c10,c11,c12,c13,c14,c15,c16,c17,c18])):=by
 have h9:=z0R h;have d:(((b.length:Nat):Int)==0)=false:=by rw[hr,List.length_cons];exact neI (by omega)
 have hpos:((0:Int)<(b.length:Nat))=True:=eq_true (by rw[hr,List.length_cons];omega)
 have hx:(byv b)[0]?=some (bc c):=by rw[hr];rfl
 have z0:Int.toNat 0=0:=rfl;have wc:IntKind.i64.wrap (c.toNat:Int)=(c.toNat:Int):=wrapI (by have:=c.toNat_lt;omega)
 refine Ans.of_run t105 ?_;simp -implicitDefEqProofs only[c105,r105,go_sem,z01,d,hpos,hx,z0,bc,wc,h];exact Fini.ret rfl
include hb in
theorem z7H (c0 c1 c2 c3 c4 c5 c6 c8 c9 c10 c11 c12 c13 c14 c15 c16 c17 c18:AV) (h:σ[p]?=some (.box [c0,c1,c2,c3,c4,c5,c6,.nils,c8,c9,c10,c11,c12,c13,c14,c15,c16,c17,c18])) (hr:listR b=none):Ans Tryz.prog 105 [.ptr p 0,.pl (.int .u8 77),.sl 1 (byv b)] σ (.tup [I 0,Bo false]) σ:=by
 have h9:=z0R h;have k:=z4L σ b hb;rw[z0G hr]at k;refine Ans.of_run t105 ?_;simp -implicitDefEqProofs only[c105,r105,go_sem];refine CO.intro k ?_;simp -implicitDefEqProofs only[go_sem,h];refine Fini.ret3 (n:=0) rfl rfl ?_;exact h9
include hb in
theorem z7I (c0 c1 c2 c3 c4 c5 c6 c7 c8 c9 c10 c11 c12 c13 c14 c15 c16 c17 c18:AV) (h:σ[p]?=some (.box [c0,c1,c2,c3,c4,c5,c6,c7,c8,c9,c10,c11,c12,c13,c14,c15,c16,c17,c18])) (x:List Mtr) (t:Byt) (hr:listR b=some (x,t)):Ans Tryz.prog 105 [.ptr p 0,.pl (.int .u8 77),.sl 1 (byv b)] σ (.tup [I (b.length-t.length:Nat),Bo true]) (σ.set p (.box [c0,c1,c2,c3,c4,c5,c6,mlV x,c8,c9,c10,c11,c12,c13,c14,c15,c16,c17,c18])):=by
 have h9:=z0R h;have k:=z4L σ b hb;rw[z0M hr]at k;refine Ans.of_run t105 ?_;simp -implicitDefEqProofs only[c105,r105,go_sem];refine CO.intro k ?_;simp -implicitDefEqProofs only[go_sem,h];exact Fini.ret rfl
include hb in
theorem zaS (c0 c1 c2 c3 c4 c5 c6 c7 c11 c12 c13 c14 c15 c16 c17 c18:AV) (h:σ[p]?=some (.box [c0,c1,c2,c3,c4,c5,c6,c7,Bo false,Fl 0,Fl 0,c11,c12,c13,c14,c15,c16,c17,c18])) (hr:bandR b=none):Ans Tryz.prog 105 [.ptr p 0,.pl (.int .u8 66),.sl 1 (byv b)] σ (.tup [I 0,Bo false]) σ:=by
 have h9:=z0R h;have k:=z3p σ b hb;rw[z0G hr]at k;unfold bandV at k;refine Ans.of_run t105 ?_;simp -implicitDefEqProofs only[c105,r105,go_sem];refine CO.intro k ?_;simp -implicitDefEqProofs only[go_sem,h];refine Fini.ret3 (n:=0) rfl rfl ?_;exact h9
include hb in
theorem zaT (c0 c1 c2 c3 c4 c5 c6 c7 c8 c9 c10 c11 c12 c13 c14 c15 c16 c17 c18:AV) (h:σ[p]?=some (.box [c0,c1,c2,c3,c4,c5,c6,c7,c8,c9,c10,c11,c12,c13,c14,c15,c16,c17,c18])) (x:Bnd) (t:Byt) (hr:bandR b=some (x,t)):Ans Tryz.prog 105 [.ptr p 0,.pl (.int .u8 66),.sl 1 (byv b)] σ (.tup [I (b.length-t.length:Nat),Bo true]) (σ.set p (.box [c0,c1,c2,c3,c4,c5,c6,c7,Bo x.1,Fl x.2.1,Fl x.2.2,c11,c12,c13,c14,c15,c16,c17,c18])):=by
 have h9:=z0R h;have k:=z3p σ b hb;rw[z0M hr]at k;unfold bandV at k;refine Ans.of_run t105 ?_;simp -implicitDefEqProofs only[c105,r105,go_sem];refine CO.intro k ?_;simp -implicitDefEqProofs only[go_sem,h];exact Fini.ret rfl
include hb in
theorem zf3 (c0 c1 c2 c3 c4 c5 c6 c7 c8 c9 c10 c17 c18:AV) (h:σ[p]?=some (.box [c0,c1,c2,c3,c4,c5,c6,c7,c8,c9,c10,.nils,.nils,Bo false,Fl 0,Fl 0,.nils,c17,c18])) (hr:ruR b=none):Ans Tryz.prog 105 [.ptr p 0,.pl (.int .u8 82),.sl 1 (byv b)] σ (.tup [I 0,Bo false]) σ:=by
 have h9:=z0R h;have k:=z4Z σ b hb;rw[z0G hr]at k;unfold noRuV at k;refine Ans.of_run t105 ?_;simp -implicitDefEqProofs only[c105,r105,go_sem];refine CO.intro k ?_;simp -implicitDefEqProofs only[go_sem,h];refine Fini.ret3 (n:=0) rfl rfl ?_;exact h9
include hb in
theorem zf4 (c0 c1 c2 c3 c4 c5 c6 c7 c8 c9 c10 c11 c12 c13 c14 c15 c16 c17 c18:AV) (h:σ[p]?=some (.box [c0,c1,c2,c3,c4,c5,c6,c7,c8,c9,c10,c11,c12,c13,c14,c15,c16,c17,c18])) (x:RuM) (t:Byt) (hr:ruR b=some (x,t)):Ans Tryz.prog 105 [.ptr p 0,.pl (.int .u8 82),.sl 1 (byv b)] σ (.tup [I (b.length-t.length:Nat),Bo true]) (σ.set p (.box [c0,c1,c2,c3,c4,c5,c6,c7,c8,c9,c10,mlV x.src,mlV x.tgt,Bo x.any,Fl x.lo,Fl x.hi,.sl 1 (txs x.eq),c17,c18])):=by
 have h9:=z0R h;have k:=z4Z σ b hb;rw[z0M hr]at k;unfold ruV at k;refine Ans.of_run t105 ?_;simp -implicitDefEqProofs only[c105,r105,go_sem];refine CO.intro k ?_;simp -implicitDefEqProofs only[go_sem,h];exact Fini.ret rfl
include hb in
theorem zf5 (c0 c1 c2 c3 c4 c5 c6 c7 c8 c9 c10 c11 c12 c13 c14 c15 c16 c18:AV) (h:σ[p]?=some (.box [c0,c1,c2,c3,c4,c5,c6,c7,c8,c9,c10,c11,c12,c13,c14,c15,c16,.nils,c18])) (hr:setR b=none):Ans Tryz.prog 105 [.ptr p 0,.pl (.int .u8 76),.sl 1 (byv b)] σ (.tup [I 0,Bo false]) σ:=by
 have h9:=z0R h;have k:=z6d σ b hb;rw[z0G hr]at k;refine Ans.of_run t105 ?_;simp -implicitDefEqProofs only[c105,r105,go_sem];refine CO.intro k ?_;simp -implicitDefEqProofs only[go_sem,h];refine Fini.ret3 (n:=0) rfl rfl ?_;exact h9
include hb in
theorem zf6 (c0 c1 c2 c3 c4 c5 c6 c7 c8 c9 c10 c11 c12 c13 c14 c15 c16 c17 c18:AV) (h:σ[p]?=some (.box [c0,c1,c2,c3,c4,c5,c6,c7,c8,c9,c10,c11,c12,c13,c14,c15,c16,c17,c18])) (x:List Lab) (t:Byt) (hr:setR b=some (x,t)):Ans Tryz.prog 105 [.ptr p 0,.pl (.int .u8 76),.sl 1 (byv b)] σ (.tup [I (b.length-t.length:Nat),Bo true]) (σ.set p (.box [c0,c1,c2,c3,c4,c5,c6,c7,c8,c9,c10,c11,c12,c13,c14,c15,c16,lsV x,c18])):=by
 have h9:=z0R h;have k:=z6d σ b hb;rw[z0M hr]at k;refine Ans.of_run t105 ?_;simp -implicitDefEqProofs only[c105,r105,go_sem];refine CO.intro k ?_;simp -implicitDefEqProofs only[go_sem,h];exact Fini.ret rfl
include hb in
theorem zf7 (c0 c1 c2 c3 c4 c5 c6 c7 c8 c9 c10 c11 c12 c13 c14 c15 c16 c17:AV) (h:σ[p]?=some (.box [c0,c1,c2,c3,c4,c5,c6,c7,c8,c9,c10,c11,c12,c13,c14,c15,c16,c17,Fl 0])) (hr:valR b=none):Ans Tryz.prog 105 [.ptr p 0,.pl (.int .u8 86),.sl 1 (byv b)] σ (.tup [I 8,Bo false]) σ:=by
 have h9:=z0R h;have k:=z2R σ b (by omega)
 unfold wordV at k;have k2:=fun u=>z4q σ u
 simp only[valR,onlyR]at hr
 cases hw:wordR b with
 |none =>
  rw[hw]at k;have e0:okV 0=true:=by decide +kernel
  have k2:=k2 0;rw[e0]at k2;refine Ans.of_run t105 ?_;simp -implicitDefEqProofs only[c105,r105,go_sem];refine CO.intro k ?_;simp -implicitDefEqProofs only[go_sem];refine CO.intro k2 ?_;simp -implicitDefEqProofs only[go_sem,h,if_true];refine Fini.ret3 (n:=0) rfl rfl ?_;exact h9
 |some q =>
  obtain⟨u,t⟩:=q;rw[hw]at k hr
  have e0:okV u=false:=by
   simp only[Option.bind_some]at hr
   cases ho:okV u with
   |true=>rw[ho]at hr;simp at hr
   |false=>rfl
  have k2:=k2 u;rw[e0]at k2;refine Ans.of_run t105 ?_;simp -implicitDefEqProofs only[c105,r105,go_sem];refine CO.intro k ?_;simp -implicitDefEqProofs only[go_sem];refine CO.intro k2 ?_;simp -implicitDefEqProofs only[go_sem,h,Bool.false_eq_true,if_false];refine Fini.ret3 (n:=0) rfl rfl ?_;exact h9
include hb in
theorem zf8 (c0 c1 c2 c3 c4 c5 c6 c7 c8 c9 c10 c11 c12 c13 c14 c15 c16 c17 c18:AV) (h:σ[p]?=some (.box [c0,c1,c2,c3,c4,c5,c6,c7,c8,c9,c10,c11,c12,c13,c14,c15,c16,c17,c18])) (u:Nat) (t:Byt) (hr:valR b=some (u,t)):Ans Tryz.prog 105 [.ptr p 0,.pl (.int .u8 86),.sl 1 (byv b)] σ (.tup [I 8,Bo true]) (σ.set p (.box [c0,c1,c2,c3,c4,c5,c6,c7,c8,c9,c10,c11,c12,c13,c14,c15,c16,c17,Fl u])):=by
 have h9:=z0R h;have k:=z2R σ b (by omega)
 unfold wordV at k;simp only[valR,onlyR]at hr
 cases hw:wordR b with
 |none=>simp[hw]at hr
 |some q =>
  obtain⟨u',t'⟩:=q;rw[hw]at k hr
  have e0:okV u'=true∧u'=u:=by
   simp only[Option.bind_some]at hr
   cases ho:okV u' with
   |true =>
    rw[ho]at hr;simp only[if_true,Option.some.injEq,Prod.mk.injEq]at hr;exact⟨rfl,hr.1⟩
   |false=>rw[ho]at hr;simp at hr
  obtain⟨e0,rfl⟩:=e0;have k2:=z4q σ u';rw[e0]at k2;refine Ans.of_run t105 ?_;simp -implicitDefEqProofs only[c105,r105,go_sem];refine CO.intro k ?_;simp -implicitDefEqProofs only[go_sem];refine CO.intro k2 ?_;simp -implicitDefEqProofs only[go_sem,h,if_true];exact Fini.ret rfl
end
end Go.Proofs.YtmkmhhjkdaklbaaGreat
