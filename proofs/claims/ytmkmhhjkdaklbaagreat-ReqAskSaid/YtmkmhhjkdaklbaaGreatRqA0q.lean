/- Whether a request may be, by the document, at some of the strings of fields. Printed by a program. No condition. -/
import Derived.Test.YtmkmhhjkdaklbaaGreatRd3cq
import Derived.Test.YtmkmhhjkdaklbaaGreatRq2q
import Derived.Test.YtmkmhhjkdaklbaaGreatXMRcbq
import Derived.Test.YtmkmhhjkdaklbaaGreatProg
import Derived.Test.YtmkmhhjkdaklbaaGreatAbStepq
import Derived.Test.YtmkmhhjkdaklbaaGreatXDr4q
import Derived.Test.YtmkmhhjkdaklbaaGreatAbArgq
import Derived.Test.YtmkmhhjkdaklbaaGreatXPDoc1q
set_option linter.unusedSimpArgs false
set_option linter.unusedVariables false
set_option linter.unusedSectionVars false
namespace Go.Proofs.YtmkmhhjkdaklbaaGreat
open Go Go.Ab Go.Cod
set_option maxRecDepth 100000
section
variable (σ:St)
set_option maxHeartbeats 8000000 in
theorem z8e (r:ReM) (hr:ReSm r) (hd:dOf r.op=S768):Ans Tryz.prog 89 [reV r] σ (Bo (docB r S768)) σ:=by
 obtain⟨tok,op,id,txt,st,en,sta,mt,any,lo,hi,⟨src,tgt,ra,rl,rh,eq⟩,ls,val⟩:=r
 obtain⟨hm,hru,hls⟩:=hr
 simp only at hm hru hls hd
 have k1:=z0z σ op
 rw[hd]at k1
 have ii:=fun c h=>z1t σ S768 c h
 have i73:=ii 73 (by decide)
 have i84:=ii 84 (by decide)
 have i83:=ii 83 (by decide)
 have i90:=ii 90 (by decide)
 have i77:=ii 77 (by decide)
 have i66:=ii 66 (by decide)
 have i82:=ii 82 (by decide)
 have i76:=ii 76 (by decide)
 simp only[z9K]at i73 i84 i83 i90 i77 i66 i82 i76
 have b0:=z1k σ txt
 have b1:=z0K σ mt hm
 have b2:=z0O σ (any,lo,hi)
 have b3:=z1i σ any lo hi
 have b4:=z15 σ ⟨src,tgt,ra,rl,rh,eq⟩ hru
 have b5:=z0X σ ⟨src,tgt,ra,rl,rh,eq⟩
 have b6:=z1l σ ls hls
 have b7:=z0t σ val
 unfold bandV at b2
 unfold ruV at b4 b5
 unfold docB
 simp only[z9K,Bool.true_or,Bool.false_or,Bool.not_true,Bool.not_false,Bool.true_and,if_true,Bool.false_eq_true,if_false]
 refine Ans.of_run t89 ?_
 unfold reV reC
 simp -implicitDefEqProofs only[c89,r89,go_sem]
 refine CO.intro k1 ?_
 simp -implicitDefEqProofs only[go_sem]
 refine CO.intro i73 ?_
 cases h0:(id==0) with
 |false =>
  have fh00:=ne_of h0
  simp -implicitDefEqProofs only[go_sem,h0,fh00]
  exact Fini.ret rfl
 |true =>
 have fh00:=ne_of h0
 cases h1:(decide (0≤id)) with
 |false =>
  have fh10:=lt_of h1
  simp -implicitDefEqProofs only[go_sem,h0,fh00,h1,fh10]
  exact Fini.ret rfl
 |true =>
 have fh10:=lt_of h1
 cases h2:(decide (id≤2147483647)) with
 |false =>
  have fh20:=gt_of h2
  simp -implicitDefEqProofs only[go_sem,h0,fh00,h1,fh10,h2,fh20]
  exact Fini.ret rfl
 |true =>
 have fh20:=gt_of h2
 simp -implicitDefEqProofs only[go_sem,h0,fh00,h1,fh10,h2,fh20]
 refine CO.intro i84 ?_
 simp -implicitDefEqProofs only[go_sem]
 refine CO.intro i84 ?_
 unfold emS
 cases h3:(txt.toList==(⟨#[]⟩:ByteArray).toList) with
 |false =>
  simp -implicitDefEqProofs only[go_sem,h3]
  exact Fini.ret rfl
 |true =>
 simp -implicitDefEqProofs only[go_sem,h3]
 refine CO.intro i83 ?_
 unfold emU
 cases h4:(((st:Nat):Int)==0) with
 |false =>
  have fh40:=ne_of h4
  simp -implicitDefEqProofs only[go_sem,h4,fh40]
  exact Fini.ret rfl
 |true =>
 have fh40:=ne_of h4
 cases h5:(((en:Nat):Int)==0) with
 |false =>
  have fh50:=ne_of h5
  simp -implicitDefEqProofs only[go_sem,h4,fh40,h5,fh50]
  exact Fini.ret rfl
 |true =>
 have fh50:=ne_of h5
 unfold clkB
 cases h6:(decide (((st:Nat):Int)≤1099511627776)) with
 |false =>
  have fh60:=gt_of h6
  simp -implicitDefEqProofs only[go_sem,h4,fh40,h5,fh50,h6,fh60]
  exact Fini.ret rfl
 |true =>
 have fh60:=gt_of h6
 cases h7:(decide (((en:Nat):Int)≤1099511627776)) with
 |false =>
  have fh70:=gt_of h7
  simp -implicitDefEqProofs only[go_sem,h4,fh40,h5,fh50,h6,fh60,h7,fh70]
  exact Fini.ret rfl
 |true =>
 have fh70:=gt_of h7
 simp -implicitDefEqProofs only[go_sem,h4,fh40,h5,fh50,h6,fh60,h7,fh70]
 refine CO.intro i90 ?_
 cases h8:(sta==0) with
 |false =>
  have fh80:=ne_of h8
  simp -implicitDefEqProofs only[go_sem,h8,fh80]
  exact Fini.ret rfl
 |true =>
 have fh80:=ne_of h8
 cases h9:(decide (0≤sta)) with
 |false =>
  have fh90:=lt_of h9
  simp -implicitDefEqProofs only[go_sem,h8,fh80,h9,fh90]
  exact Fini.ret rfl
 |true =>
 have fh90:=lt_of h9
 cases h10:(decide (sta≤3)) with
 |false =>
  have fh100:=gt_of h10
  simp -implicitDefEqProofs only[go_sem,h8,fh80,h9,fh90,h10,fh100]
  exact Fini.ret rfl
 |true =>
 have fh100:=gt_of h10
 simp -implicitDefEqProofs only[go_sem,h8,fh80,h9,fh90,h10,fh100]
 refine CO.intro i77 ?_
 have hl:=z3u mt.length
 cases hm0:(emI mt.length) with
 |false =>
  rw[hm0]at hl
  simp -implicitDefEqProofs only[go_sem,hl]
  exact Fini.ret rfl
 |true =>
 rw[hm0]at hl
 simp -implicitDefEqProofs only[go_sem,hl]
 refine CO.intro i83 ?_
 simp -implicitDefEqProofs only[go_sem]
 refine CO.intro b1 ?_
 cases h11:(listB mt) with
 |false =>
  simp -implicitDefEqProofs only[go_sem]
  exact Fini.ret rfl
 |true =>
 simp -implicitDefEqProofs only[go_sem]
 refine CO.intro i66 ?_
 simp -implicitDefEqProofs only[go_sem]
 refine CO.intro b2 ?_
 cases h12:(noBd (any,lo,hi)) with
 |false =>
  simp -implicitDefEqProofs only[go_sem]
  exact Fini.ret rfl
 |true =>
 simp -implicitDefEqProofs only[go_sem]
 refine CO.intro b3 ?_
 cases h13:(mayB any lo hi) with
 |false =>
  simp -implicitDefEqProofs only[go_sem]
  exact Fini.ret rfl
 |true =>
 simp -implicitDefEqProofs only[go_sem]
 refine CO.intro i82 ?_
 simp -implicitDefEqProofs only[go_sem]
 refine CO.intro i82 ?_
 simp -implicitDefEqProofs only[go_sem]
 refine CO.intro b5 ?_
 cases h14:(noRl ⟨src,tgt,ra,rl,rh,eq⟩) with
 |false =>
  simp -implicitDefEqProofs only[go_sem]
  exact Fini.ret rfl
 |true =>
 simp -implicitDefEqProofs only[go_sem]
 refine CO.intro i76 ?_
 simp -implicitDefEqProofs only[go_sem]
 refine CO.intro b6 ?_
 simp -implicitDefEqProofs only[go_sem]
 exact Fini.ret rfl
set_option maxHeartbeats 8000000 in
theorem z9L (r:ReM) (hr:ReSm r) (hd:dOf r.op=S16):Ans Tryz.prog 89 [reV r] σ (Bo (docB r S16)) σ:=by
 obtain⟨tok,op,id,txt,st,en,sta,mt,any,lo,hi,⟨src,tgt,ra,rl,rh,eq⟩,ls,val⟩:=r
 obtain⟨hm,hru,hls⟩:=hr
 simp only at hm hru hls hd
 have k1:=z0z σ op
 rw[hd]at k1
 have ii:=fun c h=>z1t σ S16 c h
 have i73:=ii 73 (by decide)
 have i84:=ii 84 (by decide)
 have i83:=ii 83 (by decide)
 have i90:=ii 90 (by decide)
 have i77:=ii 77 (by decide)
 have i66:=ii 66 (by decide)
 have i82:=ii 82 (by decide)
 have i76:=ii 76 (by decide)
 simp only[hc_16]at i73 i84 i83 i90 i77 i66 i82 i76
 have b0:=z1k σ txt
 have b1:=z0K σ mt hm
 have b2:=z0O σ (any,lo,hi)
 have b3:=z1i σ any lo hi
 have b4:=z15 σ ⟨src,tgt,ra,rl,rh,eq⟩ hru
 have b5:=z0X σ ⟨src,tgt,ra,rl,rh,eq⟩
 have b6:=z1l σ ls hls
 have b7:=z0t σ val
 unfold bandV at b2
 unfold ruV at b4 b5
 unfold docB
 simp only[hc_16,Bool.true_or,Bool.false_or,Bool.not_true,Bool.not_false,Bool.true_and,if_true,Bool.false_eq_true,if_false]
 refine Ans.of_run t89 ?_
 unfold reV reC
 simp -implicitDefEqProofs only[c89,r89,go_sem]
 refine CO.intro k1 ?_
 simp -implicitDefEqProofs only[go_sem]
 refine CO.intro i73 ?_
 cases h0:(id==0) with
 |false =>
  have fh00:=ne_of h0
  simp -implicitDefEqProofs only[go_sem,h0,fh00]
  exact Fini.ret rfl
 |true =>
 have fh00:=ne_of h0
 cases h1:(decide (0≤id)) with
 |false =>
  have fh10:=lt_of h1
  simp -implicitDefEqProofs only[go_sem,h0,fh00,h1,fh10]
  exact Fini.ret rfl
 |true =>
 have fh10:=lt_of h1
 cases h2:(decide (id≤2147483647)) with
 |false =>
  have fh20:=gt_of h2
  simp -implicitDefEqProofs only[go_sem,h0,fh00,h1,fh10,h2,fh20]
  exact Fini.ret rfl
 |true =>
 have fh20:=gt_of h2
 simp -implicitDefEqProofs only[go_sem,h0,fh00,h1,fh10,h2,fh20]
 refine CO.intro i84 ?_
 simp -implicitDefEqProofs only[go_sem]
 refine CO.intro i84 ?_
 unfold emS
 cases h3:(txt.toList==(⟨#[]⟩:ByteArray).toList) with
 |false =>
  simp -implicitDefEqProofs only[go_sem,h3]
  exact Fini.ret rfl
 |true =>
 simp -implicitDefEqProofs only[go_sem,h3]
 refine CO.intro i83 ?_
 unfold emU
 cases h4:(((st:Nat):Int)==0) with
 |false =>
  have fh40:=ne_of h4
  simp -implicitDefEqProofs only[go_sem,h4,fh40]
  exact Fini.ret rfl
 |true =>
 have fh40:=ne_of h4
 cases h5:(((en:Nat):Int)==0) with
 |false =>
  have fh50:=ne_of h5
  simp -implicitDefEqProofs only[go_sem,h4,fh40,h5,fh50]
  exact Fini.ret rfl
 |true =>
 have fh50:=ne_of h5
 unfold clkB
 cases h6:(decide (((st:Nat):Int)≤1099511627776)) with
 |false =>
  have fh60:=gt_of h6
  simp -implicitDefEqProofs only[go_sem,h4,fh40,h5,fh50,h6,fh60]
  exact Fini.ret rfl
 |true =>
 have fh60:=gt_of h6
 cases h7:(decide (((en:Nat):Int)≤1099511627776)) with
 |false =>
  have fh70:=gt_of h7
  simp -implicitDefEqProofs only[go_sem,h4,fh40,h5,fh50,h6,fh60,h7,fh70]
  exact Fini.ret rfl
 |true =>
 have fh70:=gt_of h7
 simp -implicitDefEqProofs only[go_sem,h4,fh40,h5,fh50,h6,fh60,h7,fh70]
 refine CO.intro i90 ?_
 cases h8:(sta==0) with
 |false =>
  have fh80:=ne_of h8
  simp -implicitDefEqProofs only[go_sem,h8,fh80]
  exact Fini.ret rfl
 |true =>
 have fh80:=ne_of h8
 cases h9:(decide (0≤sta)) with
 |false =>
  have fh90:=lt_of h9
  simp -implicitDefEqProofs only[go_sem,h8,fh80,h9,fh90]
  exact Fini.ret rfl
 |true =>
 have fh90:=lt_of h9
 cases h10:(decide (sta≤3)) with
 |false =>
  have fh100:=gt_of h10
  simp -implicitDefEqProofs only[go_sem,h8,fh80,h9,fh90,h10,fh100]
  exact Fini.ret rfl
 |true =>
 have fh100:=gt_of h10
 simp -implicitDefEqProofs only[go_sem,h8,fh80,h9,fh90,h10,fh100]
 refine CO.intro i77 ?_
 simp -implicitDefEqProofs only[go_sem]
 refine CO.intro i83 ?_
 simp -implicitDefEqProofs only[go_sem]
 refine CO.intro b1 ?_
 cases h11:(listB mt) with
 |false =>
  simp -implicitDefEqProofs only[go_sem]
  exact Fini.ret rfl
 |true =>
 simp -implicitDefEqProofs only[go_sem]
 refine CO.intro i66 ?_
 simp -implicitDefEqProofs only[go_sem]
 refine CO.intro b2 ?_
 cases h12:(noBd (any,lo,hi)) with
 |false =>
  simp -implicitDefEqProofs only[go_sem]
  exact Fini.ret rfl
 |true =>
 simp -implicitDefEqProofs only[go_sem]
 refine CO.intro b3 ?_
 cases h13:(mayB any lo hi) with
 |false =>
  simp -implicitDefEqProofs only[go_sem]
  exact Fini.ret rfl
 |true =>
 simp -implicitDefEqProofs only[go_sem]
 refine CO.intro i82 ?_
 simp -implicitDefEqProofs only[go_sem]
 refine CO.intro i82 ?_
 simp -implicitDefEqProofs only[go_sem]
 refine CO.intro b5 ?_
 cases h14:(noRl ⟨src,tgt,ra,rl,rh,eq⟩) with
 |false =>
  simp -implicitDefEqProofs only[go_sem]
  exact Fini.ret rfl
 |true =>
 simp -implicitDefEqProofs only[go_sem]
 refine CO.intro i76 ?_
 unfold emI zF
 cases h15:(((ls.length:Nat):Int)==0) with
 |false =>
  simp -implicitDefEqProofs only[go_sem,h15]
  exact Fini.ret rfl
 |true =>
 simp -implicitDefEqProofs only[go_sem,h15]
 refine CO.intro b7 ?_
 simp -implicitDefEqProofs only[go_sem]
 exact Fini.ret rfl
end
theorem z1u (x:Bnd) (h:noBd x=true):mayB x.1 x.2.1 x.2.2=true:=by
 obtain⟨a,lo,hi⟩:=x
 unfold noBd zF at h
 simp only[Bool.and_eq_true,Bool.not_eq_true',beq_iff_eq]at h
 obtain⟨rfl,h1,h2⟩:=h
 have e1:=z4V (Int.ofNat.inj h1)
 have e2:=z4V (Int.ofNat.inj h2)
 subst e1 e2
 decide +kernel
theorem z3H (r:ReM):(zeroB r 0&&z0q r 0)=docB r S0:=by
 have hb:=z1u (r.any,r.lo,r.hi)
 unfold zeroB z0q docB idR staR
 simp only[hs_0,hc_0,Bool.true_or,Bool.false_or,Bool.not_true,Bool.not_false,Bool.true_and,if_true,Bool.false_eq_true,if_false,Bool.and_assoc]
 rw[Bool.eq_iff_iff]
 simp only[Bool.and_eq_true]
 simp only at hb
 constructor
 · intro h
   simp only[h,hb,and_self,true_and,and_true]
 · intro h
   simp only[h,hb,and_self,true_and,and_true]
theorem z39 (r:ReM):(zeroB r 1&&z0q r 1)=docB r S1:=by
 have hb:=z1u (r.any,r.lo,r.hi)
 unfold zeroB z0q docB idR staR
 simp only[hs_1,hc_1,Bool.true_or,Bool.false_or,Bool.not_true,Bool.not_false,Bool.true_and,if_true,Bool.false_eq_true,if_false,Bool.and_assoc]
 rw[Bool.eq_iff_iff]
 simp only[Bool.and_eq_true]
 simp only at hb
 constructor
 · intro h
   simp only[h,hb,and_self,true_and,and_true]
 · intro h
   simp only[h,hb,and_self,true_and,and_true]
theorem z7D (r:ReM):(zeroB r 3&&z0q r 3)=docB r S3:=by
 have hb:=z1u (r.any,r.lo,r.hi)
 unfold zeroB z0q docB idR staR
 simp only[hs_3,hc_3,Bool.true_or,Bool.false_or,Bool.not_true,Bool.not_false,Bool.true_and,if_true,Bool.false_eq_true,if_false,Bool.and_assoc]
 rw[Bool.eq_iff_iff]
 simp only[Bool.and_eq_true]
 simp only at hb
 constructor
 · intro h
   simp only[h,hb,and_self,true_and,and_true]
 · intro h
   simp only[h,hb,and_self,true_and,and_true]
theorem z8f (r:ReM):(zeroB r 116&&z0q r 116)=docB r S116:=by
 have hb:=z1u (r.any,r.lo,r.hi)
 unfold zeroB z0q docB idR staR
 simp only[z7u,z9H,Bool.true_or,Bool.false_or,Bool.not_true,Bool.not_false,Bool.true_and,if_true,Bool.false_eq_true,if_false,Bool.and_assoc]
 rw[Bool.eq_iff_iff]
 simp only[Bool.and_eq_true]
 simp only at hb
 constructor
 · intro h
   simp only[h,hb,and_self,true_and,and_true]
 · intro h
   simp only[h,hb,and_self,true_and,and_true]
theorem z8g (r:ReM):(zeroB r 117&&z0q r 117)=docB r S117:=by
 have hb:=z1u (r.any,r.lo,r.hi)
 unfold zeroB z0q docB idR staR
 simp only[z7v,z9I,Bool.true_or,Bool.false_or,Bool.not_true,Bool.not_false,Bool.true_and,if_true,Bool.false_eq_true,if_false,Bool.and_assoc]
 rw[Bool.eq_iff_iff]
 simp only[Bool.and_eq_true]
 simp only at hb
 constructor
 · intro h
   simp only[h,hb,and_self,true_and,and_true]
 · intro h
   simp only[h,hb,and_self,true_and,and_true]
theorem zb1 (r:ReM):(zeroB r 8&&z0q r 8)=docB r S8:=by
 have hb:=z1u (r.any,r.lo,r.hi)
 unfold zeroB z0q docB idR staR
 simp only[hs_8,hc_8,Bool.true_or,Bool.false_or,Bool.not_true,Bool.not_false,Bool.true_and,if_true,Bool.false_eq_true,if_false,Bool.and_assoc]
 rw[Bool.eq_iff_iff]
 simp only[Bool.and_eq_true]
 simp only at hb
 constructor
 · intro h
   simp only[h,hb,and_self,true_and,and_true]
 · intro h
   simp only[h,hb,and_self,true_and,and_true]
theorem z8h (r:ReM):(zeroB r 128&&z0q r 128)=docB r S128:=by
 have hb:=z1u (r.any,r.lo,r.hi)
 unfold zeroB z0q docB idR staR
 simp only[z7w,z9J,Bool.true_or,Bool.false_or,Bool.not_true,Bool.not_false,Bool.true_and,if_true,Bool.false_eq_true,if_false,Bool.and_assoc]
 rw[Bool.eq_iff_iff]
 simp only[Bool.and_eq_true]
 simp only at hb
 constructor
 · intro h
   simp only[h,hb,and_self,true_and,and_true]
 · intro h
   simp only[h,hb,and_self,true_and,and_true]
theorem z8i (r:ReM):(zeroB r 768&&z0q r 768)=docB r S768:=by
 have hb:=z1u (r.any,r.lo,r.hi)
 unfold zeroB z0q docB idR staR
 simp only[z7x,z9K,Bool.true_or,Bool.false_or,Bool.not_true,Bool.not_false,Bool.true_and,if_true,Bool.false_eq_true,if_false,Bool.and_assoc]
 rw[Bool.eq_iff_iff]
 simp only[Bool.and_eq_true]
 simp only at hb
 constructor
 · intro h
   simp only[h,hb,and_self,true_and,and_true]
 · intro h
   simp only[h,hb,and_self,true_and,and_true]
theorem z9M (r:ReM):(zeroB r 16&&z0q r 16)=docB r S16:=by
 have hb:=z1u (r.any,r.lo,r.hi)
 unfold zeroB z0q docB idR staR
 simp only[hs_16,hc_16,Bool.true_or,Bool.false_or,Bool.not_true,Bool.not_false,Bool.true_and,if_true,Bool.false_eq_true,if_false,Bool.and_assoc]
 rw[Bool.eq_iff_iff]
 simp only[Bool.and_eq_true]
 simp only at hb
 constructor
 · intro h
   simp only[h,hb,and_self,true_and,and_true]
 · intro h
   simp only[h,hb,and_self,true_and,and_true]
section
variable (σ:St)
theorem z9N (r:ReM) (hd:dOf r.op=⟨#[]⟩):Ans Tryz.prog 89 [reV r] σ (Bo false) σ:=by
 have k1:=z0z σ r.op
 rw[hd]at k1
 have hn:((⟨#[]⟩:ByteArray).toList==(⟨#[]⟩:ByteArray).toList)=true:=by decide +kernel
 refine Ans.of_run t89 ?_
 unfold reV reC
 simp -implicitDefEqProofs only[c89,r89,go_sem]
 refine CO.intro k1 ?_
 simp -implicitDefEqProofs only[go_sem,hn]
 exact Fini.ret rfl
theorem z54 (r:ReM) (hr:ReSm r):Ans Tryz.prog 89 [reV r] σ (Bo (mayR r)) σ:=by
 unfold mayR
 rcases ops17 r.op with h|h|h|h|h|h|h|h|h|h|h|h|h|h|h|h|h|h
 · have e:fOf r.op=(0,true):=by rw[h];rfl
   rw[e]
   simp only[Bool.true_and]
   rw[z3H]
   exact z3G σ r hr (by rw[h];rfl)
 · have e:fOf r.op=(1,true):=by rw[h];rfl
   rw[e]
   simp only[Bool.true_and]
   rw[z39]
   exact z38 σ r hr (by rw[h];rfl)
 · have e:fOf r.op=(3,true):=by rw[h];rfl
   rw[e]
   simp only[Bool.true_and]
   rw[z7D]
   exact z7C σ r hr (by rw[h];rfl)
 · have e:fOf r.op=(3,true):=by rw[h];rfl
   rw[e]
   simp only[Bool.true_and]
   rw[z7D]
   exact z7C σ r hr (by rw[h];rfl)
 · have e:fOf r.op=(116,true):=by rw[h];rfl
   rw[e]
   simp only[Bool.true_and]
   rw[z8f]
   exact z8b σ r hr (by rw[h];rfl)
 · have e:fOf r.op=(117,true):=by rw[h];rfl
   rw[e]
   simp only[Bool.true_and]
   rw[z8g]
   exact z8c σ r hr (by rw[h];rfl)
 · have e:fOf r.op=(1,true):=by rw[h];rfl
   rw[e]
   simp only[Bool.true_and]
   rw[z39]
   exact z38 σ r hr (by rw[h];rfl)
 · have e:fOf r.op=(8,true):=by rw[h];rfl
   rw[e]
   simp only[Bool.true_and]
   rw[zb1]
   exact zb0 σ r hr (by rw[h];rfl)
 · have e:fOf r.op=(128,true):=by rw[h];rfl
   rw[e]
   simp only[Bool.true_and]
   rw[z8h]
   exact z8d σ r hr (by rw[h];rfl)
 · have e:fOf r.op=(1,true):=by rw[h];rfl
   rw[e]
   simp only[Bool.true_and]
   rw[z39]
   exact z38 σ r hr (by rw[h];rfl)
 · have e:fOf r.op=(768,true):=by rw[h];rfl
   rw[e]
   simp only[Bool.true_and]
   rw[z8i]
   exact z8e σ r hr (by rw[h];rfl)
 · have e:fOf r.op=(1,true):=by rw[h];rfl
   rw[e]
   simp only[Bool.true_and]
   rw[z39]
   exact z38 σ r hr (by rw[h];rfl)
 · have e:fOf r.op=(16,true):=by rw[h];rfl
   rw[e]
   simp only[Bool.true_and]
   rw[z9M]
   exact z9L σ r hr (by rw[h];rfl)
 · have e:fOf r.op=(0,true):=by rw[h];rfl
   rw[e]
   simp only[Bool.true_and]
   rw[z3H]
   exact z3G σ r hr (by rw[h];rfl)
 · have e:fOf r.op=(1,true):=by rw[h];rfl
   rw[e]
   simp only[Bool.true_and]
   rw[z39]
   exact z38 σ r hr (by rw[h];rfl)
 · have e:fOf r.op=(0,true):=by rw[h];rfl
   rw[e]
   simp only[Bool.true_and]
   rw[z3H]
   exact z3G σ r hr (by rw[h];rfl)
 · have e:fOf r.op=(0,true):=by rw[h];rfl
   rw[e]
   simp only[Bool.true_and]
   rw[z3H]
   exact z3G σ r hr (by rw[h];rfl)
 · rw[z9A h]
   exact z9N σ r (zbq h)
end
def putC (r:ReM) (c:UInt8):Byt :=
 if c=73 then putN r.id.toNat else if c=84 then txtB r.txt else if c=83 then putN r.st else if c=69 then putN r.en else if c=90 then[opC r.sta]
 else if c=77 then z14 r.mt else if c=66 then putBd (r.any,r.lo,r.hi) else if c=82 then z0S r.ru else if c=76 then z1s r.ls else if c=86 then putV r.val else[]
def preC (r:ReM) (s:ByteArray) (i:Nat):Byt:=opC r.op::(s.data.toList.take i).flatMap (putC r)
def z0B (c:UInt8):Prop:=c=73∨c=84∨c=83∨c=69∨c=90∨c=77∨c=66∨c=82∨c=76∨c=86∨c=45
theorem z6c (r:ReM) (s:ByteArray) (i:Nat) (h:i<s.data.toList.length):preC r s (i+1)=preC r s i++putC r s.data.toList[i]:=by
 unfold preC
 rw[List.take_succ_eq_append_getElem h,List.flatMap_append]
 simp
theorem zd3 {r:ReM} (h:mayR r=true):(∀c∈(dOf r.op).data.toList,z0B c)∧(dOf r.op).size≤5∧preC r (dOf r.op) (dOf r.op).size=z0k (fOf r.op).1 r:=by
 have hop:1≤r.op∧r.op≤17:=by
  have:(fOf r.op).2=true:=by unfold mayR at h;simp only[Bool.and_eq_true]at h;exact h.1
  unfold fOf at this
  split at this
  · assumption
  · cases this
 have key:∀(s:ByteArray) (f:Int),dOf r.op=s→(fOf r.op).1=f→((∀c∈s.data.toList,z0B c)∧s.size≤5∧preC r s s.size=z0k f r) →
   (∀c∈(dOf r.op).data.toList,z0B c)∧(dOf r.op).size≤5∧preC r (dOf r.op) (dOf r.op).size=z0k (fOf r.op).1 r:=by
  intro s f h1 h2 h3
  rw[h1,h2];exact h3
 have a0:(∀c∈S0.data.toList,z0B c)∧S0.size≤5∧preC r S0 S0.size=z0k 0 r:=⟨by unfold z0B;decide,by decide,by show preC r S0 1=z0k 0 r;simp[preC,z0k,putB2,putB1,layF,hs_0,putC]⟩
 have a1:(∀c∈S1.data.toList,z0B c)∧S1.size≤5∧preC r S1 S1.size=z0k 1 r:=⟨by unfold z0B;decide,by decide,by show preC r S1 1=z0k 1 r;simp[preC,z0k,putB2,putB1,layF,hs_1,putC]⟩
 have a3:(∀c∈S3.data.toList,z0B c)∧S3.size≤5∧preC r S3 S3.size=z0k 3 r:=⟨by unfold z0B;decide,by decide,by show preC r S3 2=z0k 3 r;simp[preC,z0k,putB2,putB1,layF,hs_3,putC]⟩
 have a116:(∀c∈S116.data.toList,z0B c)∧S116.size≤5∧preC r S116 S116.size=z0k 116 r:=⟨by unfold z0B;decide,by decide,by show preC r S116 4=z0k 116 r;simp[preC,z0k,putB2,putB1,layF,z7u,putC]⟩
 have a117:(∀c∈S117.data.toList,z0B c)∧S117.size≤5∧preC r S117 S117.size=z0k 117 r:=⟨by unfold z0B;decide,by decide,by show preC r S117 5=z0k 117 r;simp[preC,z0k,putB2,putB1,layF,z7v,putC]⟩
 have a8:(∀c∈S8.data.toList,z0B c)∧S8.size≤5∧preC r S8 S8.size=z0k 8 r:=⟨by unfold z0B;decide,by decide,by show preC r S8 1=z0k 8 r;simp[preC,z0k,putB2,putB1,layF,hs_8,putC]⟩
 have a128:(∀c∈S128.data.toList,z0B c)∧S128.size≤5∧preC r S128 S128.size=z0k 128 r:=⟨by unfold z0B;decide,by decide,by show preC r S128 1=z0k 128 r;simp[preC,z0k,putB2,putB1,layF,z7w,putC]⟩
 have a768:(∀c∈S768.data.toList,z0B c)∧S768.size≤5∧preC r S768 S768.size=z0k 768 r:=⟨by unfold z0B;decide,by decide,by show preC r S768 2=z0k 768 r;simp[preC,z0k,putB2,putB1,layF,z7x,putC]⟩
 have a16:(∀c∈S16.data.toList,z0B c)∧S16.size≤5∧preC r S16 S16.size=z0k 16 r:=⟨by unfold z0B;decide,by decide,by show preC r S16 1=z0k 16 r;simp[preC,z0k,putB2,putB1,layF,hs_16,putC]⟩
 rcases ops17 r.op with e|e|e|e|e|e|e|e|e|e|e|e|e|e|e|e|e|e
 all_goals first
  |omega
  |exact key S0 0 (by rw[e];rfl) (by rw[e];rfl) a0
  |exact key S1 1 (by rw[e];rfl) (by rw[e];rfl) a1
  |exact key S3 3 (by rw[e];rfl) (by rw[e];rfl) a3
  |exact key S116 116 (by rw[e];rfl) (by rw[e];rfl) a116
  |exact key S117 117 (by rw[e];rfl) (by rw[e];rfl) a117
  |exact key S8 8 (by rw[e];rfl) (by rw[e];rfl) a8
  |exact key S128 128 (by rw[e];rfl) (by rw[e];rfl) a128
  |exact key S768 768 (by rw[e];rfl) (by rw[e];rfl) a768
  |exact key S16 16 (by rw[e];rfl) (by rw[e];rfl) a16
theorem z7E {r:ReM} (h:BdOk r) (c:UInt8):(putC r c).length≤100000:=by
 have p1:=z0m (n:=r.id.toNat) (by have:=h.id1;omega)
 have p2:=z0R r.txt (by have:=h.txt;omega)
 have p3:=z0m (n:=r.st) (by have:=h.st;omega)
 have p4:=z0m (n:=r.en) (by have:=h.en;omega)
 have p5:=(z4q h.mt).2
 have p6:=z37 (r.any,r.lo,r.hi)
 have p7:=z6O r.ru
 have p8:=z6P r.ls
 have p9:(putV r.val).length=8:=z18 _
 have p10:=h.txt
 simp only[List.flatten_cons,List.flatten_nil,List.append_nil]at p5 p7 p8
 unfold putC
 repeat' split
 all_goals first|omega|simp
theorem z7F {r:ReM} (h:BdOk r) (s:ByteArray):∀i,i≤s.data.toList.length→(preC r s i).length≤1+100000*i
 |0,_=>by simp[preC]
 |i+1,hi=>by
  have ih:=z7F h s i (by omega)
  have:=z7E h s.data.toList[i]
  rw[z6c r s i (by omega),List.length_append]
  omega
section
variable (σ:St)
set_option maxHeartbeats 8000000 in
theorem z6d (r:ReM) (hsm:ReSm r):Ans Tryz.prog 38 [reV r] σ (.sl 1 (byv (z2v r))) σ:=by
 have hi:=fun s=>z54 s r hsm
 unfold z2v
 cases hM:mayR r with
 |false =>
  have:Ans Tryz.prog 38 [reV r] σ .nils σ:=by
   refine Ans.of_run t38 ?_
   unfold reV reC at hi⊢
   simp -implicitDefEqProofs only[c38,r38,go_sem]
   refine CO.intro (hi _) ?_
   rw[hM]
   simp -implicitDefEqProofs only[go_sem]
   exact Fini.ret rfl
  exact this.subR (.nils 1)
 |true =>
  have hok:=bd_ok hM
  obtain⟨hlet,hsz,hend⟩:=zd3 hM
  rw[if_pos rfl,←hend]
  have hf:=fun s=>z0z s r.op
  have hpl:=z7F hok (dOf r.op)
  have hcl:=z7E hok
  have hsucc:=z6c r (dOf r.op)
  have hzero:preC r (dOf r.op) 0=[opC r.op]:=by simp[preC]
  have hss:=z2d (dOf r.op)
  generalize dOf r.op=s at *
  obtain⟨op0,op1,id0,id1,htx,hst,hen,sta0,sta1,hmt,hru,hls⟩:=hok
  have m1:=fun s=>z5t s r.id.toNat (by omega)
  have m2:=fun s=>z19 s r.txt (by omega)
  have m3:=fun s=>z5t s r.st (by omega)
  have m4:=fun s=>z5t s r.en (by omega)
  have m5:=fun s=>z4U s r.mt hsm.mt
  have m6:=fun s=>z2u s (r.any,r.lo,r.hi)
  have m7:=fun s=>z67 s r.ru hsm.ru
  have m8:=fun s=>z6N s r.ls hsm.ls
  have m9:=fun s=>z0t s r.val
  have mA:=fun s=>z2j s (bitsF r.val)
  have w1:IntKind.u64.wrap r.id=((r.id.toNat:Nat):Int):=by
   rw[show r.id=((r.id.toNat:Nat):Int) from by omega,z1x (by omega)];rfl
  have w2:=z3F op0 op1
  have w3:=z3F sta0 (by omega)
  have c73:putC r 73=putN r.id.toNat:=rfl
  have c84:putC r 84=txtB r.txt:=rfl
  have c83:putC r 83=putN r.st:=rfl
  have c69:putC r 69=putN r.en:=rfl
  have c90:putC r 90=[opC r.sta]:=rfl
  have c77:putC r 77=z14 r.mt:=rfl
  have c66:putC r 66=putBd (r.any,r.lo,r.hi):=rfl
  have c82:putC r 82=z0S r.ru:=rfl
  have c76:putC r 76=z1s r.ls:=rfl
  have c86:putC r 86=putV r.val:=rfl
  have c45:putC r 45=[]:=rfl
  have hl45:=hcl 45
  clear hmt hru hls hend
  obtain⟨tok,op,id,txt,st,en,sta,mt,any,lo,hi',⟨src,tgt,ra,rl,rh,eq⟩,ls,val⟩:=r
  simp only at m1 m2 m3 m4 m5 m6 m7 m8 m9 mA w1 w2 w3 hf c73 c84 c83 c69 c90 c77 c66 c82 c76 c86 hzero
  refine Ans.of_run' t38 (fun hbel _=>?_)
  unfold reV reC at hi⊢
  unfold bandV at m6
  unfold ruV at m7
  simp -implicitDefEqProofs only[c38,r38,go_sem]
  refine CO.intro (hi _) ?_
  rw[hM]
  simp -implicitDefEqProofs only[go_sem]
  refine CO.intro (hf _) ?_
  simp -implicitDefEqProofs only[go_sem,w2,g0,s0]
  generalize hR:({ tok:=tok,op:=op,id:=id,txt:=txt,st:=st,en:=en,sta:=sta,mt:=mt,any:=any,lo:=lo,hi:=hi',ru:={ src:=src,tgt:=tgt,any:=ra,lo:=rl,hi:=rh,eq:=eq },ls:=ls,val:=val }:ReM)=R at *
  refine Go.Ab.L.count s.size (fun i=>mkE 99 [(1,.rp [Sx tok,I op,I id,Sx txt,UN st,UN en,I sta,mlV mt,Bo any,Fl lo,Fl hi',mlV src,mlV tgt,Bo ra,Fl rl,Fl rh,.sl 1 (txs eq),lsV ls,Fl val]),(3,Sx s),(4,.osl σ.length (preC R s i).length),(5,I i)]) (fun i=>σ++[.row 1 (byv (preC R s i))]) ?_ ?_ (by rw[hzero];rfl) (by rw[hzero];rfl)
  · intro i hi0 J hJ
    have hil:i<s.data.toList.length:=by omega
    have hp:=hpl i (by omega)
    have hc:=hlet s.data.toList[i] (List.getElem_mem hil)
    have hx:byteAt s i=(s.data.toList[i]).toNat:=by
     unfold byteAt
     rw[List.getD_eq_getElem?_getD,List.getElem?_eq_getElem hil,Option.getD_some]
    rw[hsucc i hil,List.length_append]at hJ
    have hcl:=hcl s.data.toList[i]
    generalize s.data.toList[i]=c at hx hc hJ hcl
    generalize preC R s i=pre at hJ hp⊢
    have hin:=wrap_succ (i:=i) (by omega)
    unfold z0B at hc
    rcases hc with rfl|rfl|rfl|rfl|rfl|rfl|rfl|rfl|rfl|rfl|rfl
    · rw[c73]at hJ hcl
      have hb:((byteAt s i:Nat):Int)=73:=by rw[hx];rfl
      have q1:pre.length+(putN id.toNat).length≤4294967296:=by omega
      simp -implicitDefEqProofs only[mkE,go_sem,z0r hi0,dec_lt hi0,hb,z04,w1]
      refine CO.intro (m1 _) ?_
      simp -implicitDefEqProofs only[go_sem,g0,s0,z06,z0b,bc,q1,hin]
      simp only[z08]at hJ
      exact hJ
    · rw[c84]at hJ hcl
      have hb:((byteAt s i:Nat):Int)=84:=by rw[hx];rfl
      have q1:pre.length+(txtB txt).length≤4294967296:=by omega
      simp -implicitDefEqProofs only[mkE,go_sem,z0r hi0,dec_lt hi0,hb,z04,w1]
      refine CO.intro (m2 _) ?_
      simp -implicitDefEqProofs only[go_sem,g0,s0,z06,z0b,bc,q1,hin]
      simp only[z08]at hJ
      exact hJ
    · rw[c83]at hJ hcl
      have hb:((byteAt s i:Nat):Int)=83:=by rw[hx];rfl
      have q1:pre.length+(putN st).length≤4294967296:=by omega
      simp -implicitDefEqProofs only[mkE,go_sem,z0r hi0,dec_lt hi0,hb,z04,w1]
      refine CO.intro (m3 _) ?_
      simp -implicitDefEqProofs only[go_sem,g0,s0,z06,z0b,bc,q1,hin]
      simp only[z08]at hJ
      exact hJ
    · rw[c69]at hJ hcl
      have hb:((byteAt s i:Nat):Int)=69:=by rw[hx];rfl
      have q1:pre.length+(putN en).length≤4294967296:=by omega
      simp -implicitDefEqProofs only[mkE,go_sem,z0r hi0,dec_lt hi0,hb,z04,w1]
      refine CO.intro (m4 _) ?_
      simp -implicitDefEqProofs only[go_sem,g0,s0,z06,z0b,bc,q1,hin]
      simp only[z08]at hJ
      exact hJ
    · rw[c90]at hJ hcl
      have hb:((byteAt s i:Nat):Int)=90:=by rw[hx];rfl
      have q1:pre.length+1≤4294967296:=by omega
      simp -implicitDefEqProofs only[mkE,go_sem,z0r hi0,dec_lt hi0,hb,z04,w3,g0,s0,z06,z0b,bc,q1,hin]
      simp only[z08]at hJ
      exact hJ
    · rw[c77]at hJ hcl
      have hb:((byteAt s i:Nat):Int)=77:=by rw[hx];rfl
      have q1:pre.length+(z14 mt).length≤4294967296:=by omega
      simp -implicitDefEqProofs only[mkE,go_sem,z0r hi0,dec_lt hi0,hb,z04,w1]
      refine CO.intro (m5 _) ?_
      simp -implicitDefEqProofs only[go_sem,g0,s0,z06,z0b,bc,q1,hin]
      simp only[z08]at hJ
      exact hJ
    · rw[c66]at hJ hcl
      have hb:((byteAt s i:Nat):Int)=66:=by rw[hx];rfl
      have q1:pre.length+(putBd (any,lo,hi')).length≤4294967296:=by omega
      simp -implicitDefEqProofs only[mkE,go_sem,z0r hi0,dec_lt hi0,hb,z04,w1]
      refine CO.intro (m6 _) ?_
      simp -implicitDefEqProofs only[go_sem,g0,s0,z06,z0b,bc,q1,hin]
      simp only[z08]at hJ
      exact hJ
    · rw[c82]at hJ hcl
      have hb:((byteAt s i:Nat):Int)=82:=by rw[hx];rfl
      have q1:pre.length+(z0S ⟨src,tgt,ra,rl,rh,eq⟩).length≤4294967296:=by omega
      simp -implicitDefEqProofs only[mkE,go_sem,z0r hi0,dec_lt hi0,hb,z04,w1]
      refine CO.intro (m7 _) ?_
      simp -implicitDefEqProofs only[go_sem,g0,s0,z06,z0b,bc,q1,hin]
      simp only[z08]at hJ
      exact hJ
    · rw[c76]at hJ hcl
      have hb:((byteAt s i:Nat):Int)=76:=by rw[hx];rfl
      have q1:pre.length+(z1s ls).length≤4294967296:=by omega
      simp -implicitDefEqProofs only[mkE,go_sem,z0r hi0,dec_lt hi0,hb,z04,w1]
      refine CO.intro (m8 _) ?_
      simp -implicitDefEqProofs only[go_sem,g0,s0,z06,z0b,bc,q1,hin]
      simp only[z08]at hJ
      exact hJ
    · rw[c86]at hJ hcl
      have hb:((byteAt s i:Nat):Int)=86:=by rw[hx];rfl
      have q1:pre.length+(wrdB (bitsF val)).length≤4294967296:=by have:(wrdB (bitsF val)).length=8:=z18 _;omega
      simp -implicitDefEqProofs only[mkE,go_sem,z0r hi0,dec_lt hi0,hb,z04,w1]
      refine CO.intro (m9 _) ?_
      simp -implicitDefEqProofs only[go_sem]
      refine CO.intro (mA _) ?_
      simp -implicitDefEqProofs only[go_sem,g0,s0,z06,z0b,bc,q1,hin]
      unfold putV at hJ
      simp only[z08]at hJ
      exact hJ
    · rw[c45]at hJ
      have hb:((byteAt s i:Nat):Int)=45:=by rw[hx];rfl
      simp -implicitDefEqProofs only[mkE,go_sem,z0r hi0,dec_lt hi0,hb,z04,hin]
      simp only[List.append_nil,List.length_nil,Nat.add_zero]at hJ
      exact hJ
  · intro J
    have d0:decide ((s.size:Int)<s.size)=false:=by simp
    simp -implicitDefEqProofs only[mkE,go_sem,d0,g0,s0,z06]
    exact Fini.trim2 (σ':=σ) (ex:=[_]) rfl rfl (Nat.le_refl _) (z0M _ _) hbel
theorem z55 (r:ReM) (hsm:ReSm r):Ans Tryz.prog 36 [reV r] σ (Bo (reIs r)) σ:=by
 have h1:=fun s=>z1k s r.tok
 have h2:=fun s=>z54 s r hsm
 unfold reIs
 refine Ans.of_run t36 ?_
 unfold reV reC at h2⊢
 simp -implicitDefEqProofs only[c36,r36,go_sem]
 refine CO.intro (h1 _) ?_
 cases tokB r.tok with
 |false =>
  simp -implicitDefEqProofs only[go_sem]
  exact Fini.ret rfl
 |true =>
  simp -implicitDefEqProofs only[go_sem]
  refine CO.intro (h2 _) ?_
  simp -implicitDefEqProofs only[go_sem]
  exact Fini.ret rfl
theorem z5w (r:ReM) (hsm:ReSm r):Ans Tryz.prog 40 [reV r] σ (.sl 1 (byv (z6a r))) σ:=by
 have hi:=fun s=>z55 s r hsm
 unfold z6a
 cases hM:reIs r with
 |false =>
  have:Ans Tryz.prog 40 [reV r] σ .nils σ:=by
   refine Ans.of_run t40 ?_
   unfold reV reC at hi⊢
   simp -implicitDefEqProofs only[c40,r40,go_sem]
   refine CO.intro (hi _) ?_
   rw[hM]
   simp -implicitDefEqProofs only[go_sem]
   exact Fini.ret rfl
  exact this.subR (.nils 1)
 |true =>
  obtain⟨ht,_,_⟩:=z7B hM
  have hl:=z53 r
  have m1:=fun s=>z3s s r.tok (by omega)
  have m2:=fun s=>z6d s r hsm
  have p1:=z0R r.tok (by omega)
  rw[if_pos rfl]
  generalize z2v r=B at hl m2⊢
  have q1:(txtB r.tok).length+B.length≤4294967296:=by omega
  have hbb:=fun n=>z0M n (txtB r.tok++B)
  simp only[z08]at hbb⊢
  refine Ans.of_run' t40 (fun hbel _=>?_)
  unfold reV reC at hi m2⊢
  simp -implicitDefEqProofs only[c40,r40,go_sem]
  refine CO.intro (hi _) ?_
  rw[hM]
  simp -implicitDefEqProofs only[go_sem]
  refine CD.intro (m1 _) ?_
  simp -implicitDefEqProofs only[go_sem]
  refine CD.intro (m2 _) ?_
  simp -implicitDefEqProofs only[go_sem,g0,s0,z06,z0b,bc,q1,List.length_append]
  exact Fini.trim2 (σ':=σ) (ex:=[_]) rfl rfl (Nat.le_refl _) (hbb _) hbel
end
end Go.Proofs.YtmkmhhjkdaklbaaGreat
namespace Go.Proofs.YtmkmhhjkdaklbaaGreat
open Go Go.Ab Go.Cod Go.ChangeShapes Go.WideShapes Go.ChangeAt Go.RowKit
set_option maxRecDepth 100000
theorem zb2 {r:RuM} (h:¬300<z50 r):RSm r∧r.eq.length≤300:=by
 have h1:=z4Z r.eq (z3t r) (by unfold z50 at h;omega)
 have h2:z3t r≤300:=by omega
 have h3:z0y (r.src.map matP) 0≤300∧z0y (r.tgt.map matP) 0≤300:=by
  unfold z3t at h2
  split at h2<;>omega
 have w1:=z1Y _ _ h3.1
 have w2:=z1Y _ _ h3.2
 refine⟨⟨fun x hx=>?_,fun x hx=>?_,fun s hs=>?_⟩,by omega⟩
 · have:=(w1.2 (matP x) (List.mem_map.2 ⟨x,hx,rfl⟩)).1
   simp only[matP]at this
   omega
 · have:=(w2.2 (matP x) (List.mem_map.2 ⟨x,hx,rfl⟩)).1
   simp only[matP]at this
   omega
 · have:=h1.2 s hs
   omega
end Go.Proofs.YtmkmhhjkdaklbaaGreat
namespace Go.Proofs.YtmkmhhjkdaklbaaGreat
open Go Go.Ab
set_option maxRecDepth 100000
def c34:ACode :=
 (sq_ [pr_ 0 mf_]
 (sq_ [pr_ 6 (.build z19_ [(0,1,(.const (.string (ByteArray.mk #[114,111,111,116])))),(1,1,(.const (.int .i64 1)))]),
 pr_ 1 (.allocm z19_),
 st_ (so_ 19 1 6)]
 (sq_ [pr_ 8 (.bsl true 1 false 6 [.pl (.int .u8 0)] [(0,1,(.const (.int .u8 4))),(1,1,(.const (.int .u8 114))),(2,1,(.const (.int .u8 111))),(3,1,(.const (.int .u8 111))),(4,1,(.const (.int .u8 116))),(5,1,(.const (.int .u8 1)))]),
 pr_ 9 (.strm (.tmp 8)),
 c1_ 10 43 9,
 mv_ 7 10,
 pr_ 11 (ex_ 0 7),
 pr_ 12 (ex_ 1 7),
 pr_ 2 (.allocm z19_),
 st_ (so_ 19 2 11),
 mv_ 3 12]
 (sq_ [pr_ 14 (.bsl true 1 false 7 [.pl (.int .u8 0)] [(0,1,(.const (.int .u8 4))),(1,1,(.const (.int .u8 114))),(2,1,(.const (.int .u8 111))),(3,1,(.const (.int .u8 111))),(4,1,(.const (.int .u8 116))),(5,1,(.const (.int .u8 1))),(6,1,(.const (.int .u8 0)))]),
 pr_ 15 (.strm (.tmp 14)),
 c1_ 16 43 15,
 mv_ 13 16,
 pr_ 17 (ex_ 0 13),
 pr_ 18 (ex_ 1 13),
 pr_ 4 (.allocm z19_),
 st_ (so_ 19 4 17),
 mv_ 5 18]
 (sq_ [pr_ 19 (lt_ 19 1),
 c1_ 20 39 19,
 pr_ 21 (.b2s (.tmp 20)),
 pr_ 22 (.bin false .eql (.tmp 21) (.const (.string (ByteArray.mk #[4,114,111,111,116,1])))),
 mv_ 23 22,
 gp_ 24 23 true (mo_ 3),
 pr_ 25 (pa_ 23 24),
 mv_ 26 25,
 gp_ 27 26 true (fa_ 0 2),
 gp_ 28 26 true (lf_ 1 27),
 gp_ 29 26 true (.bin false .eql (.tmp 28) (.const (.string (ByteArray.mk #[114,111,111,116])))),
 pr_ 30 (pa_ 26 29),
 mv_ 31 30,
 gp_ 32 31 true (fa_ 1 2),
 gp_ 33 31 true (lf_ 1 32),
 gp_ 34 31 true (bk_ .eql 33 .i64 1),
 pr_ 35 (pa_ 31 34),
 mv_ 36 35,
 gp_ 37 36 true (mo_ 5),
 gp_ 38 36 true (no_ 37),
 pr_ 39 (pa_ 36 38),
 mv_ 40 39,
 gp_ 41 40 true (lt_ 19 1),
 gc_ 42 40 true 35 [(.tmp 41)],
 pr_ 43 (pa_ 40 42),
 mv_ 44 43,
 gp_ 45 44 true (lt_ 19 1),
 gc_ 46 44 true 37 [(.tmp 45)],
 gp_ 47 44 true (.b2s (.tmp 46)),
 gp_ 48 44 true (.bin false .eql (.tmp 47) (.const (.string (ByteArray.mk #[1])))),
 pr_ 49 (pa_ 44 48),
 mv_ 0 49]
 .ret)))))
def o34:List Tmp:=[1,2,4,8,14]
def r34:List RV:=[.tmp 0]
theorem t34:Text Tryz.prog 34 o34 c34 r34 50:=.mk_ Tryz.f34 rfl
def allQ:List (Fun Tryz.prog):=[⟨56,o56,c56,r56,40,t56⟩,⟨69,o69,c69,r69,37,t69⟩,⟨54,o54,c54,r54,6,t54⟩,⟨59,o59,c59,r59,26,t59⟩,⟨60,o60,c60,r60,22,t60⟩,⟨61,o61,c61,r61,7,t61⟩,⟨62,o62,c62,r62,12,t62⟩,⟨83,o83,c83,r83,15,t83⟩,⟨112,o112,c112,r112,12,t112⟩,⟨113,o113,c113,r113,36,t113⟩,⟨71,o71,c71,r71,19,t71⟩,⟨72,o72,c72,r72,9,t72⟩,⟨115,o115,c115,r115,43,t115⟩,⟨116,o116,c116,r116,48,t116⟩,⟨51,o51,c51,r51,65,t51⟩,⟨107,o107,c107,r107,20,t107⟩,⟨94,o94,c94,r94,7,t94⟩,⟨17,o17,c17,r17,44,t17⟩,⟨19,o19,c19,r19,38,t19⟩,⟨58,o58,c58,r58,40,t58⟩,⟨70,o70,c70,r70,17,t70⟩,⟨114,o114,c114,r114,15,t114⟩,⟨139,o139,c139,r139,12,t139⟩,⟨140,o140,c140,r140,16,t140⟩,⟨55,o55,c55,r55,24,t55⟩,⟨57,o57,c57,r57,24,t57⟩,⟨68,o68,c68,r68,36,t68⟩,⟨122,o122,c122,r122,27,t122⟩,⟨93,o93,c93,r93,22,t93⟩,⟨158,o158,c158,r158,24,t158⟩,⟨35,o35,c35,r35,10,t35⟩,⟨37,o37,c37,r37,82,t37⟩,⟨39,o39,c39,r39,12,t39⟩,⟨43,o43,c43,r43,25,t43⟩,⟨86,o86,c86,r86,11,t86⟩,⟨87,o87,c87,r87,22,t87⟩,⟨90,o90,c90,r90,31,t90⟩,⟨91,o91,c91,r91,14,t91⟩,⟨92,o92,c92,r92,31,t92⟩,⟨103,o103,c103,r103,93,t103⟩,⟨104,o104,c104,r104,25,t104⟩,⟨125,o125,c125,r125,100,t125⟩,⟨126,o126,c126,r126,89,t126⟩,⟨131,o131,c131,r131,46,t131⟩,⟨136,o136,c136,r136,24,t136⟩,⟨137,o137,c137,r137,24,t137⟩,⟨138,o138,c138,r138,37,t138⟩,⟨153,o153,c153,r153,16,t153⟩,⟨154,o154,c154,r154,24,t154⟩,⟨155,o155,c155,r155,6,t155⟩,⟨157,o157,c157,r157,11,t157⟩,⟨34,o34,c34,r34,50,t34⟩]++allF
/- 5428 steps -/
theorem rq_ok:Ans Tryz.prog 34 [] [] (.pl (.bool true)) []:=z90 allQ extF [] 300 100 _ _ _ _ _ (by kernel_rfl)
/- 3883 steps -/
theorem rq_a (σ:St):Ans Tryz.prog 34 [] σ (Bo true) σ:=rq_ok.frame (zc6 rfl) σ
def c10:ACode :=
 (sq_ [pr_ 1 (.boxr (.tmp 0)),
 pr_ 2 mf_]
 (.seq (sq_ [pr_ 3 (lt_ 19 1),
 cl_ 4 33 [(.tmp 3),(.const (.int .i64 300))],
 pr_ 5 (no_ 4)]
 (.cond (.tmp 5)
 (sq_ [cl_ 6 34 [],
 mv_ 2 6]
 .ret)
 .skip))
 (.seq (.draw [⟨pr_ 7 (lt_ 19 1),[],false,0,0⟩,
 ⟨c1_ 8 35 7,[0],true,0,0⟩,
 ⟨pr_ 9 (lt_ 19 1),[],false,0,1⟩,
 ⟨c1_ 10 36 9,[0,1,2],true,0,0⟩,
 ⟨pr_ 11 (.bin true .eql (.tmp 8) (.tmp 10)),[0,1,2,3],false,2,2⟩,
 ⟨mv_ 12 11,[0,1,2,3,4],false,2,2⟩,
 ⟨gp_ 13 12 true (lt_ 19 1),(List.range 6),false,2,2⟩,
 ⟨gc_ 14 12 true 37 [(.tmp 13)],(List.range 7),true,0,0⟩,
 ⟨gp_ 15 12 true (.b2s (.tmp 14)),(List.range 8),false,3,4⟩,
 ⟨gp_ 16 12 true (lt_ 19 1),(List.range 6),false,2,3⟩,
 ⟨gc_ 17 12 true 38 [(.tmp 16)],[0,1,2,3,4,5,6,7,9],true,0,0⟩,
 ⟨gp_ 18 12 true (.b2s (.tmp 17)),[0,1,2,3,4,5,6,7,9,10],false,4,4⟩,
 ⟨gp_ 19 12 true (bt_ .eql 15 18),(List.range 12),false,4,4⟩,
 ⟨pr_ 20 (pa_ 12 19),(List.range 13),false,4,4⟩,
 ⟨mv_ 21 20,(List.range 14),false,4,4⟩,
 ⟨gp_ 22 21 true (lt_ 19 1),(List.range 15),false,4,4⟩,
 ⟨gc_ 23 21 true 39 [(.tmp 22)],(List.range 16),true,0,0⟩,
 ⟨gp_ 24 21 true (.b2s (.tmp 23)),(List.range 17),false,5,6⟩,
 ⟨gp_ 25 21 true (lt_ 19 1),(List.range 15),false,4,5⟩,
 ⟨gc_ 26 21 true 40 [(.tmp 25)],[0,1,2,3,4,5,6,7,8,9,10,11,12,13,14,15,16,18],true,0,0⟩,
 ⟨gp_ 27 21 true (.b2s (.tmp 26)),[0,1,2,3,4,5,6,7,8,9,10,11,12,13,14,15,16,18,19],false,6,6⟩,
 ⟨gp_ 28 21 true (bt_ .eql 24 27),(List.range 21),false,6,6⟩,
 ⟨pr_ 29 (pa_ 21 28),(List.range 22),false,6,6⟩,
 ⟨mv_ 30 29,(List.range 23),false,6,6⟩,
 ⟨gc_ 31 30 true 34 [],(List.range 24),true,0,0⟩,
 ⟨pr_ 32 (pa_ 30 31),(List.range 25),false,7,7⟩,
 ⟨mv_ 2 32,(List.range 26),false,7,7⟩])
 .ret)))
def o10:List Tmp:=[]
def r10:List RV:=[.tmp 2]
theorem t10:Text Tryz.prog 10 o10 c10 r10 33:=.mk_ Tryz.f10 rfl
end Go.Proofs.YtmkmhhjkdaklbaaGreat
namespace Go.Proofs.YtmkmhhjkdaklbaaGreat
open Go Go.Ab Go.Cod
set_option maxRecDepth 100000
def smB (r:ReM):Bool:=decide ((r.tok.size:Int)≤300)&&(decide ((r.txt.size:Int)≤300)&&(decide (((z0y (r.mt.map matP) 0:Nat):Int)≤300)&&(decide (((z0y (r.ls.map labP) 0:Nat):Int)≤300)&&decide (((z50 r.ru:Nat):Int)≤300))))
theorem zb3 {r:ReM} (h:smB r=true):ReSm r:=by
 unfold smB at h
 simp only[Bool.and_eq_true,decide_eq_true_eq]at h
 have w1:=z1Y _ _ (show z0y (r.mt.map matP) 0≤300 by omega)
 have w2:=z1Y _ _ (show z0y (r.ls.map labP) 0≤300 by omega)
 refine⟨fun x hx=>?_,(zb2 (by omega)).1,fun x hx=>?_⟩
 · have:=(w1.2 (matP x) (List.mem_map.2 ⟨x,hx,rfl⟩)).1
   simp only[matP]at this
   omega
 · have:=(w2.2 (labP x) (List.mem_map.2 ⟨x,hx,rfl⟩)).1
   simp only[labP]at this
   omega
theorem z9O (σ:St) (r:ReM):Ans Tryz.prog 33 [reV r,I 300] σ (Bo (smB r)) σ:=by
 have h1:=fun s=>z1P s r.mt
 have h2:=fun s=>z4t s r.ls
 have h3:=fun s=>z5s s r.ru
 unfold smB
 generalize z0y (r.mt.map matP) 0=a at h1⊢
 generalize z0y (r.ls.map labP) 0=b at h2⊢
 generalize z50 r.ru=c at h3⊢
 refine Ans.of_run t33 ?_
 unfold reV reC
 unfold ruV at h3
 cases e1:decide ((r.tok.size:Int)≤300) with
 |false =>
  simp -implicitDefEqProofs only[c33,r33,go_sem,e1]
  exact Fini.ret rfl
 |true =>
 cases e2:decide ((r.txt.size:Int)≤300) with
 |false =>
  simp -implicitDefEqProofs only[c33,r33,go_sem,e1,e2]
  exact Fini.ret rfl
 |true =>
 simp -implicitDefEqProofs only[c33,r33,go_sem,e1,e2]
 refine CO.intro (h1 _) ?_
 cases e3:decide ((a:Int)≤300) with
 |false =>
  simp -implicitDefEqProofs only[go_sem,e3]
  exact Fini.ret rfl
 |true =>
 simp -implicitDefEqProofs only[go_sem,e3]
 refine CO.intro (h2 _) ?_
 cases e4:decide ((b:Int)≤300) with
 |false =>
  simp -implicitDefEqProofs only[go_sem,e4]
  exact Fini.ret rfl
 |true =>
 simp -implicitDefEqProofs only[go_sem,e4]
 refine CO.intro (h3 _) ?_
 simp -implicitDefEqProofs only[go_sem]
 exact Fini.ret rfl
theorem z8j (r:ReM):Ans Tryz.prog 10 [reV r] [] (.pl (.bool true)) []:=by
 have h1:=z9O [] r
 have hsm:=@zb3 r
 refine Ans.of_run t10 ?_
 cases hb:smB r with
 |false =>
  rw[hb]at h1
  unfold reV reC at *
  simp -implicitDefEqProofs only[c10,r10,go_sem]
  refine CO.intro h1 ?_
  simp -implicitDefEqProofs only[go_sem]
  refine CO.intro (rq_a _) ?_
  simp -implicitDefEqProofs only[go_sem]
  exact Fini.ret rfl
 |true =>
  rw[hb]at h1
  have hsm:=hsm hb
  have p1:=fun s=>z7z s r
  have p2:=fun s=>z55 s r hsm
  have p3:=fun s=>z7A s r
  have p4:=fun s=>z6d s r hsm
  have p5:=fun s=>z6b s r
  have p6:=fun s=>z5w s r hsm
  have e0:(reIs r==reIs r)=true:=by cases reIs r<;>rfl
  generalize z2v r=bl at p3 p4
  generalize z6a r=bq at p5 p6
  generalize reIs r=v at p1 p2 e0
  unfold reV reC at *
  simp -implicitDefEqProofs only[c10,r10,go_sem]
  refine CO.intro h1 ?_
  simp -implicitDefEqProofs only[go_sem]
  refine CD.intro (p1 _) ?_
  simp -implicitDefEqProofs only[go_sem]
  refine CD.intro (p2 _) ?_
  simp -implicitDefEqProofs only[go_sem,e0]
  refine CD.intro (p3 _) ?_
  simp -implicitDefEqProofs only[go_sem,z0b,bc,z2f,z2p,AV.isStr]
  refine CD.intro (p4 _) ?_
  simp -implicitDefEqProofs only[go_sem,z0b,bc,z2f,z2p,AV.isStr,BEq.rfl]
  refine CD.intro (p5 _) ?_
  simp -implicitDefEqProofs only[go_sem,z0b,bc,z2f,z2p,AV.isStr]
  refine CD.intro (p6 _) ?_
  simp -implicitDefEqProofs only[go_sem,z0b,bc,z2f,z2p,AV.isStr,BEq.rfl]
  refine CD.intro (rq_a _) ?_
  simp -implicitDefEqProofs only[go_sem]
  exact Fini.ret rfl
end Go.Proofs.YtmkmhhjkdaklbaaGreat
