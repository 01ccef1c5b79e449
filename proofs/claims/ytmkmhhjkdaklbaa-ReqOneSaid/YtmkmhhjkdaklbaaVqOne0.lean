/- What req.read reads, at some of the field sets. Printed by a program. No condition. -/
import Derived.Test.YtmkmhhjkdaklbaaVRq5b
import Derived.Test.YtmkmhhjkdaklbaaVXVi1
import Derived.Test.YtmkmhhjkdaklbaaVRb1
import Derived.Test.YtmkmhhjkdaklbaaVXMr2
import Derived.Test.YtmkmhhjkdaklbaaVXPPar5
import Derived.Test.YtmkmhhjkdaklbaaAbTree
set_option linter.unusedSimpArgs false
set_option linter.unusedVariables false
set_option linter.unusedSectionVars false
namespace Go.Proofs.Ytmkmhhjkdaklbaa
open Go Go.Ab Go.Cod
set_option maxRecDepth 100000
section
variable (A:Nat×Bool→St) (n p:Nat) (b:Byt) (hn:∀q,(A q).length=n) (hg:∀q,(A q)[p]?=some (rob b q)) (hs:∀q q',(A q).set p (rob b q')=A q') (hb:b.length≤50000)
include hn hg hs hb
set_option maxHeartbeats 8000000 in
theorem zbH (q:Nat×Bool) (hq:Inb b q) (c:UInt8) (q1:Nat×Bool) (hc:runR byteR 0 b q=(c,q1)) (ok:Bool) (hf:fOf (c.toNat:Int)=(8,ok)) :
  Ans Try.prog 14 [.ptr p 0] (A q) (reV (bodyS b q).1) (A (bodyS b q).2):=by
 obtain⟨hgA,hsA,gs⟩:=rd_facts A n p b hn hg hs q;have k0:=z0K (A q++[B19]) p b q (hgA _ _) hq hb;have hin1:=z08 byteR 0 b q hq
 have hbS:bodyS b q=z0i (fun q1=>clS 8 (c.toNat:Int) b (took q1 0 ok)) mayR q1:=by
  unfold bodyS;rw[hc];simp only[hf]
 rw[hc]at k0 hin1;rw[hbS];simp only at k0 hin1;rw[hsA]at k0;have k1:=z0G (A q1++[B19,.box (XC8 c (I 0))]) (c.toNat:Int);rw[hf]at k1;have k2:=z06 (A q1++[B19,.box (XC8 c (I 0))]) p b q1 ok (hgA _ _) hin1 hb;rw[hsA]at k2;have hin2:=z0J b q1 ok hin1;unfold z0i;simp only;generalize took q1 0 ok=q2 at k2 hin2⊢;have wc:IntKind.i64.wrap (c.toNat:Int)=(c.toNat:Int):=wrapI (by have:=c.toNat_lt;omega)
 have hcl:clS 8 (c.toNat:Int) b q2=({ x0 (c.toNat:Int) with sta:=((((runR byteR 0 b q2).1).toNat:Nat):Int) },(runR byteR 0 b q2).2):=rfl
 rw[hcl];simp only;have k3:=z0K (A q2++[B19,.box (XC8 c (I 0))]) p b q2 (hgA _ _) hin2 hb;rw[hsA]at k3;have hin3:=z08 byteR 0 b q2 hin2;generalize runR byteR 0 b q2=w0 at k3 hin3⊢;obtain⟨v0,q3⟩:=w0;simp only at k3 hin3⊢;have wv0:IntKind.i64.wrap (v0.toNat:Int)=(v0.toNat:Int):=wrapI (by have:=v0.toNat_lt;omega)
 have hsub:Sub (.agg (XC8 c (I (v0.toNat:Nat)))) (reV ({ x0 (c.toNat:Int) with sta:=(((v0).toNat:Nat):Int) })):=.agg (.cons (.refl _) <| .cons (.refl _) <| .cons (.refl _) <| .cons (.refl _) <| .cons (.refl _) <| .cons (.refl _) <| .cons (.refl _) <| .cons (.nils 3) <| .cons (.refl _) <| .cons (.refl _) <| .cons (.refl _) <| .cons (.nils 3) <| .cons (.nils 3) <| .cons (.refl _) <| .cons (.refl _) <| .cons (.refl _) <| .cons (.nils 1) <| .cons (.nils 2) <| .cons (.refl _) <| .nil)
 have km:=(z1g (A q3++[B19,.box (XC8 c (I (v0.toNat:Nat)))]) ({ x0 (c.toNat:Int) with sta:=(((v0).toNat:Nat):Int) })).subA (.cons hsub .nil)
 have ke:=z06 (A q3++[B19,.box (XC8 c (I (v0.toNat:Nat)))]) p b q3 (mayR ({ x0 (c.toNat:Int) with sta:=(((v0).toNat:Nat):Int) })) (hgA _ _) hin3 hb
 rw[hsA]at ke;generalize mayR ({ x0 (c.toNat:Int) with sta:=(((v0).toNat:Nat):Int) })=okm at km ke⊢
 generalize took q3 0 okm=qe at ke⊢;refine Ans.subR ?_ hsub;refine Ans.of_run' t14 (fun hbel _=>?_)
 simp -implicitDefEqProofs only[c14,r14,go_sem,hgA,hsA,gs,hn,ap4];refine CO.intro k0 ?_;simp -implicitDefEqProofs only[go_sem,bc,wc,hgA,hsA,gs,hn,ap4];refine CO.intro k1 ?_;simp -implicitDefEqProofs only[go_sem];refine CO.intro k2 ?_;simp -implicitDefEqProofs only[go_sem,bc,hgA,hsA,gs,hn,ap4];refine CO.intro k3 ?_;simp -implicitDefEqProofs only[go_sem,bc,wv0,hgA,hsA,gs,hn,ap4];refine CO.intro km ?_;simp -implicitDefEqProofs only[go_sem];refine CO.intro ke ?_;simp -implicitDefEqProofs only[go_sem,hgA,hsA,gs,hn,ap4]
 have hbl:Bel (A qe).length (.agg (XC8 c (I (v0.toNat:Nat)))):=.agg _ (fun i hi=>by
  have:∀y∈(XC8 c (I (v0.toNat:Nat)):List AV),Bel (A qe).length y:=by
   intro y hy;simp only[List.mem_cons,List.not_mem_nil,or_false]at hy;rcases hy with rfl|rfl|rfl|rfl|rfl|rfl|rfl|rfl|rfl|rfl|rfl|rfl|rfl|rfl|rfl|rfl|rfl|rfl|rfl
   all_goals first|exact .pl _|exact .nils|exact z0N _ _|exact z1G _ _|exact z13 _ _
  exact this _ (List.getElem_mem hi))
 exact Fini.trim2 (σ':=A qe) (ex:=[_,_]) (by simp -implicitDefEqProofs only[go_sem,resA,z03,rvA,oneOf,gs]<;>rfl) rfl (Nat.le_of_eq (by simp only[hn])) hbl (fun o ho=>by
  rw[←hs q qe]at ho;rw[hn];rw[hn]at hbel
  exact z1x (o:=rob b qe) hbel (z2d _ _) o ho)
set_option maxHeartbeats 8000000 in
theorem z9L (q:Nat×Bool) (hq:Inb b q) (c:UInt8) (q1:Nat×Bool) (hc:runR byteR 0 b q=(c,q1)) (ok:Bool) (hf:fOf (c.toNat:Int)=(128,ok)) :
  Ans Try.prog 14 [.ptr p 0] (A q) (reV (bodyS b q).1) (A (bodyS b q).2):=by
 obtain⟨hgA,hsA,gs⟩:=rd_facts A n p b hn hg hs q;have k0:=z0K (A q++[B19]) p b q (hgA _ _) hq hb;have hin1:=z08 byteR 0 b q hq
 have hbS:bodyS b q=z0i (fun q1=>clS 128 (c.toNat:Int) b (took q1 0 ok)) mayR q1:=by
  unfold bodyS;rw[hc];simp only[hf]
 rw[hc]at k0 hin1;rw[hbS];simp only at k0 hin1;rw[hsA]at k0;have k1:=z0G (A q1++[B19,.box (XC128 c .nils .nils (Bo false) (Fl 0) (Fl 0) .nils)]) (c.toNat:Int);rw[hf]at k1;have k2:=z06 (A q1++[B19,.box (XC128 c .nils .nils (Bo false) (Fl 0) (Fl 0) .nils)]) p b q1 ok (hgA _ _) hin1 hb;rw[hsA]at k2;have hin2:=z0J b q1 ok hin1;unfold z0i;simp only;generalize took q1 0 ok=q2 at k2 hin2⊢;have wc:IntKind.i64.wrap (c.toNat:Int)=(c.toNat:Int):=wrapI (by have:=c.toNat_lt;omega)
 have hcl:clS 128 (c.toNat:Int) b q2=({ x0 (c.toNat:Int) with ru:=(runR ruR noRu b q2).1 },(runR ruR noRu b q2).2):=rfl
 rw[hcl];simp only;have k3:=zbv (A q2++[B19,.box (XC128 c .nils .nils (Bo false) (Fl 0) (Fl 0) .nils)]) p b q2 (hgA _ _) hin2 hb;rw[hsA]at k3;have hin3:=z08 ruR noRu b q2 hin2;generalize runR ruR noRu b q2=w0 at k3 hin3⊢;obtain⟨v0,q3⟩:=w0;simp only at k3 hin3⊢;obtain⟨rs,rt,ra,rl,rh,re⟩:=v0;unfold ruV at k3;simp only at k3⊢;have hsub:Sub (.agg (XC128 c (mlV rs) (mlV rt) (Bo ra) (Fl rl) (Fl rh) (.sl 1 (txs re)))) (reV ({ x0 (c.toNat:Int) with ru:=⟨rs,rt,ra,rl,rh,re⟩ })):=.agg (.cons (.refl _) <| .cons (.refl _) <| .cons (.refl _) <| .cons (.refl _) <| .cons (.refl _) <| .cons (.refl _) <| .cons (.refl _) <| .cons (.nils 3) <| .cons (.refl _) <| .cons (.refl _) <| .cons (.refl _) <| .cons (.refl _) <| .cons (.refl _) <| .cons (.refl _) <| .cons (.refl _) <| .cons (.refl _) <| .cons (.refl _) <| .cons (.nils 2) <| .cons (.refl _) <| .nil)
 have km:=(z1g (A q3++[B19,.box (XC128 c (mlV rs) (mlV rt) (Bo ra) (Fl rl) (Fl rh) (.sl 1 (txs re)))]) ({ x0 (c.toNat:Int) with ru:=⟨rs,rt,ra,rl,rh,re⟩ })).subA (.cons hsub .nil)
 have ke:=z06 (A q3++[B19,.box (XC128 c (mlV rs) (mlV rt) (Bo ra) (Fl rl) (Fl rh) (.sl 1 (txs re)))]) p b q3 (mayR ({ x0 (c.toNat:Int) with ru:=⟨rs,rt,ra,rl,rh,re⟩ })) (hgA _ _) hin3 hb
 rw[hsA]at ke;generalize mayR ({ x0 (c.toNat:Int) with ru:=⟨rs,rt,ra,rl,rh,re⟩ })=okm at km ke⊢
 generalize took q3 0 okm=qe at ke⊢;refine Ans.subR ?_ hsub;refine Ans.of_run' t14 (fun hbel _=>?_)
 simp -implicitDefEqProofs only[c14,r14,go_sem,hgA,hsA,gs,hn,ap4];refine CO.intro k0 ?_;simp -implicitDefEqProofs only[go_sem,bc,wc,hgA,hsA,gs,hn,ap4];refine CO.intro k1 ?_;simp -implicitDefEqProofs only[go_sem];refine CO.intro k2 ?_;simp -implicitDefEqProofs only[go_sem,bc,hgA,hsA,gs,hn,ap4];refine CO.intro k3 ?_;simp -implicitDefEqProofs only[go_sem,bc,hgA,hsA,gs,hn,ap4];refine CO.intro km ?_;simp -implicitDefEqProofs only[go_sem];refine CO.intro ke ?_;simp -implicitDefEqProofs only[go_sem,hgA,hsA,gs,hn,ap4]
 have hbl:Bel (A qe).length (.agg (XC128 c (mlV rs) (mlV rt) (Bo ra) (Fl rl) (Fl rh) (.sl 1 (txs re)))):=.agg _ (fun i hi=>by
  have:∀y∈(XC128 c (mlV rs) (mlV rt) (Bo ra) (Fl rl) (Fl rh) (.sl 1 (txs re)):List AV),Bel (A qe).length y:=by
   intro y hy;simp only[List.mem_cons,List.not_mem_nil,or_false]at hy;rcases hy with rfl|rfl|rfl|rfl|rfl|rfl|rfl|rfl|rfl|rfl|rfl|rfl|rfl|rfl|rfl|rfl|rfl|rfl|rfl
   all_goals first|exact .pl _|exact .nils|exact z0N _ _|exact z1G _ _|exact z13 _ _
  exact this _ (List.getElem_mem hi))
 exact Fini.trim2 (σ':=A qe) (ex:=[_,_]) (by simp -implicitDefEqProofs only[go_sem,resA,z03,rvA,oneOf,gs]<;>rfl) rfl (Nat.le_of_eq (by simp only[hn])) hbl (fun o ho=>by
  rw[←hs q qe]at ho;rw[hn];rw[hn]at hbel
  exact z1x (o:=rob b qe) hbel (z2d _ _) o ho)
end
section
variable (A:Nat×Bool→St) (n p:Nat) (b:Byt) (hn:∀q,(A q).length=n) (hg:∀q,(A q)[p]?=some (rob b q)) (hs:∀q q',(A q).set p (rob b q')=A q') (hb:b.length≤50000)
include hn hg hs hb
set_option maxHeartbeats 8000000 in
theorem z9M (q:Nat×Bool) (hq:Inb b q) (c:UInt8) (q1:Nat×Bool) (hc:runR byteR 0 b q=(c,q1)) (ok:Bool) (hf:fOf (c.toNat:Int)=(768,ok)) :
  Ans Try.prog 14 [.ptr p 0] (A q) (reV (bodyS b q).1) (A (bodyS b q).2):=by
 obtain⟨hgA,hsA,gs⟩:=rd_facts A n p b hn hg hs q;have k0:=z0K (A q++[B19]) p b q (hgA _ _) hq hb;have hin1:=z08 byteR 0 b q hq
 have hbS:bodyS b q=z0i (fun q1=>clS 768 (c.toNat:Int) b (took q1 0 ok)) mayR q1:=by
  unfold bodyS;rw[hc];simp only[hf]
 rw[hc]at k0 hin1;rw[hbS];simp only at k0 hin1;rw[hsA]at k0;have k1:=z0G (A q1++[B19,.box (XC768 c .nils (Fl 0))]) (c.toNat:Int);rw[hf]at k1;have k2:=z06 (A q1++[B19,.box (XC768 c .nils (Fl 0))]) p b q1 ok (hgA _ _) hin1 hb;rw[hsA]at k2;have hin2:=z0J b q1 ok hin1;unfold z0i;simp only;generalize took q1 0 ok=q2 at k2 hin2⊢;have wc:IntKind.i64.wrap (c.toNat:Int)=(c.toNat:Int):=wrapI (by have:=c.toNat_lt;omega)
 have hcl:clS 768 (c.toNat:Int) b q2=({ x0 (c.toNat:Int) with ls:=(runR setR [] b q2).1,val:=(valS b (runR setR [] b q2).2).1 },(valS b (runR setR [] b q2).2).2):=rfl
 rw[hcl];simp only;have k3:=zbu (A q2++[B19,.box (XC768 c .nils (Fl 0))]) p b q2 (hgA _ _) hin2 hb;rw[hsA]at k3;have hin3:=z08 setR [] b q2 hin2;generalize runR setR [] b q2=w0 at k3 hin3⊢;obtain⟨v0,q3⟩:=w0;simp only at k3 hin3⊢;have k4:=z6U (A q3++[B19,.box (XC768 c (lsV v0) (Fl 0))]) p b q3 (hgA _ _) hin3 hb;rw[hsA]at k4;have hin4:=z08 wordR 0 b q3 hin3;unfold valS;generalize runR wordR 0 b q3=w1 at k4 hin4⊢;obtain⟨v1,qw⟩:=w1;simp only at k4 hin4⊢;have kv:=za9 (A qw++[B19,.box (XC768 c (lsV v0) (Fl 0))]) v1;have kr:=z06 (A qw++[B19,.box (XC768 c (lsV v0) (Fl 0))]) p b qw (okV v1) (hgA _ _) hin4 hb;rw[hsA]at kr;have hinv:=z0J b qw (okV v1) hin4;generalize (if okV v1=true then v1 else 0)=fv at kv⊢
 generalize okV v1=okv at kv kr hinv⊢;generalize took qw 0 okv=q4 at kr hinv⊢;clear hin4;have hin4:=hinv;have hsub:Sub (.agg (XC768 c (lsV v0) (Fl fv))) (reV ({ x0 (c.toNat:Int) with ls:=v0,val:=fv })):=.agg (.cons (.refl _) <| .cons (.refl _) <| .cons (.refl _) <| .cons (.refl _) <| .cons (.refl _) <| .cons (.refl _) <| .cons (.refl _) <| .cons (.nils 3) <| .cons (.refl _) <| .cons (.refl _) <| .cons (.refl _) <| .cons (.nils 3) <| .cons (.nils 3) <| .cons (.refl _) <| .cons (.refl _) <| .cons (.refl _) <| .cons (.nils 1) <| .cons (.refl _) <| .cons (.refl _) <| .nil)
 have km:=(z1g (A q4++[B19,.box (XC768 c (lsV v0) (Fl fv))]) ({ x0 (c.toNat:Int) with ls:=v0,val:=fv })).subA (.cons hsub .nil)
 have ke:=z06 (A q4++[B19,.box (XC768 c (lsV v0) (Fl fv))]) p b q4 (mayR ({ x0 (c.toNat:Int) with ls:=v0,val:=fv })) (hgA _ _) hin4 hb
 rw[hsA]at ke;generalize mayR ({ x0 (c.toNat:Int) with ls:=v0,val:=fv })=okm at km ke⊢
 generalize took q4 0 okm=qe at ke⊢;refine Ans.subR ?_ hsub;refine Ans.of_run' t14 (fun hbel _=>?_)
 simp -implicitDefEqProofs only[c14,r14,go_sem,hgA,hsA,gs,hn,ap4];refine CO.intro k0 ?_;simp -implicitDefEqProofs only[go_sem,bc,wc,hgA,hsA,gs,hn,ap4];refine CO.intro k1 ?_;simp -implicitDefEqProofs only[go_sem];refine CO.intro k2 ?_;simp -implicitDefEqProofs only[go_sem,bc,hgA,hsA,gs,hn,ap4];refine CO.intro k3 ?_;simp -implicitDefEqProofs only[go_sem,bc,hgA,hsA,gs,hn,ap4];refine CO.intro k4 ?_;simp -implicitDefEqProofs only[go_sem];refine CO.intro kv ?_;simp -implicitDefEqProofs only[go_sem];refine CO.intro kr ?_;simp -implicitDefEqProofs only[go_sem,bc,hgA,hsA,gs,hn,ap4];refine CO.intro km ?_;simp -implicitDefEqProofs only[go_sem];refine CO.intro ke ?_;simp -implicitDefEqProofs only[go_sem,hgA,hsA,gs,hn,ap4]
 have hbl:Bel (A qe).length (.agg (XC768 c (lsV v0) (Fl fv))):=.agg _ (fun i hi=>by
  have:∀y∈(XC768 c (lsV v0) (Fl fv):List AV),Bel (A qe).length y:=by
   intro y hy;simp only[List.mem_cons,List.not_mem_nil,or_false]at hy;rcases hy with rfl|rfl|rfl|rfl|rfl|rfl|rfl|rfl|rfl|rfl|rfl|rfl|rfl|rfl|rfl|rfl|rfl|rfl|rfl
   all_goals first|exact .pl _|exact .nils|exact z0N _ _|exact z1G _ _|exact z13 _ _
  exact this _ (List.getElem_mem hi))
 exact Fini.trim2 (σ':=A qe) (ex:=[_,_]) (by simp -implicitDefEqProofs only[go_sem,resA,z03,rvA,oneOf,gs]<;>rfl) rfl (Nat.le_of_eq (by simp only[hn])) hbl (fun o ho=>by
  rw[←hs q qe]at ho;rw[hn];rw[hn]at hbel
  exact z1x (o:=rob b qe) hbel (z2d _ _) o ho)
set_option maxHeartbeats 8000000 in
theorem zaS (q:Nat×Bool) (hq:Inb b q) (c:UInt8) (q1:Nat×Bool) (hc:runR byteR 0 b q=(c,q1)) (ok:Bool) (hf:fOf (c.toNat:Int)=(16,ok)) :
  Ans Try.prog 14 [.ptr p 0] (A q) (reV (bodyS b q).1) (A (bodyS b q).2):=by
 obtain⟨hgA,hsA,gs⟩:=rd_facts A n p b hn hg hs q;have k0:=z0K (A q++[B19]) p b q (hgA _ _) hq hb;have hin1:=z08 byteR 0 b q hq
 have hbS:bodyS b q=z0i (fun q1=>clS 16 (c.toNat:Int) b (took q1 0 ok)) mayR q1:=by
  unfold bodyS;rw[hc];simp only[hf]
 rw[hc]at k0 hin1;rw[hbS];simp only at k0 hin1;rw[hsA]at k0;have k1:=z0G (A q1++[B19,.box (XC16 c .nils)]) (c.toNat:Int);rw[hf]at k1;have k2:=z06 (A q1++[B19,.box (XC16 c .nils)]) p b q1 ok (hgA _ _) hin1 hb;rw[hsA]at k2;have hin2:=z0J b q1 ok hin1;unfold z0i;simp only;generalize took q1 0 ok=q2 at k2 hin2⊢;have wc:IntKind.i64.wrap (c.toNat:Int)=(c.toNat:Int):=wrapI (by have:=c.toNat_lt;omega)
 have hcl:clS 16 (c.toNat:Int) b q2=({ x0 (c.toNat:Int) with mt:=(runR listR [] b q2).1 },(runR listR [] b q2).2):=rfl
 rw[hcl];simp only;have k3:=z5D (A q2++[B19,.box (XC16 c .nils)]) p b q2 (hgA _ _) hin2 hb;rw[hsA]at k3;have hin3:=z08 listR [] b q2 hin2;generalize runR listR [] b q2=w0 at k3 hin3⊢;obtain⟨v0,q3⟩:=w0;simp only at k3 hin3⊢;have hsub:Sub (.agg (XC16 c (mlV v0))) (reV ({ x0 (c.toNat:Int) with mt:=v0 })):=.agg (.cons (.refl _) <| .cons (.refl _) <| .cons (.refl _) <| .cons (.refl _) <| .cons (.refl _) <| .cons (.refl _) <| .cons (.refl _) <| .cons (.refl _) <| .cons (.refl _) <| .cons (.refl _) <| .cons (.refl _) <| .cons (.nils 3) <| .cons (.nils 3) <| .cons (.refl _) <| .cons (.refl _) <| .cons (.refl _) <| .cons (.nils 1) <| .cons (.nils 2) <| .cons (.refl _) <| .nil)
 have km:=(z1g (A q3++[B19,.box (XC16 c (mlV v0))]) ({ x0 (c.toNat:Int) with mt:=v0 })).subA (.cons hsub .nil)
 have ke:=z06 (A q3++[B19,.box (XC16 c (mlV v0))]) p b q3 (mayR ({ x0 (c.toNat:Int) with mt:=v0 })) (hgA _ _) hin3 hb
 rw[hsA]at ke;generalize mayR ({ x0 (c.toNat:Int) with mt:=v0 })=okm at km ke⊢
 generalize took q3 0 okm=qe at ke⊢;refine Ans.subR ?_ hsub;refine Ans.of_run' t14 (fun hbel _=>?_)
 simp -implicitDefEqProofs only[c14,r14,go_sem,hgA,hsA,gs,hn,ap4];refine CO.intro k0 ?_;simp -implicitDefEqProofs only[go_sem,bc,wc,hgA,hsA,gs,hn,ap4];refine CO.intro k1 ?_;simp -implicitDefEqProofs only[go_sem];refine CO.intro k2 ?_;simp -implicitDefEqProofs only[go_sem,bc,hgA,hsA,gs,hn,ap4];refine CO.intro k3 ?_;simp -implicitDefEqProofs only[go_sem,bc,hgA,hsA,gs,hn,ap4];refine CO.intro km ?_;simp -implicitDefEqProofs only[go_sem];refine CO.intro ke ?_;simp -implicitDefEqProofs only[go_sem,hgA,hsA,gs,hn,ap4]
 have hbl:Bel (A qe).length (.agg (XC16 c (mlV v0))):=.agg _ (fun i hi=>by
  have:∀y∈(XC16 c (mlV v0):List AV),Bel (A qe).length y:=by
   intro y hy;simp only[List.mem_cons,List.not_mem_nil,or_false]at hy;rcases hy with rfl|rfl|rfl|rfl|rfl|rfl|rfl|rfl|rfl|rfl|rfl|rfl|rfl|rfl|rfl|rfl|rfl|rfl|rfl
   all_goals first|exact .pl _|exact .nils|exact z0N _ _|exact z1G _ _|exact z13 _ _
  exact this _ (List.getElem_mem hi))
 exact Fini.trim2 (σ':=A qe) (ex:=[_,_]) (by simp -implicitDefEqProofs only[go_sem,resA,z03,rvA,oneOf,gs]<;>rfl) rfl (Nat.le_of_eq (by simp only[hn])) hbl (fun o ho=>by
  rw[←hs q qe]at ho;rw[hn];rw[hn]at hbel
  exact z1x (o:=rob b qe) hbel (z2d _ _) o ho)
end
theorem z74 (A:Nat×Bool→St) (n p:Nat) (b:Byt) (hn:∀q,(A q).length=n) (hg:∀q,(A q)[p]?=some (rob b q)) (hs:∀q q',(A q).set p (rob b q')=A q') (hb:b.length≤50000) (q:Nat×Bool) (hq:Inb b q) :
  Ans Try.prog 14 [.ptr p 0] (A q) (reV (bodyS b q).1) (A (bodyS b q).2):=by
 cases hc:runR byteR 0 b q with
 |mk c q1 =>
 have hm:=z4a (c.toNat:Int)
 cases hf:fOf (c.toNat:Int) with
 |mk f ok =>
 rw[hf]at hm;simp only[List.mem_cons,List.not_mem_nil,or_false]at hm;rcases hm with rfl|rfl|rfl|rfl|rfl|rfl|rfl|rfl|rfl
 · exact zbE A n p b hn hg hs hb q hq c q1 hc ok hf
 · exact zbF A n p b hn hg hs hb q hq c q1 hc ok hf
 · exact zbG A n p b hn hg hs hb q hq c q1 hc ok hf
 · exact z9J A n p b hn hg hs hb q hq c q1 hc ok hf
 · exact z9K A n p b hn hg hs hb q hq c q1 hc ok hf
 · exact zbH A n p b hn hg hs hb q hq c q1 hc ok hf
 · exact z9L A n p b hn hg hs hb q hq c q1 hc ok hf
 · exact z9M A n p b hn hg hs hb q hq c q1 hc ok hf
 · exact zaS A n p b hn hg hs hb q hq c q1 hc ok hf
def wholeO {α:Type} (o:Option (α×Byt)):Option α:=match o with
 |some (x,[])=>some x
 |_=>none
theorem z3s {α:Type} {b:Byt} {rd:Rd α} {st:Nat×Bool→α×(Nat×Bool)} (h:StepsR b rd st) (he:EndsR rd) :
  wholeO (rd b)=if !(st (0,false)).2.2&&decide ((st (0,false)).2.1=b.length) then some (st (0,false)).1 else none:=by
 cases hr:rd b with
 |none=>rw[h.top.2 hr];rfl
 |some p =>
  obtain⟨x,t⟩:=p;rw[h.top.1 x t hr];obtain⟨w,hw⟩:=he _ _ _ hr;have hl:b.length=w.length+t.length:=by rw[hw,List.length_append]
  cases t with
  |nil=>simp[wholeO]
  |cons c t =>
   have:¬(b.length-(c::t).length=b.length):=by simp only[List.length_cons]at hl⊢;omega
   simp only[wholeO,Bool.not_false,Bool.true_and,decide_eq_false this,Bool.false_eq_true,if_false]
abbrev noRe:ReM:=x0 0
def noReV:AV:=.agg [Sx ⟨#[]⟩,I 0,I 0,Sx ⟨#[]⟩,UN 0,UN 0,I 0,.nils,Bo false,Fl 0,Fl 0,.nils,.nils,Bo false,Fl 0,Fl 0,.nils,.nils,Fl 0]
theorem z9N:Sub noReV (reV noRe):=.agg (.cons (.refl _) (.cons (.refl _) (.cons (.refl _) (.cons (.refl _) (.cons (.refl _) (.cons (.refl _) (.cons (.refl _) (.cons (.nils 3) (.cons (.refl _) (.cons (.refl _) (.cons (.refl _) (.cons (.nils 3) (.cons (.nils 3) (.cons (.refl _) (.cons (.refl _) (.cons (.refl _) (.cons (.nils 1) (.cons (.nils 2) (.cons (.refl _) .nil)))))))))))))))))))
theorem z5P (n:Nat):Bel n noReV:=.agg _ fun i hi=>by
 have:∀y∈([Sx ⟨#[]⟩,I 0,I 0,Sx ⟨#[]⟩,UN 0,UN 0,I 0,.nils,Bo false,Fl 0,Fl 0,.nils,.nils,Bo false,Fl 0,Fl 0,.nils,.nils,Fl 0]:List AV),Bel n y:=by
  intro y hy;simp only[List.mem_cons,List.not_mem_nil,or_false]at hy;rcases hy with rfl|rfl|rfl|rfl|rfl|rfl|rfl|rfl|rfl|rfl|rfl|rfl|rfl|rfl|rfl|rfl|rfl|rfl|rfl
  all_goals first|exact .pl _|exact .nils
 exact this _ (List.getElem_mem hi)
theorem z6n (n:Nat) (r:ReM):Bel n (reV r):=.agg _ fun i hi=>by
 have:∀y∈reC r,Bel n y:=by
  intro y hy;unfold reC at hy;simp only[List.mem_cons,List.not_mem_nil,or_false]at hy;rcases hy with rfl|rfl|rfl|rfl|rfl|rfl|rfl|rfl|rfl|rfl|rfl|rfl|rfl|rfl|rfl|rfl|rfl|rfl|rfl
  all_goals first|exact .pl _|exact z0N _ _|exact z1G _ _|exact z13 _ _
 exact this _ (List.getElem_mem hi)
def z1I (o:Option ReM):AV:=match o with
 |some x=>.tup [reV x,Bo true]
 |none=>.tup [reV noRe,Bo false]
def z8J (o:Option ReM):AV:=match o with
 |some x=>.tup [reV x,Bo true]
 |none=>.tup [noReV,Bo false]
theorem z8K (o:Option ReM):Sub (z8J o) (z1I o):=by
 unfold z8J z1I
 cases o with
 |none=>exact .tup (.cons z9N (.refl _))
 |some x=>exact .refl _
theorem z4b {n:Nat} {x:AV} {c:Bool} (h:Bel n x):Bel n (.tup [x,Bo c]):=.tup _ fun j hj=>by
 have:∀y∈([x,Bo c]:List AV),Bel n y:=by
  intro y hy;simp only[List.mem_cons,List.not_mem_nil,or_false]at hy;rcases hy with rfl|rfl
  · exact h
  · exact .pl _
 exact this _ (List.getElem_mem hj)
def fitQ (b:Byt) (q:Nat×Bool) (x:ReM):Option ReM:=if !q.2&&decide (q.1=b.length) then some x else none
theorem z4B (n:Nat) (o:Option ReM):Bel n (z1I o):=by
 unfold z1I
 cases o with
 |none=>exact z4b (z6n _ _)
 |some x=>exact z4b (z6n _ _)
section
variable (σ:St)
theorem z5Q (p:Nat) (b:Byt) (q:Nat×Bool) (x:ReM) (h:σ[p]?=some (rob b q)):Ans Try.prog 15 [reV x,.ptr p 0,.sl 1 (byv b)] σ (z1I (fitQ b q x)) σ:=by
 refine Ans.subR ?_ (z8K _);have hp:p<σ.length:=(List.getElem?_eq_some_iff.1 h).1;have hz:∀ob,(σ++[ob])[p]?=some (rob b q):=fun ob=>by rw[List.getElem?_append_left hp];exact h
 have h1:=z2k (σ++[B19]) p b q (hz _);have hbx:=z6n σ.length x;obtain⟨a,bad⟩:=q;refine Ans.of_run' t15 (fun hbel _=>?_)
 unfold z8J fitQ;unfold reV reC at hbx⊢
 cases bad with
 |true =>
  simp -implicitDefEqProofs only[c15,r15,go_sem,g0,s0];refine CO.intro h1 ?_;simp -implicitDefEqProofs only[go_sem,g0,s0];exact Fini.trim2 (σ':=σ) (ex:=[_]) (by simp -implicitDefEqProofs only[go_sem,resA,z03,rvA,oneOf,g0]<;>rfl) rfl (Nat.le_refl _) (z4b (z5P _)) hbel
 |false =>
  have e1:(((a:Nat):Int) != (b.length:Nat))= !decide (a=b.length):=by
   rw[bne];congr 1
   rw[Bool.eq_iff_iff];simp only[beq_iff_eq,decide_eq_true_eq];omega
  by_cases he:a=b.length
  · have e2:(((a:Nat):Int) != (b.length:Nat))=false:=by rw[e1,decide_eq_true he];rfl
    have e3:(!(a,false).2&&decide ((a,false).1=b.length))=true:=by simp[he]
    rw[if_pos e3];simp -implicitDefEqProofs only[c15,r15,go_sem,g0,s0];refine CO.intro h1 ?_;simp -implicitDefEqProofs only[go_sem,z05,e2,g0,s0];exact Fini.trim2 (σ':=σ) (ex:=[_]) (by simp -implicitDefEqProofs only[go_sem,resA,z03,rvA,oneOf,g0]<;>rfl) rfl (Nat.le_refl _) (z4b hbx) hbel
  · have e2:(((a:Nat):Int) != (b.length:Nat))=true:=by rw[e1,decide_eq_false he];rfl
    have e3:¬(!(a,false).2&&decide ((a,false).1=b.length))=true:=by simp[he]
    rw[if_neg e3];simp -implicitDefEqProofs only[c15,r15,go_sem,g0,s0];refine CO.intro h1 ?_;simp -implicitDefEqProofs only[go_sem,z05,e2,g0,s0];exact Fini.trim2 (σ':=σ) (ex:=[_]) (by simp -implicitDefEqProofs only[go_sem,resA,z03,rvA,oneOf,g0]<;>rfl) rfl (Nat.le_refl _) (z4b (z5P _)) hbel
theorem z5R (b:Byt) (hb:b.length≤50000):Ans Try.prog 6 [.sl 1 (byv b)] σ (z1I (wholeO (bodyR b))) σ:=by
 rw[z3s (z4A b) z5L];have h1:=z74 (fun q=>σ++[B19,rob b q]) (σ.length+2) (σ.length+1) b (fun q=>by simp) (fun q=>g1 _ _ _ _) (fun q q'=>s1 _ _ _ _ _) hb (0,false) (Inb0 b)
 generalize bodyS b (0,false)=w at h1⊢;obtain⟨x,q⟩:=w;simp only at h1⊢;have h2:=z5Q (σ++[B19,rob b q]) (σ.length+1) b q x (g1 _ _ _ _);unfold fitQ at h2;generalize (if(!q.2&&decide (q.1=b.length))=true then some x else none)=o at h2⊢
 have hbo:=z4B σ.length o
 have key:∃(y:ReM) (c:Bool),z1I o=.tup [reV y,Bo c]:=by
  unfold z1I
  cases o with
  |none=>exact⟨_,_,rfl⟩
  |some y=>exact⟨_,_,rfl⟩
 obtain⟨y,c,hy⟩:=key;rw[hy]at h2 hbo⊢;refine Ans.of_run' t6 (fun hbel _=>?_)
 unfold reV reC at *;simp -implicitDefEqProofs only[c6,r6,go_sem];refine CO.intro (z3g _ b) ?_;simp -implicitDefEqProofs only[go_sem,List.append_assoc,List.length_append];refine CO.intro h1 ?_;simp -implicitDefEqProofs only[go_sem];refine CO.intro h2 ?_;simp -implicitDefEqProofs only[go_sem,g0,s0];exact Fini.trim2 (σ':=σ) (ex:=[_,_]) (by simp -implicitDefEqProofs only[go_sem,resA,z03,rvA,oneOf,g0]<;>rfl) rfl (Nat.le_refl _) hbo hbel
def reqR:Rd ReM:=z0Y (seqR (onlyR (textR 16) tokB) bodyR) fun p=>{ p.2 with tok:=p.1 }
def reqS (b:Byt):Nat×Bool→ReM×(Nat×Bool):=z19 (seqSt (z0i (runR (textR 16) ⟨#[]⟩ b) tokB) (bodyS b)) fun p=>{ p.2 with tok:=p.1 }
theorem z9O:EndsR reqR:=z0L (z12 (z2X (z1v 16) tokB) z5L) _
theorem z8L (b:Byt):StepsR b reqR (reqS b):=z0p (z0g (z0u (z0a b (textR 16) _) tokB) (z4A b) (z2X (z1v 16) tokB)) _
theorem z2N (b:Byt) (hb:b.length≤50000):Ans Try.prog 5 [.sl 1 (byv b)] σ (z1I (wholeO (reqR b))) σ:=by
 rw[z3s (z8L b) z9O];have hS:reqS b (0,false)=({ (bodyS b (took (runR (textR 16) ⟨#[]⟩ b (0,false)).2 0 (tokB (runR (textR 16) ⟨#[]⟩ b (0,false)).1))).1 with tok:=(runR (textR 16) ⟨#[]⟩ b (0,false)).1 },(bodyS b (took (runR (textR 16) ⟨#[]⟩ b (0,false)).2 0 (tokB (runR (textR 16) ⟨#[]⟩ b (0,false)).1))).2):=rfl
 rw[hS];have k1:=z2a (σ++[B19,rob b (0,false)]) (σ.length+1) b (0,false) 16 (by decide) (g1 _ _ _ _) (Inb0 b) hb
 rw[s1]at k1;have i1:=z08 (textR 16) ⟨#[]⟩ b (0,false) (Inb0 b);generalize runR (textR 16) ⟨#[]⟩ b (0,false)=w at k1 i1⊢;obtain⟨s,q1⟩:=w;simp only at k1 i1⊢;have k2:=z1H (σ++[B19,rob b q1]) s;have k3:=z06 (σ++[B19,rob b q1]) (σ.length+1) b q1 (tokB s) (g1 _ _ _ _) i1 hb;rw[s1]at k3;have i2:=z0J b q1 (tokB s) i1;generalize took q1 0 (tokB s)=q2 at k3 i2⊢;have h1:=z74 (fun q=>σ++[B19,rob b q]) (σ.length+2) (σ.length+1) b (fun q=>by simp) (fun q=>g1 _ _ _ _) (fun q q'=>s1 _ _ _ _ _) hb q2 i2
 generalize bodyS b q2=w at h1⊢;obtain⟨x,q⟩:=w;simp only at h1⊢;have h2:=z5Q (σ++[B19,rob b q,.box (reC { x with tok:=s })]) (σ.length+1) b q { x with tok:=s } (g1 _ _ _ _)
 unfold fitQ at h2;generalize (if(!q.2&&decide (q.1=b.length))=true then some ({ x with tok:=s }:ReM) else none)=o at h2⊢
 have hbo:=z4B σ.length o
 have key:∃(y:ReM) (c:Bool),z1I o=.tup [reV y,Bo c]:=by
  unfold z1I
  cases o with
  |none=>exact⟨_,_,rfl⟩
  |some y=>exact⟨_,_,rfl⟩
 obtain⟨y,c,hy⟩:=key;rw[hy]at h2 hbo⊢;refine Ans.of_run' t5 (fun hbel _=>?_)
 unfold reV reC at *;simp only at h2;simp -implicitDefEqProofs only[c5,r5,go_sem];refine CO.intro (z3g _ b) ?_;simp -implicitDefEqProofs only[go_sem,List.append_assoc,List.length_append];refine CO.intro k1 ?_;simp -implicitDefEqProofs only[go_sem];refine CO.intro k2 ?_;simp -implicitDefEqProofs only[go_sem];refine CO.intro k3 ?_;simp -implicitDefEqProofs only[go_sem];refine CO.intro h1 ?_;simp -implicitDefEqProofs only[go_sem,List.append_assoc,List.length_append,List.cons_append,List.nil_append,g0,g1,g2,s0,s1,s2];refine CO.intro h2 ?_;simp -implicitDefEqProofs only[go_sem,g0,s0];exact Fini.trim2 (σ':=σ) (ex:=[_,_,_]) (by simp -implicitDefEqProofs only[go_sem,resA,z03,rvA,oneOf,g0]<;>rfl) rfl (Nat.le_refl _) hbo hbel
end
theorem g4q (σ:St) (x y z u w:Ob) (ex:St):(σ++x::y::z::u::w::ex)[σ.length+4]?=some w:=by rw[List.getElem?_append_right (by simp)];simp
theorem s4q (σ:St) (x y z u v w:Ob) (ex:St):(σ++x::y::z::u::v::ex).set (σ.length+4) w=σ++x::y::z::u::w::ex:=by rw[List.set_append_right _ _ (by simp)];simp
def rootR:ReM:=⟨⟨#[114,111,111,116]⟩,1,0,⟨#[]⟩,0,0,0,[],false,0,0,⟨[],[],false,0,0,[]⟩,[],0⟩
theorem z8M:reIs rootR=true:=by kernel_rfl
theorem z9P:mayR rootR=true:=by kernel_rfl
theorem z5S:z1w rootR=[1]:=by
 unfold z1w;rw[if_pos z9P]
 kernel_rfl
theorem z7A:z3q rootR=[4,114,111,111,116,1]:=by
 unfold z3q txtB;rw[if_pos z8M,z5S,z2j (by decide)]
 rfl
theorem z8N:wholeO (reqR [4,114,111,111,116,1])=some rootR:=by kernel_rfl
theorem z8O:wholeO (reqR [4,114,111,111,116,1,0])=none:=by kernel_rfl
def rootZ:AV:=.agg [Sx ⟨#[114,111,111,116]⟩,I 1,I 0,Sx .empty,UN 0,UN 0,I 0,.nils,Bo false,Fl 0,Fl 0,.nils,.nils,Bo false,Fl 0,Fl 0,.nils,.nils,Fl 0]
theorem z55:Sub rootZ (reV rootR):=.agg (.cons (.refl _) (.cons (.refl _) (.cons (.refl _) (.cons (.refl _) (.cons (.refl _) (.cons (.refl _) (.cons (.refl _) (.cons (.nils 3) (.cons (.refl _) (.cons (.refl _) (.cons (.refl _) (.cons (.nils 3) (.cons (.nils 3) (.cons (.refl _) (.cons (.refl _) (.cons (.refl _) (.cons (.nils 1) (.cons (.nils 2) (.cons (.refl _) .nil)))))))))))))))))))
theorem rq_b (σ:St):Ans Try.prog 4 [] σ (Bo true) σ:=by
 have q1:=fun s=>z2N s [4,114,111,111,116,1] (by decide)
 have q2:=fun s=>z2N s [4,114,111,111,116,1,0] (by decide)
 rw[z8N]at q1;rw[z8O]at q2;have p1:=fun s=>(z3r s rootR).subA (.cons z55 .nil)
 have p2:=fun s=>(z52 s rootR).subA (.cons z55 .nil)
 have p3:=fun s=>(z54 s rootR).subA (.cons z55 .nil)
 rw[z7A]at p1;rw[z8M]at p2;rw[z5S]at p3;unfold z1I rootR reV reC at q1;unfold z1I noRe reV reC at q2;unfold rootZ at p1 p2 p3;simp only[byv,List.map_cons,List.map_nil]at q1 q2;obtain⟨B1,e1⟩:∃B:Byt,B=[4,114,111,111,116,1]:=⟨_,rfl⟩;obtain⟨B2,e2⟩:∃B:Byt,B=[1]:=⟨_,rfl⟩;have h1:((⟨B1.toArray⟩:ByteArray).toList==(ByteArray.mk #[4,114,111,111,116,1]).toList)=true:=by rw[e1];decide +kernel
 have h2:((⟨B2.toArray⟩:ByteArray).toList==(ByteArray.mk #[1]).toList)=true:=by rw[e2];decide +kernel
 rw[←e1]at p1;rw[←e2]at p3;refine Ans.of_run' t4 (fun hbel _=>?_)
 simp -implicitDefEqProofs only[c4,r4,go_sem,List.append_assoc,List.cons_append,List.nil_append,List.length_append,List.length_cons,List.length_nil,g0,s0,g1,s1,g2,s2,g3,s3,g4q,s4q];refine CO.intro (q1 _) ?_;simp -implicitDefEqProofs only[go_sem,List.append_assoc,List.cons_append,List.nil_append,List.length_append,List.length_cons,List.length_nil,g0,s0,g1,s1,g2,s2,g3,s3,g4q,s4q];refine CO.intro (q2 _) ?_;simp -implicitDefEqProofs only[go_sem,List.append_assoc,List.cons_append,List.nil_append,List.length_append,List.length_cons,List.length_nil,g0,s0,g1,s1,g2,s2,g3,s3,g4q,s4q];refine CO.intro (p1 _) ?_;simp -implicitDefEqProofs only[go_sem,List.append_assoc,List.cons_append,List.nil_append,List.length_append,List.length_cons,List.length_nil,g0,s0,g1,s1,g2,s2,g3,s3,g4q,s4q,z0I,bc,z1u,z1j,AV.isStr,h1];refine CO.intro (p2 _) ?_;simp -implicitDefEqProofs only[go_sem,List.append_assoc,List.cons_append,List.nil_append,List.length_append,List.length_cons,List.length_nil,g0,s0,g1,s1,g2,s2,g3,s3,g4q,s4q];refine CO.intro (p3 _) ?_;simp -implicitDefEqProofs only[go_sem,List.append_assoc,List.cons_append,List.nil_append,List.length_append,List.length_cons,List.length_nil,g0,s0,g1,s1,g2,s2,g3,s3,g4q,s4q,z0I,bc,z1u,z1j,AV.isStr,h2];exact Fini.trim2 (σ':=σ) rfl rfl (Nat.le_refl _) (.pl _) hbel
end Go.Proofs.Ytmkmhhjkdaklbaa
namespace Go.Ab
open Go Go.ChangeShapes Go.WideShapes
end Go.Ab
namespace Go.Proofs.Ytmkmhhjkdaklbaa
open Go Go.Ab Go.Cod Go.ChangeShapes Go.WideShapes Go.ChangeAt Go.RowKit
set_option maxRecDepth 100000
theorem toList_inj {a b:ByteArray} (h:a.toList=b.toList):a=b:=by
 rw[ByteArray.toList_eq,ByteArray.toList_eq]at h;cases a;cases b;simpa using h
section
variable (σ:St)
end
end Go.Proofs.Ytmkmhhjkdaklbaa
namespace Go.Proofs.Ytmkmhhjkdaklbaa
open Go Go.Ab Go.Cod
set_option maxRecDepth 100000
theorem z0Q {α β:Type} {rd:Rd α} {wr:α→Byt} {ok:α→Prop} (h:Fits rd wr ok) (f:α→β) (g:β→α) (hgf:∀a,g (f a)=a):Fits (z0Y rd f) (fun r=>wr (g r)) (fun r=>ok (g r)∧f (g r)=r) :=
 dress_fits h (fun a ha=>⟨⟨by rw[hgf];exact ha,by rw[hgf]⟩,by rw[hgf]⟩) (fun b hb=>hb)
theorem z75 (c:UInt8):opC ((c.toNat:Nat):Int)=c:=by
 unfold opC;rw[Int.toNat_natCast];simp
theorem z1q {n:Int} (h0:0≤n) (h1:n≤17):(((opC n).toNat:Nat):Int)=n:=by
 have:=z53 h0 h1;rw[←this];obtain⟨k,rfl⟩:=Int.eq_ofNat_of_zero_le h0;have:k<18:=by omega
 match k,this with
 |0,_|1,_|2,_|3,_|4,_|5,_|6,_|7,_|8,_|9,_|10,_|11,_|12,_|13,_|14,_|15,_|16,_|17,_=>rfl
theorem z2f (s:ByteArray):emS s=true↔s=⟨#[]⟩:=by
 unfold emS;rw[beq_iff_eq];exact⟨toList_inj,fun h=>by rw[h]⟩
theorem z2g (n:Nat):emU n=true↔n=0:=by unfold emU;rw[beq_iff_eq];omega
theorem z1W {α:Type} (l:List α):emI l.length=true↔l=[]:=by
 unfold emI;rw[beq_iff_eq,←List.length_eq_zero_iff];omega
theorem z2C (v:Nat):zF v=true↔v=0:=by
 unfold zF;rw[beq_iff_eq];exact⟨fun h=>z3k (Int.ofNat.inj h),fun h=>by rw[h,z1e];rfl⟩
theorem z1r (x:Bnd):noBd x=true↔x=(false,0,0):=by
 obtain⟨a,lo,hi⟩:=x;unfold noBd;simp only[Bool.and_eq_true,z2C,Bool.not_eq_true',Prod.mk.injEq]
theorem z1C (r:RuM):noRl r=true↔r=noRu:=by
 obtain⟨a,b,c,lo,hi,e⟩:=r;unfold noRl noRu;simp only[Bool.and_eq_true,z1W,z1r,RuM.mk.injEq,Prod.mk.injEq];constructor
 · rintro⟨rfl,rfl,rfl,rfl,rfl,rfl⟩;simp
 · rintro⟨rfl,rfl,rfl,rfl,rfl,rfl⟩;simp
def mkI (op:Int) (n:Nat):ReM:={ x0 op with id:=(n:Nat) }
def mkIT (op:Int) (p:Nat×ByteArray):ReM:={ x0 op with id:=(p.1:Nat),txt:=p.2 }
def mkZ (op:Int) (c:UInt8):ReM:={ x0 op with sta:=(c.toNat:Nat) }
def mkR (op:Int) (r:RuM):ReM:={ x0 op with ru:=r }
def mkLV (op:Int) (p:List Lab×Nat):ReM:={ x0 op with ls:=p.1,val:=p.2 }
def mkMt (op:Int) (M:List Mtr):ReM:={ x0 op with mt:=M }
structure ReSz (r:ReM):Prop where
 tok:r.tok=⟨#[]⟩
 val:r.val<2^64∧bitsF r.val=r.val
 bd:r.lo<2^64∧r.hi<2^64
 ru:r.ru.lo<2^64∧r.ru.hi<2^64
theorem fit_0 (op:Int):Fits (clR 0 op) (fun r=>[]) (fun r=>r=x0 op):=⟨fun a t h=>by rw[h];rfl,fun b a t h=>by have h:(some (x0 op,b):Option (ReM×Byt))=some (a,t):=h;simp only[Option.some.injEq,Prod.mk.injEq]at h;exact⟨h.1.symm,h.2⟩⟩
theorem fit_1 (op:Int):Fits (clR 1 op) (fun r=>putN r.id.toNat) (fun r=>(r.id.toNat≤2147483647)∧(mkI op) ((fun r=>r.id.toNat) r)=r):=z0Q (z18 (most:=2147483647) (by decide)) (mkI op) (fun r=>r.id.toNat) (fun _=>rfl)
theorem fit_3 (op:Int):Fits (clR 3 op) (fun r=>putN r.id.toNat++txtB r.txt) (fun r=>(r.id.toNat≤2147483647∧r.txt.size≤16)∧(mkIT op) ((fun r=>(r.id.toNat,r.txt)) r)=r):=z0Q (z0q (z18 (most:=2147483647) (by decide)) (z1t (most:=16) (by decide))) (mkIT op) (fun r=>(r.id.toNat,r.txt)) (fun _=>rfl)
theorem z8P (op:Int):Fits (clR 116 op) (fun r=>putN r.st++(putN r.en++(putL r.mt++putBd (r.any,r.lo,r.hi)))) (fun r=>(r.st≤1099511627776∧r.en≤1099511627776∧listB r.mt=true∧(bMay (r.any,r.lo,r.hi)=true∧bSz (r.any,r.lo,r.hi)))∧(mk116 op) ((fun r=>(r.st,r.en,r.mt,r.any,r.lo,r.hi)) r)=r):=z0Q (z0q (z18 (most:=1099511627776) (by decide)) (z0q (z18 (most:=1099511627776) (by decide)) (z0q z25 band_fits))) (mk116 op) (fun r=>(r.st,r.en,r.mt,r.any,r.lo,r.hi)) (fun _=>rfl)
theorem z8Q (op:Int):Fits (clR 117 op) (fun r=>putN r.id.toNat++(putN r.st++(putN r.en++(putL r.mt++putBd (r.any,r.lo,r.hi))))) (fun r=>(r.id.toNat≤2147483647∧r.st≤1099511627776∧r.en≤1099511627776∧listB r.mt=true∧(bMay (r.any,r.lo,r.hi)=true∧bSz (r.any,r.lo,r.hi)))∧(mk117 op) ((fun r=>(r.id.toNat,r.st,r.en,r.mt,r.any,r.lo,r.hi)) r)=r):=z0Q (z0q (z18 (most:=2147483647) (by decide)) (z0q (z18 (most:=1099511627776) (by decide)) (z0q (z18 (most:=1099511627776) (by decide)) (z0q z25 band_fits)))) (mk117 op) (fun r=>(r.id.toNat,r.st,r.en,r.mt,r.any,r.lo,r.hi)) (fun _=>rfl)
theorem fit_8 (op:Int):Fits (clR 8 op) (fun r=>[opC r.sta]) (fun r=>(True)∧(mkZ op) ((fun r=>opC r.sta) r)=r):=z0Q byte_fits (mkZ op) (fun r=>opC r.sta) (fun c=>z75 c)
theorem z8R (op:Int):Fits (clR 128 op) (fun r=>putR r.ru) (fun r=>(ruIs r.ru=true∧ruSz r.ru)∧(mkR op) ((fun r=>r.ru) r)=r):=z0Q ru_fits (mkR op) (fun r=>r.ru) (fun _=>rfl)
theorem z8S (op:Int):Fits (clR 768 op) (fun r=>z2B r.ls++putV r.val) (fun r=>(setB r.ls=true∧(r.val<2^64∧bitsF r.val=r.val))∧(mkLV op) ((fun r=>(r.ls,r.val)) r)=r):=z0Q (z0q set_fits val_fits) (mkLV op) (fun r=>(r.ls,r.val)) (fun _=>rfl)
theorem zad (op:Int):Fits (clR 16 op) (fun r=>putL r.mt) (fun r=>(listB r.mt=true)∧(mkMt op) ((fun r=>r.mt) r)=r):=z0Q z25 (mkMt op) (fun r=>r.mt) (fun _=>rfl)
theorem cls_0 {r:ReM} (hm:mayR r=true) (hs:ReSz r) (hf:(fOf r.op).1=0):(r=x0 r.op)∧z0k 0 r=opC r.op::([]):=by
 have hok:=bd_ok hm;unfold mayR at hm;rw[hf]at hm;simp only[Bool.and_eq_true]at hm;obtain⟨_,hz,hr⟩:=hm;unfold zeroB at hz;unfold z0s at hr;simp only[hs_0,Bool.true_or,Bool.false_or,Bool.not_true,Bool.not_false,Bool.true_and,Bool.and_true,Bool.and_eq_true,z2f,z2g,z1W,z2C,z1r,z1C,beq_iff_eq,Prod.mk.injEq]at hz hr;obtain⟨op0,op1,id0,id1,htx,hst,hen,sta0,sta1,hmt,hru,hls⟩:=hok;obtain⟨h1,h2,h3,h4⟩:=hs;have hid:((r.id.toNat:Nat):Int)=r.id:=by omega
 have hsta:=z1q sta0 (by omega)
 have eL:z0m r.mt=putL r.mt:=by unfold z0m;rw[hmt];rfl
 rw[hf]at hru hls;refine⟨?_,by simp[z0k,putB2,putB1,layF,hs_0]⟩
 obtain⟨tok,op,id,txt,st,en,sta,mt,any,lo,hi,ru,ls,val⟩:=r;simp only[x0,mk116,mk117,mkI,mkIT,mkZ,mkR,mkLV,mkMt,ReM.mk.injEq]at *
 simp_all
theorem cls_1 {r:ReM} (hm:mayR r=true) (hs:ReSz r) (hf:(fOf r.op).1=1):((r.id.toNat≤2147483647)∧(mkI r.op) ((fun r=>r.id.toNat) r)=r)∧z0k 1 r=opC r.op::(putN r.id.toNat):=by
 have hok:=bd_ok hm;unfold mayR at hm;rw[hf]at hm;simp only[Bool.and_eq_true]at hm;obtain⟨_,hz,hr⟩:=hm;unfold zeroB at hz;unfold z0s at hr;simp only[hs_1,Bool.true_or,Bool.false_or,Bool.not_true,Bool.not_false,Bool.true_and,Bool.and_true,Bool.and_eq_true,z2f,z2g,z1W,z2C,z1r,z1C,beq_iff_eq,Prod.mk.injEq]at hz hr;obtain⟨op0,op1,id0,id1,htx,hst,hen,sta0,sta1,hmt,hru,hls⟩:=hok;obtain⟨h1,h2,h3,h4⟩:=hs;have hid:((r.id.toNat:Nat):Int)=r.id:=by omega
 have hsta:=z1q sta0 (by omega)
 have eL:z0m r.mt=putL r.mt:=by unfold z0m;rw[hmt];rfl
 rw[hf]at hru hls;refine⟨⟨by omega,?_⟩,by simp[z0k,putB2,putB1,layF,hs_1]⟩
 obtain⟨tok,op,id,txt,st,en,sta,mt,any,lo,hi,ru,ls,val⟩:=r;simp only[x0,mk116,mk117,mkI,mkIT,mkZ,mkR,mkLV,mkMt,ReM.mk.injEq]at *
 simp_all
theorem cls_3 {r:ReM} (hm:mayR r=true) (hs:ReSz r) (hf:(fOf r.op).1=3):((r.id.toNat≤2147483647∧r.txt.size≤16)∧(mkIT r.op) ((fun r=>(r.id.toNat,r.txt)) r)=r)∧z0k 3 r=opC r.op::(putN r.id.toNat++txtB r.txt):=by
 have hok:=bd_ok hm;unfold mayR at hm;rw[hf]at hm;simp only[Bool.and_eq_true]at hm;obtain⟨_,hz,hr⟩:=hm;unfold zeroB at hz;unfold z0s at hr;simp only[hs_3,Bool.true_or,Bool.false_or,Bool.not_true,Bool.not_false,Bool.true_and,Bool.and_true,Bool.and_eq_true,z2f,z2g,z1W,z2C,z1r,z1C,beq_iff_eq,Prod.mk.injEq]at hz hr;obtain⟨op0,op1,id0,id1,htx,hst,hen,sta0,sta1,hmt,hru,hls⟩:=hok;obtain⟨h1,h2,h3,h4⟩:=hs;have hid:((r.id.toNat:Nat):Int)=r.id:=by omega
 have hsta:=z1q sta0 (by omega)
 have eL:z0m r.mt=putL r.mt:=by unfold z0m;rw[hmt];rfl
 rw[hf]at hru hls;refine⟨⟨⟨by omega,htx⟩,?_⟩,by simp[z0k,putB2,putB1,layF,hs_3]⟩
 obtain⟨tok,op,id,txt,st,en,sta,mt,any,lo,hi,ru,ls,val⟩:=r;simp only[x0,mk116,mk117,mkI,mkIT,mkZ,mkR,mkLV,mkMt,ReM.mk.injEq]at *
 simp_all
theorem z6o {r:ReM} (hm:mayR r=true) (hs:ReSz r) (hf:(fOf r.op).1=116):((r.st≤1099511627776∧r.en≤1099511627776∧listB r.mt=true∧(bMay (r.any,r.lo,r.hi)=true∧bSz (r.any,r.lo,r.hi)))∧(mk116 r.op) ((fun r=>(r.st,r.en,r.mt,r.any,r.lo,r.hi)) r)=r)∧z0k 116 r=opC r.op::(putN r.st++(putN r.en++(putL r.mt++putBd (r.any,r.lo,r.hi)))):=by
 have hok:=bd_ok hm;unfold mayR at hm;rw[hf]at hm;simp only[Bool.and_eq_true]at hm;obtain⟨_,hz,hr⟩:=hm;unfold zeroB at hz;unfold z0s at hr;simp only[z71,Bool.true_or,Bool.false_or,Bool.not_true,Bool.not_false,Bool.true_and,Bool.and_true,Bool.and_eq_true,z2f,z2g,z1W,z2C,z1r,z1C,beq_iff_eq,Prod.mk.injEq]at hz hr;obtain⟨op0,op1,id0,id1,htx,hst,hen,sta0,sta1,hmt,hru,hls⟩:=hok;obtain⟨h1,h2,h3,h4⟩:=hs;have hid:((r.id.toNat:Nat):Int)=r.id:=by omega
 have hsta:=z1q sta0 (by omega)
 have eL:z0m r.mt=putL r.mt:=by unfold z0m;rw[hmt];rfl
 rw[hf]at hru hls;refine⟨⟨⟨hst,hen,hmt,hr.2.2.2.2.2.2,h3⟩,?_⟩,by simp[z0k,putB2,putB1,layF,z71,eL]⟩
 obtain⟨tok,op,id,txt,st,en,sta,mt,any,lo,hi,ru,ls,val⟩:=r;simp only[x0,mk116,mk117,mkI,mkIT,mkZ,mkR,mkLV,mkMt,ReM.mk.injEq]at *
 simp_all
theorem z6p {r:ReM} (hm:mayR r=true) (hs:ReSz r) (hf:(fOf r.op).1=117):((r.id.toNat≤2147483647∧r.st≤1099511627776∧r.en≤1099511627776∧listB r.mt=true∧(bMay (r.any,r.lo,r.hi)=true∧bSz (r.any,r.lo,r.hi)))∧(mk117 r.op) ((fun r=>(r.id.toNat,r.st,r.en,r.mt,r.any,r.lo,r.hi)) r)=r)∧z0k 117 r=opC r.op::(putN r.id.toNat++(putN r.st++(putN r.en++(putL r.mt++putBd (r.any,r.lo,r.hi))))):=by
 have hok:=bd_ok hm;unfold mayR at hm;rw[hf]at hm;simp only[Bool.and_eq_true]at hm;obtain⟨_,hz,hr⟩:=hm;unfold zeroB at hz;unfold z0s at hr;simp only[z72,Bool.true_or,Bool.false_or,Bool.not_true,Bool.not_false,Bool.true_and,Bool.and_true,Bool.and_eq_true,z2f,z2g,z1W,z2C,z1r,z1C,beq_iff_eq,Prod.mk.injEq]at hz hr;obtain⟨op0,op1,id0,id1,htx,hst,hen,sta0,sta1,hmt,hru,hls⟩:=hok;obtain⟨h1,h2,h3,h4⟩:=hs;have hid:((r.id.toNat:Nat):Int)=r.id:=by omega
 have hsta:=z1q sta0 (by omega)
 have eL:z0m r.mt=putL r.mt:=by unfold z0m;rw[hmt];rfl
 rw[hf]at hru hls;refine⟨⟨⟨by omega,hst,hen,hmt,hr.2.2.2.2.2.2,h3⟩,?_⟩,by simp[z0k,putB2,putB1,layF,z72,eL]⟩
 obtain⟨tok,op,id,txt,st,en,sta,mt,any,lo,hi,ru,ls,val⟩:=r;simp only[x0,mk116,mk117,mkI,mkIT,mkZ,mkR,mkLV,mkMt,ReM.mk.injEq]at *
 simp_all
theorem cls_8 {r:ReM} (hm:mayR r=true) (hs:ReSz r) (hf:(fOf r.op).1=8):((True)∧(mkZ r.op) ((fun r=>opC r.sta) r)=r)∧z0k 8 r=opC r.op::([opC r.sta]):=by
 have hok:=bd_ok hm;unfold mayR at hm;rw[hf]at hm;simp only[Bool.and_eq_true]at hm;obtain⟨_,hz,hr⟩:=hm;unfold zeroB at hz;unfold z0s at hr;simp only[hs_8,Bool.true_or,Bool.false_or,Bool.not_true,Bool.not_false,Bool.true_and,Bool.and_true,Bool.and_eq_true,z2f,z2g,z1W,z2C,z1r,z1C,beq_iff_eq,Prod.mk.injEq]at hz hr;obtain⟨op0,op1,id0,id1,htx,hst,hen,sta0,sta1,hmt,hru,hls⟩:=hok;obtain⟨h1,h2,h3,h4⟩:=hs;have hid:((r.id.toNat:Nat):Int)=r.id:=by omega
 have hsta:=z1q sta0 (by omega)
 have eL:z0m r.mt=putL r.mt:=by unfold z0m;rw[hmt];rfl
 rw[hf]at hru hls;refine⟨⟨trivial,?_⟩,by simp[z0k,putB2,putB1,layF,hs_8]⟩
 obtain⟨tok,op,id,txt,st,en,sta,mt,any,lo,hi,ru,ls,val⟩:=r;simp only[x0,mk116,mk117,mkI,mkIT,mkZ,mkR,mkLV,mkMt,ReM.mk.injEq]at *
 simp_all
theorem z6q {r:ReM} (hm:mayR r=true) (hs:ReSz r) (hf:(fOf r.op).1=128):((ruIs r.ru=true∧ruSz r.ru)∧(mkR r.op) ((fun r=>r.ru) r)=r)∧z0k 128 r=opC r.op::(putR r.ru):=by
 have hok:=bd_ok hm;unfold mayR at hm;rw[hf]at hm;simp only[Bool.and_eq_true]at hm;obtain⟨_,hz,hr⟩:=hm;unfold zeroB at hz;unfold z0s at hr;simp only[hs_128,Bool.true_or,Bool.false_or,Bool.not_true,Bool.not_false,Bool.true_and,Bool.and_true,Bool.and_eq_true,z2f,z2g,z1W,z2C,z1r,z1C,beq_iff_eq,Prod.mk.injEq]at hz hr;obtain⟨op0,op1,id0,id1,htx,hst,hen,sta0,sta1,hmt,hru,hls⟩:=hok;obtain⟨h1,h2,h3,h4⟩:=hs;have hid:((r.id.toNat:Nat):Int)=r.id:=by omega
 have hsta:=z1q sta0 (by omega)
 have eL:z0m r.mt=putL r.mt:=by unfold z0m;rw[hmt];rfl
 rw[hf]at hru hls;have eR:z1d r.ru=putR r.ru:=by unfold z1d;rw[hru hs_128.2.2.2.2.2.2.2.1];rfl
 refine⟨⟨⟨hru hs_128.2.2.2.2.2.2.2.1,h4⟩,?_⟩,by simp[z0k,putB2,putB1,layF,hs_128,eR]⟩
 obtain⟨tok,op,id,txt,st,en,sta,mt,any,lo,hi,ru,ls,val⟩:=r;simp only[x0,mk116,mk117,mkI,mkIT,mkZ,mkR,mkLV,mkMt,ReM.mk.injEq]at *
 simp_all
theorem z6r {r:ReM} (hm:mayR r=true) (hs:ReSz r) (hf:(fOf r.op).1=768):((setB r.ls=true∧(r.val<2^64∧bitsF r.val=r.val))∧(mkLV r.op) ((fun r=>(r.ls,r.val)) r)=r)∧z0k 768 r=opC r.op::(z2B r.ls++putV r.val):=by
 have hok:=bd_ok hm;unfold mayR at hm;rw[hf]at hm;simp only[Bool.and_eq_true]at hm;obtain⟨_,hz,hr⟩:=hm;unfold zeroB at hz;unfold z0s at hr;simp only[hs_768,Bool.true_or,Bool.false_or,Bool.not_true,Bool.not_false,Bool.true_and,Bool.and_true,Bool.and_eq_true,z2f,z2g,z1W,z2C,z1r,z1C,beq_iff_eq,Prod.mk.injEq]at hz hr;obtain⟨op0,op1,id0,id1,htx,hst,hen,sta0,sta1,hmt,hru,hls⟩:=hok;obtain⟨h1,h2,h3,h4⟩:=hs;have hid:((r.id.toNat:Nat):Int)=r.id:=by omega
 have hsta:=z1q sta0 (by omega)
 have eL:z0m r.mt=putL r.mt:=by unfold z0m;rw[hmt];rfl
 rw[hf]at hru hls;have eS:z1P r.ls=z2B r.ls:=by unfold z1P;rw[hls hs_768.2.2.2.2.2.2.2.2.1];rfl
 refine⟨⟨⟨hls hs_768.2.2.2.2.2.2.2.2.1,h2⟩,?_⟩,by simp[z0k,putB2,putB1,layF,hs_768,eS]⟩
 obtain⟨tok,op,id,txt,st,en,sta,mt,any,lo,hi,ru,ls,val⟩:=r;simp only[x0,mk116,mk117,mkI,mkIT,mkZ,mkR,mkLV,mkMt,ReM.mk.injEq]at *
 simp_all
theorem z8T {r:ReM} (hm:mayR r=true) (hs:ReSz r) (hf:(fOf r.op).1=16):((listB r.mt=true)∧(mkMt r.op) ((fun r=>r.mt) r)=r)∧z0k 16 r=opC r.op::(putL r.mt):=by
 have hok:=bd_ok hm;unfold mayR at hm;rw[hf]at hm;simp only[Bool.and_eq_true]at hm;obtain⟨_,hz,hr⟩:=hm;unfold zeroB at hz;unfold z0s at hr;simp only[hs_16,Bool.true_or,Bool.false_or,Bool.not_true,Bool.not_false,Bool.true_and,Bool.and_true,Bool.and_eq_true,z2f,z2g,z1W,z2C,z1r,z1C,beq_iff_eq,Prod.mk.injEq]at hz hr;obtain⟨op0,op1,id0,id1,htx,hst,hen,sta0,sta1,hmt,hru,hls⟩:=hok;obtain⟨h1,h2,h3,h4⟩:=hs;have hid:((r.id.toNat:Nat):Int)=r.id:=by omega
 have hsta:=z1q sta0 (by omega)
 have eL:z0m r.mt=putL r.mt:=by unfold z0m;rw[hmt];rfl
 rw[hf]at hru hls;refine⟨⟨hmt,?_⟩,by simp[z0k,putB2,putB1,layF,hs_16,eL]⟩
 obtain⟨tok,op,id,txt,st,en,sta,mt,any,lo,hi,ru,ls,val⟩:=r;simp only[x0,mk116,mk117,mkI,mkIT,mkZ,mkR,mkLV,mkMt,ReM.mk.injEq]at *
 simp_all
theorem zaT {op:Int} {r:ReM} (h:r=x0 op):ReSz r:=by
 subst h;have z:(0:Nat)<2^64:=by decide
 exact⟨rfl,⟨z,z1e⟩,⟨z,z⟩,⟨z,z⟩⟩
theorem zaU {op:Int} {r:ReM} (h:(r.id.toNat≤2147483647)∧(mkI op) ((fun r=>r.id.toNat) r)=r):ReSz r:=⟨by rw[←h.2];rfl,(by rw[←h.2];exact(show(0:Nat)<2^64∧bitsF 0=0 from⟨by decide,z1e⟩)),(by rw[←h.2];show(0:Nat)<2^64∧(0:Nat)<2^64;decide),(by rw[←h.2];show(0:Nat)<2^64∧(0:Nat)<2^64;decide)⟩
theorem zaV {op:Int} {r:ReM} (h:(r.id.toNat≤2147483647∧r.txt.size≤16)∧(mkIT op) ((fun r=>(r.id.toNat,r.txt)) r)=r):ReSz r:=⟨by rw[←h.2];rfl,(by rw[←h.2];exact(show(0:Nat)<2^64∧bitsF 0=0 from⟨by decide,z1e⟩)),(by rw[←h.2];show(0:Nat)<2^64∧(0:Nat)<2^64;decide),(by rw[←h.2];show(0:Nat)<2^64∧(0:Nat)<2^64;decide)⟩
theorem z8U {op:Int} {r:ReM} (h:(r.st≤1099511627776∧r.en≤1099511627776∧listB r.mt=true∧(bMay (r.any,r.lo,r.hi)=true∧bSz (r.any,r.lo,r.hi)))∧(mk116 op) ((fun r=>(r.st,r.en,r.mt,r.any,r.lo,r.hi)) r)=r):ReSz r:=⟨by rw[←h.2];rfl,(by rw[←h.2];exact(show(0:Nat)<2^64∧bitsF 0=0 from⟨by decide,z1e⟩)),h.1.2.2.2.2,(by rw[←h.2];show(0:Nat)<2^64∧(0:Nat)<2^64;decide)⟩
theorem z8V {op:Int} {r:ReM} (h:(r.id.toNat≤2147483647∧r.st≤1099511627776∧r.en≤1099511627776∧listB r.mt=true∧(bMay (r.any,r.lo,r.hi)=true∧bSz (r.any,r.lo,r.hi)))∧(mk117 op) ((fun r=>(r.id.toNat,r.st,r.en,r.mt,r.any,r.lo,r.hi)) r)=r):ReSz r:=⟨by rw[←h.2];rfl,(by rw[←h.2];exact(show(0:Nat)<2^64∧bitsF 0=0 from⟨by decide,z1e⟩)),h.1.2.2.2.2.2,(by rw[←h.2];show(0:Nat)<2^64∧(0:Nat)<2^64;decide)⟩
theorem zaW {op:Int} {r:ReM} (h:(True)∧(mkZ op) ((fun r=>opC r.sta) r)=r):ReSz r:=⟨by rw[←h.2];rfl,(by rw[←h.2];exact(show(0:Nat)<2^64∧bitsF 0=0 from⟨by decide,z1e⟩)),(by rw[←h.2];show(0:Nat)<2^64∧(0:Nat)<2^64;decide),(by rw[←h.2];show(0:Nat)<2^64∧(0:Nat)<2^64;decide)⟩
theorem z8W {op:Int} {r:ReM} (h:(ruIs r.ru=true∧ruSz r.ru)∧(mkR op) ((fun r=>r.ru) r)=r):ReSz r:=⟨by rw[←h.2];rfl,(by rw[←h.2];exact(show(0:Nat)<2^64∧bitsF 0=0 from⟨by decide,z1e⟩)),(by rw[←h.2];show(0:Nat)<2^64∧(0:Nat)<2^64;decide),h.1.2⟩
theorem z8X {op:Int} {r:ReM} (h:(setB r.ls=true∧(r.val<2^64∧bitsF r.val=r.val))∧(mkLV op) ((fun r=>(r.ls,r.val)) r)=r):ReSz r:=⟨by rw[←h.2];rfl,h.1.2,(by rw[←h.2];show(0:Nat)<2^64∧(0:Nat)<2^64;decide),(by rw[←h.2];show(0:Nat)<2^64∧(0:Nat)<2^64;decide)⟩
theorem z9Q {op:Int} {r:ReM} (h:(listB r.mt=true)∧(mkMt op) ((fun r=>r.mt) r)=r):ReSz r:=⟨by rw[←h.2];rfl,(by rw[←h.2];exact(show(0:Nat)<2^64∧bitsF 0=0 from⟨by decide,z1e⟩)),(by rw[←h.2];show(0:Nat)<2^64∧(0:Nat)<2^64;decide),(by rw[←h.2];show(0:Nat)<2^64∧(0:Nat)<2^64;decide)⟩
theorem z7B {b:Byt} {x:ReM} {t:Byt} (h:bodyR b=some (x,t)):mayR x=true:=by
 cases b with
 |nil=>cases h
 |cons c u =>
  have h:onlyR (clR (fOf (c.toNat:Int)).1 (c.toNat:Int)) mayR u=some (x,t):=h;simp only[onlyR]at h
  cases h3:clR (fOf (c.toNat:Int)).1 (c.toNat:Int) u with
  |none=>simp[h3]at h
  |some y =>
   simp only[h3,Option.bind_some]at h;split at h
   · rename_i hm;simp only[Option.some.injEq]at h;subst h;exact hm
   · cases h
theorem body_fits:Fits bodyR z1w (fun r=>mayR r=true∧ReSz r) where
 fwd r t h:=by
  obtain⟨hm,hs⟩:=h;have hok:=bd_ok hm;have hc:z1w r=z0k (fOf r.op).1 r:=by unfold z1w;rw[hm];rfl
  have hop:=z1q hok.op0 hok.op1
  have fin:∀(f:Int) (w:Byt),(fOf r.op).1=f→z0k f r=opC r.op::w→clR f r.op (w++t)=some (r,t)→bodyR (z1w r++t)=some (r,t):=by
   intro f w hf hw hcl;rw[hc,hf,hw];show onlyR (clR (fOf (((opC r.op).toNat:Nat):Int)).1 (((opC r.op).toNat:Nat):Int)) mayR (w++t)=some (r,t);rw[hop,hf];simp only[onlyR,hcl,Option.bind_some,hm,if_true]
  have hmem:=z4a r.op;generalize hf:(fOf r.op).1=f at hmem;simp only[List.mem_cons,List.not_mem_nil,or_false]at hmem;rcases hmem with rfl|rfl|rfl|rfl|rfl|rfl|rfl|rfl|rfl
  · exact fin _ _ hf (cls_0 hm hs hf).2 ((fit_0 r.op).fwd r t (cls_0 hm hs hf).1)
  · exact fin _ _ hf (cls_1 hm hs hf).2 ((fit_1 r.op).fwd r t (cls_1 hm hs hf).1)
  · exact fin _ _ hf (cls_3 hm hs hf).2 ((fit_3 r.op).fwd r t (cls_3 hm hs hf).1)
  · exact fin _ _ hf (z6o hm hs hf).2 ((z8P r.op).fwd r t (z6o hm hs hf).1)
  · exact fin _ _ hf (z6p hm hs hf).2 ((z8Q r.op).fwd r t (z6p hm hs hf).1)
  · exact fin _ _ hf (cls_8 hm hs hf).2 ((fit_8 r.op).fwd r t (cls_8 hm hs hf).1)
  · exact fin _ _ hf (z6q hm hs hf).2 ((z8R r.op).fwd r t (z6q hm hs hf).1)
  · exact fin _ _ hf (z6r hm hs hf).2 ((z8S r.op).fwd r t (z6r hm hs hf).1)
  · exact fin _ _ hf (z8T hm hs hf).2 ((zad r.op).fwd r t (z8T hm hs hf).1)
 bwd b r t h:=by
  have hm:=z7B h
  cases b with
  |nil=>cases h
  |cons c u =>
   have h:onlyR (clR (fOf (c.toNat:Int)).1 (c.toNat:Int)) mayR u=some (r,t):=h
   have h3:clR (fOf (c.toNat:Int)).1 (c.toNat:Int) u=some (r,t):=by
    simp only[onlyR]at h
    cases h3:clR (fOf (c.toNat:Int)).1 (c.toNat:Int) u with
    |none=>simp[h3]at h
    |some y =>
     simp only[h3,Option.bind_some]at h;split at h
     · exact h
     · cases h
   have hop:=zac h3;have hoc:opC r.op=c:=by rw[hop];exact z75 c
   have hc:z1w r=z0k (fOf r.op).1 r:=by unfold z1w;rw[hm];rfl
   rw[←hop]at h3
   have fin:∀(f:Int) (w:Byt),(fOf r.op).1=f→z0k f r=opC r.op::w→u=w++t→c::u=z1w r++t:=by
    intro f w hf hw hu;rw[hc,hf,hw,hoc,hu];rfl
   have hmem:=z4a r.op;generalize hf:(fOf r.op).1=f at hmem h3;simp only[List.mem_cons,List.not_mem_nil,or_false]at hmem;rcases hmem with rfl|rfl|rfl|rfl|rfl|rfl|rfl|rfl|rfl
   · have k:=(fit_0 r.op).bwd u r t h3;have s:=zaT k.1;exact⟨⟨hm,s⟩,fin _ _ hf (cls_0 hm s hf).2 k.2⟩
   · have k:=(fit_1 r.op).bwd u r t h3;have s:=zaU k.1;exact⟨⟨hm,s⟩,fin _ _ hf (cls_1 hm s hf).2 k.2⟩
   · have k:=(fit_3 r.op).bwd u r t h3;have s:=zaV k.1;exact⟨⟨hm,s⟩,fin _ _ hf (cls_3 hm s hf).2 k.2⟩
   · have k:=(z8P r.op).bwd u r t h3;have s:=z8U k.1;exact⟨⟨hm,s⟩,fin _ _ hf (z6o hm s hf).2 k.2⟩
   · have k:=(z8Q r.op).bwd u r t h3;have s:=z8V k.1;exact⟨⟨hm,s⟩,fin _ _ hf (z6p hm s hf).2 k.2⟩
   · have k:=(fit_8 r.op).bwd u r t h3;have s:=zaW k.1;exact⟨⟨hm,s⟩,fin _ _ hf (cls_8 hm s hf).2 k.2⟩
   · have k:=(z8R r.op).bwd u r t h3;have s:=z8W k.1;exact⟨⟨hm,s⟩,fin _ _ hf (z6q hm s hf).2 k.2⟩
   · have k:=(z8S r.op).bwd u r t h3;have s:=z8X k.1;exact⟨⟨hm,s⟩,fin _ _ hf (z6r hm s hf).2 k.2⟩
   · have k:=(zad r.op).bwd u r t h3;have s:=z9Q k.1;exact⟨⟨hm,s⟩,fin _ _ hf (z8T hm s hf).2 k.2⟩
structure RqSz (r:ReM):Prop where
 val:r.val<2^64∧bitsF r.val=r.val
 bd:r.lo<2^64∧r.hi<2^64
 ru:r.ru.lo<2^64∧r.ru.hi<2^64
def noTok (r:ReM):ReM:={ r with tok:=⟨#[]⟩ }
theorem z9R (r:ReM) (s:ByteArray):mayR { r with tok:=s }=mayR r:=rfl
theorem req_fits:Fits reqR z3q (fun r=>reIs r=true∧RqSz r):=by
 refine dress_fits (z0q (z21 (z1t (most:=16) (by decide)) tokB) body_fits) (g:=fun r=>(r.tok,noTok r)) (fun a h=>?_) (fun r h=>?_)
 · obtain⟨s,x⟩:=a;obtain⟨⟨h1,h2⟩,hm,hs⟩:=h;have hi:reIs { x with tok:=s }=true:=by unfold reIs;rw[z9R,hm];simp only[h2,Bool.and_self]
   refine⟨⟨hi,hs.val,hs.bd,hs.ru⟩,?_⟩;unfold z3q;rw[if_pos hi];rfl
 · obtain⟨hi,hs⟩:=h;obtain⟨t1,t2,hm⟩:=z73 hi;have ht:tokB r.tok=true:=by unfold reIs at hi;simp only[Bool.and_eq_true]at hi;exact hi.1
   exact⟨⟨⟨t1,ht⟩,hm,rfl,hs.val,hs.bd,hs.ru⟩,rfl⟩
def eqLb (x y:Lab):Bool:=x.1.toList==y.1.toList&&(x.2.toList==y.2.toList&&true)
def sameL (A B:List Lab):Bool:=decide (A.length=B.length)&&(List.range A.length).all fun i=>eqLb (A.getD i noLb) (B.getD i noLb)
structure SzA (r:ReM):Prop where
 val:r.val<2^64
 bd:r.lo<2^64∧r.hi<2^64
 ru:r.ru.lo<2^64∧r.ru.hi<2^64
theorem zaX {b:Byt} {x:ReM} {t:Byt} (h:reqR b=some (x,t)):b=z3q x++t∧reIs x=true∧RqSz x:=by
 have:=req_fits.bwd b x t h;exact⟨this.2,this.1.1,this.1.2⟩
theorem RqSz.a {x:ReM} (h:RqSz x):SzA x:=⟨h.val.1,h.bd,h.ru⟩
abbrev S0:ByteArray:=⟨#[45]⟩
theorem hn_0:(S0.toList==(⟨#[]⟩:ByteArray).toList)=false:=by decide +kernel
abbrev S1:ByteArray:=⟨#[73]⟩
theorem hn_1:(S1.toList==(⟨#[]⟩:ByteArray).toList)=false:=by decide +kernel
abbrev S3:ByteArray:=⟨#[73,84]⟩
theorem hn_3:(S3.toList==(⟨#[]⟩:ByteArray).toList)=false:=by decide +kernel
abbrev S116:ByteArray:=⟨#[83,69,77,66]⟩
theorem zbI:(S116.toList==(⟨#[]⟩:ByteArray).toList)=false:=by decide +kernel
abbrev S117:ByteArray:=⟨#[73,83,69,77,66]⟩
theorem zbJ:(S117.toList==(⟨#[]⟩:ByteArray).toList)=false:=by decide +kernel
abbrev S8:ByteArray:=⟨#[90]⟩
theorem hn_8:(S8.toList==(⟨#[]⟩:ByteArray).toList)=false:=by decide +kernel
abbrev S128:ByteArray:=⟨#[82]⟩
theorem zbK:(S128.toList==(⟨#[]⟩:ByteArray).toList)=false:=by decide +kernel
abbrev S768:ByteArray:=⟨#[76,86]⟩
theorem zbL:(S768.toList==(⟨#[]⟩:ByteArray).toList)=false:=by decide +kernel
abbrev S16:ByteArray:=⟨#[77]⟩
theorem hn_16:(S16.toList==(⟨#[]⟩:ByteArray).toList)=false:=by decide +kernel
attribute [go_sem] Bool.not_false Bool.not_true hn_0 hn_1 hn_3 zbI zbJ hn_8 zbK zbL hn_16
end Go.Proofs.Ytmkmhhjkdaklbaa
namespace Go.Ab
open Go
theorem L.step {P:Program} {n0:Nat} {clr:List Tmp} {x:ACode} {k:List Fr} {B:Bs} {env:Env} {σ:St}
  (h:∀J:Env→St→Prop,(∀env σ,L P n0 clr x k B env σ→J env σ)→R P n0 x (.loop J clr::k) B env σ):L P n0 clr x k B env σ:=by
 unfold L;intro I hI;refine hI _ _ (h I fun env' σ' hl=>?_)
 unfold L at hl;exact hl I hI
end Go.Ab
namespace Go.Proofs.Ytmkmhhjkdaklbaa
open Go Go.Ab Go.Cod
set_option maxRecDepth 100000
section
variable (σ:St) (p:Nat) (b:Byt) (hb:b.length≤50000)
include hb in
end
end Go.Proofs.Ytmkmhhjkdaklbaa
namespace Go.Proofs.Ytmkmhhjkdaklbaa
open Go Go.Ab Go.Cod
set_option maxRecDepth 100000
theorem sz_0:((S0.size:Nat):Int)=1:=rfl
theorem ds_0:(S0.toList==(⟨#[45]⟩:ByteArray).toList)=true:=by decide +kernel
theorem sz_1:((S1.size:Nat):Int)=1:=rfl
theorem ds_1:(S1.toList==(⟨#[45]⟩:ByteArray).toList)=false:=by decide +kernel
theorem sz_3:((S3.size:Nat):Int)=2:=rfl
theorem ds_3:(S3.toList==(⟨#[45]⟩:ByteArray).toList)=false:=by decide +kernel
theorem zbM:((S116.size:Nat):Int)=4:=rfl
theorem zbN:(S116.toList==(⟨#[45]⟩:ByteArray).toList)=false:=by decide +kernel
theorem zbO:((S117.size:Nat):Int)=5:=rfl
theorem zbP:(S117.toList==(⟨#[45]⟩:ByteArray).toList)=false:=by decide +kernel
theorem sz_8:((S8.size:Nat):Int)=1:=rfl
theorem ds_8:(S8.toList==(⟨#[45]⟩:ByteArray).toList)=false:=by decide +kernel
theorem zbQ:((S128.size:Nat):Int)=1:=rfl
theorem zbR:(S128.toList==(⟨#[45]⟩:ByteArray).toList)=false:=by decide +kernel
theorem zbS:((S768.size:Nat):Int)=2:=rfl
theorem zbT:(S768.toList==(⟨#[45]⟩:ByteArray).toList)=false:=by decide +kernel
theorem sz_16:((S16.size:Nat):Int)=1:=rfl
theorem ds_16:(S16.toList==(⟨#[45]⟩:ByteArray).toList)=false:=by decide +kernel
theorem wk0:IntKind.i64.wrap 0=0:=rfl
theorem zk0:Int.toNat 0=0:=rfl
theorem wk1:IntKind.i64.wrap 1=1:=rfl
theorem zk1:Int.toNat 1=1:=rfl
theorem wk2:IntKind.i64.wrap 2=2:=rfl
theorem zk2:Int.toNat 2=2:=rfl
theorem wk3:IntKind.i64.wrap 3=3:=rfl
theorem zk3:Int.toNat 3=3:=rfl
theorem wk4:IntKind.i64.wrap 4=4:=rfl
theorem zk4:Int.toNat 4=4:=rfl
theorem wk5:IntKind.i64.wrap 5=5:=rfl
theorem zk5:Int.toNat 5=5:=rfl
attribute [go_sem] wk0 wk1 wk2 wk3 wk4 wk5 zk0 zk1 zk2 zk3 zk4 zk5 z05 z3v z3w z0U g0 g1 s0 s1 Int.le_refl sz_0 ds_0 sz_1 ds_1 sz_3 ds_3 zbM zbN zbO zbP sz_8 ds_8 zbQ zbR zbS zbT sz_16 ds_16
theorem z4c {α:Type} {o:Option (α×Byt)} {x:α} (h:wholeO o=some x):o=some (x,[]):=by
 unfold wholeO at h;split at h
 · simp only[Option.some.injEq]at h;rw[h]
 · cases h
theorem z9S {b:Byt} {x:ReM} (h:wholeO (bodyR b)=some x):z1w x=b∧x.tok=⟨#[]⟩:=by
 have:=body_fits.bwd b x [] (z4c h);rw[List.append_nil]at this;exact⟨this.2.symm,this.1.2.tok⟩
theorem z7C (b:Byt):Ans Try.prog 3 [.sl 1 (byv b)] [] (.pl (.bool true)) []:=by
 have d8:decide ((800:Int)<b.length)=decide (800<b.length):=decNN 800 _;refine Ans.of_run t3 ?_;by_cases h8:800<b.length
 · rw[decide_eq_true h8]at d8;simp -implicitDefEqProofs only[c3,r3,go_sem,z05,d8];refine CO.intro (rq_b _) ?_;simp -implicitDefEqProofs only[go_sem];exact Fini.ret rfl
 rw[decide_eq_false h8]at d8;have q1:=fun s=>z2N s b (by omega)
 have q2:=fun s=>z5R s b (by omega)
 have hbb:((⟨b.toArray⟩:ByteArray).toList != (⟨b.toArray⟩:ByteArray).toList)=false:=by simp
 have hee:(((⟨#[]⟩:ByteArray).toList) != (ByteArray.mk #[]).toList)=false:=by simp
 have e1:(true != true)=false:=rfl;have e2:(false != false)=false:=rfl;have e3:((0:Int) != 0)=false:=rfl
 obtain⟨x1,k1,hv1,hi1,hp1⟩:∃(x:ReM) (ok:Bool),z1I (wholeO (reqR b))=.tup [reV x,Bo ok]∧reIs x=ok∧(ok=true→z3q x=b):=by
  cases h:wholeO (reqR b) with
  |none=>exact⟨noRe,false,rfl,by kernel_rfl,fun h=>by cases h⟩
  |some x =>
   obtain⟨h1,h2,_⟩:=zaX (z4c h);rw[List.append_nil]at h1;exact⟨x,true,rfl,h2,fun _=>h1.symm⟩
 obtain⟨x2,k2,hv2,hp2⟩:∃(x:ReM) (ok:Bool),z1I (wholeO (bodyR b))=.tup [reV x,Bo ok]∧((ok=true∧z1w x=b∧x.tok=⟨#[]⟩)∨(ok=false∧x.op=0)):=by
  cases h:wholeO (bodyR b) with
  |none=>exact⟨noRe,false,rfl,.inr ⟨rfl,rfl⟩⟩
  |some x=>exact⟨x,true,rfl,.inl ⟨rfl,z9S h⟩⟩
 rw[hv1]at q1;rw[hv2]at q2;have p1:=fun s=>z52 s x1
 rw[hi1]at p1;have p2:=fun s=>z3r s x1
 have p3:=fun s=>z54 s x2
 have e0:(k1 != k1)=false:=by cases k1<;>rfl
 unfold reV reC at *;simp -implicitDefEqProofs only[c3,r3,go_sem,z05,d8];refine CO.intro (q1 _) ?_;simp -implicitDefEqProofs only[go_sem];refine CO.intro (q2 _) ?_;simp -implicitDefEqProofs only[go_sem];refine CD.intro (p1 _) ?_
 cases hk1:k1 with
 |true =>
  rw[hp1 hk1]at p2;simp -implicitDefEqProofs only[go_sem,e1];refine CD.intro (p2 _) ?_;simp -implicitDefEqProofs only[go_sem,z0I,bc,z1u,z1j,AV.isStr,hbb];rcases hp2 with⟨rfl,h1,h2⟩|⟨rfl,h1⟩
  · rw[h1]at p3;rw[h2]at p3;simp -implicitDefEqProofs only[go_sem,h2];refine CD.intro (p3 _) ?_;simp -implicitDefEqProofs only[go_sem,z0I,bc,z1u,z1j,AV.isStr,hbb,hee];refine CO.intro (rq_b _) ?_;simp -implicitDefEqProofs only[go_sem];exact Fini.ret rfl
  · simp -implicitDefEqProofs only[go_sem,h1,e3];refine CO.intro (rq_b _) ?_;simp -implicitDefEqProofs only[go_sem];exact Fini.ret rfl
 |false =>
  simp -implicitDefEqProofs only[go_sem,e2];rcases hp2 with⟨rfl,h1,h2⟩|⟨rfl,h1⟩
  · rw[h1]at p3;rw[h2]at p3;simp -implicitDefEqProofs only[go_sem,h2,z0I,bc,z1u,z1j,AV.isStr];refine CD.intro (p3 _) ?_;simp -implicitDefEqProofs only[go_sem,z0I,bc,z1u,z1j,AV.isStr,hbb,hee];refine CO.intro (rq_b _) ?_;simp -implicitDefEqProofs only[go_sem];exact Fini.ret rfl
  · simp -implicitDefEqProofs only[go_sem,h1,e3];refine CO.intro (rq_b _) ?_;simp -implicitDefEqProofs only[go_sem];exact Fini.ret rfl
end Go.Proofs.Ytmkmhhjkdaklbaa
