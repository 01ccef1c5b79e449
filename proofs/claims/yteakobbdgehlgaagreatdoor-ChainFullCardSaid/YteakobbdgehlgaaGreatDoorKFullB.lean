/- What req.read reads, at some of the field sets. Printed by a program. No condition. -/
import Derived.Test.YteakobbdgehlgaaGreatDoorKRq5aB
import Derived.Test.YteakobbdgehlgaaGreatDoorKShB3B
import Derived.Test.YteakobbdgehlgaaGreatDoorKXVi1B
import Derived.Test.YteakobbdgehlgaaGreatDoorKXPPar5B
import Derived.Test.YteakobbdgehlgaaGreatDoorKXMr2B
import Derived.Test.YteakobbdgehlgaaGreatDoorRows
import Derived.Test.YteakobbdgehlgaaGreatDoorAbArgB
import Derived.Test.YteakobbdgehlgaaGreatDoorAbGloB
set_option linter.unusedSimpArgs false
set_option linter.unusedVariables false
set_option linter.unusedSectionVars false
namespace Go.Proofs.YteakobbdgehlgaaGreatDoor
open Go Go.Ab Go.Cod
set_option maxRecDepth 100000
section
variable (A:Nat×Bool→St) (n p:Nat) (b:Byt) (hn:∀q,(A q).length=n) (hg:∀q,(A q)[p]?=some (rob b q)) (hs:∀q q',(A q).set p (rob b q')=A q') (hb:b.length≤50000)
include hn hg hs hb
set_option maxHeartbeats 8000000 in
theorem z9Z (q:Nat×Bool) (hq:Inb b q) (c:UInt8) (q1:Nat×Bool) (hc:runR byteR 0 b q=(c,q1)) (ok:Bool) (hf:fOf (c.toNat:Int)=(116,ok)) :
  Ans Tryz.prog 102 [.ptr p 0] (A q) (reV (bodyS b q).1) (A (bodyS b q).2):=by
 obtain⟨hgA,hsA,gs⟩:=rd_facts A n p b hn hg hs q;have k0:=z0G (A q++[B19]) p b q (hgA _ _) hq hb;have hin1:=z08 byteR 0 b q hq
 have hbS:bodyS b q=z0o (fun q1=>clS 116 (c.toNat:Int) b (took q1 0 ok)) mayR q1:=by
  unfold bodyS;rw[hc];simp only[hf]
 rw[hc]at k0 hin1;rw[hbS];simp only at k0 hin1;rw[hsA]at k0;have k1:=z0H (A q1++[B19,.box (XC116 c (UN 0) (UN 0) .nils (Bo false) (Fl 0) (Fl 0))]) (c.toNat:Int);rw[hf]at k1;have k2:=z06 (A q1++[B19,.box (XC116 c (UN 0) (UN 0) .nils (Bo false) (Fl 0) (Fl 0))]) p b q1 ok (hgA _ _) hin1 hb;rw[hsA]at k2;have hin2:=z0J b q1 ok hin1;unfold z0o;simp only;generalize took q1 0 ok=q2 at k2 hin2⊢;have wc:IntKind.i64.wrap (c.toNat:Int)=(c.toNat:Int):=wrapI (by have:=c.toNat_lt;omega)
 have hcl:clS 116 (c.toNat:Int) b q2=(mk116 (c.toNat:Int) ((runR (numR 1099511627776) 0 b q2).1,(runR (numR 1099511627776) 0 b (runR (numR 1099511627776) 0 b q2).2).1,(runR listR [] b (runR (numR 1099511627776) 0 b (runR (numR 1099511627776) 0 b q2).2).2).1,(runR bandR (false,0,0) b (runR listR [] b (runR (numR 1099511627776) 0 b (runR (numR 1099511627776) 0 b q2).2).2).2).1),(runR bandR (false,0,0) b (runR listR [] b (runR (numR 1099511627776) 0 b (runR (numR 1099511627776) 0 b q2).2).2).2).2):=rfl;rw[hcl];simp only;have k3:=z1G (A q2++[B19,.box (XC116 c (UN 0) (UN 0) .nils (Bo false) (Fl 0) (Fl 0))]) p b q2 1099511627776 (by decide) (hgA _ _) hin2 hb
 rw[hsA]at k3;have hin3:=z08 (numR 1099511627776) 0 b q2 hin2;have le0:=z1J (most:=1099511627776) b q2;generalize runR (numR 1099511627776) 0 b q2=w0 at k3 hin3 le0⊢;obtain⟨v0,q3⟩:=w0;simp only at k3 hin3 le0⊢;have k4:=z1G (A q3++[B19,.box (XC116 c (UN 0) (UN 0) .nils (Bo false) (Fl 0) (Fl 0))]) p b q3 1099511627776 (by decide) (hgA _ _) hin3 hb
 rw[hsA]at k4;have hin4:=z08 (numR 1099511627776) 0 b q3 hin3;have le1:=z1J (most:=1099511627776) b q3;generalize runR (numR 1099511627776) 0 b q3=w1 at k4 hin4 le1⊢;obtain⟨v1,q4⟩:=w1;simp only at k4 hin4 le1⊢;have k5:=z5H (A q4++[B19,.box (XC116 c (UN v0) (UN v1) .nils (Bo false) (Fl 0) (Fl 0))]) p b q4 (hgA _ _) hin4 hb;rw[hsA]at k5;have hin5:=z08 listR [] b q4 hin4;generalize runR listR [] b q4=w2 at k5 hin5⊢;obtain⟨v2,q5⟩:=w2;simp only at k5 hin5⊢;have k6:=z8N (A q5++[B19,.box (XC116 c (UN v0) (UN v1) (mlV v2) (Bo false) (Fl 0) (Fl 0))]) p b q5 (hgA _ _) hin5 hb;rw[hsA]at k6;have hin6:=z08 bandR (false,0,0) b q5 hin5;generalize runR bandR (false,0,0) b q5=w3 at k6 hin6⊢;obtain⟨v3,q6⟩:=w3;simp only at k6 hin6⊢;obtain⟨ba,bl,bh⟩:=v3;unfold bandV at k6;simp only at k6⊢;have hsub:Sub (.agg (XC116 c (UN v0) (UN v1) (mlV v2) (Bo ba) (Fl bl) (Fl bh))) (reV (mk116 (c.toNat:Int) (v0,v1,v2,(ba,bl,bh)))):=.agg (.cons (.refl _) <| .cons (.refl _) <| .cons (.refl _) <| .cons (.refl _) <| .cons (.refl _) <| .cons (.refl _) <| .cons (.refl _) <| .cons (.refl _) <| .cons (.refl _) <| .cons (.refl _) <| .cons (.refl _) <| .cons (.nils 3) <| .cons (.nils 3) <| .cons (.refl _) <| .cons (.refl _) <| .cons (.refl _) <| .cons (.nils 1) <| .cons (.nils 2) <| .cons (.refl _) <| .nil);have km:=(z1m (A q6++[B19,.box (XC116 c (UN v0) (UN v1) (mlV v2) (Bo ba) (Fl bl) (Fl bh))]) (mk116 (c.toNat:Int) (v0,v1,v2,(ba,bl,bh)))).subA (.cons hsub .nil)
 have ke:=z06 (A q6++[B19,.box (XC116 c (UN v0) (UN v1) (mlV v2) (Bo ba) (Fl bl) (Fl bh))]) p b q6 (mayR (mk116 (c.toNat:Int) (v0,v1,v2,(ba,bl,bh)))) (hgA _ _) hin6 hb;rw[hsA]at ke;generalize mayR (mk116 (c.toNat:Int) (v0,v1,v2,(ba,bl,bh)))=okm at km ke⊢;generalize took q6 0 okm=qe at ke⊢;refine Ans.subR ?_ hsub;refine Ans.of_run' t102 (fun hbel _=>?_)
 simp -implicitDefEqProofs only[c102,r102,go_sem,hgA,hsA,gs,hn,ap4];refine CO.intro k0 ?_;simp -implicitDefEqProofs only[go_sem,bc,wc,hgA,hsA,gs,hn,ap4];refine CO.intro k1 ?_;simp -implicitDefEqProofs only[go_sem];refine CO.intro k2 ?_;simp -implicitDefEqProofs only[go_sem,bc,hgA,hsA,gs,hn,ap4];refine CO.intro k3 ?_;simp -implicitDefEqProofs only[go_sem,bc,hgA,hsA,gs,hn,ap4];refine CO.intro k4 ?_;simp -implicitDefEqProofs only[go_sem,bc,hgA,hsA,gs,hn,ap4];refine CO.intro k5 ?_;simp -implicitDefEqProofs only[go_sem,bc,hgA,hsA,gs,hn,ap4];refine CO.intro k6 ?_;simp -implicitDefEqProofs only[go_sem,bc,hgA,hsA,gs,hn,ap4];refine CO.intro km ?_;simp -implicitDefEqProofs only[go_sem];refine CO.intro ke ?_;simp -implicitDefEqProofs only[go_sem,hgA,hsA,gs,hn,ap4]
 have hbl:Bel (A qe).length (.agg (XC116 c (UN v0) (UN v1) (mlV v2) (Bo ba) (Fl bl) (Fl bh))):=.agg _ (fun i hi=>by
  have:∀y∈(XC116 c (UN v0) (UN v1) (mlV v2) (Bo ba) (Fl bl) (Fl bh):List AV),Bel (A qe).length y:=by
   intro y hy;simp only[List.mem_cons,List.not_mem_nil,or_false]at hy;rcases hy with rfl|rfl|rfl|rfl|rfl|rfl|rfl|rfl|rfl|rfl|rfl|rfl|rfl|rfl|rfl|rfl|rfl|rfl|rfl
   all_goals first|exact .pl _|exact .nils|exact z0K _ _|exact z1s _ _|exact z0X _ _
  exact this _ (List.getElem_mem hi))
 exact Fini.trim2 (σ':=A qe) (ex:=[_,_]) (by simp -implicitDefEqProofs only[go_sem,resA,z03,rvA,oneOf,gs]<;>rfl) rfl (Nat.le_of_eq (by simp only[hn])) hbl (fun o ho=>by
  rw[←hs q qe]at ho;rw[hn];rw[hn]at hbel
  exact z1j (o:=rob b qe) hbel (z21 _ _) o ho)
set_option maxHeartbeats 8000000 in
theorem za0 (q:Nat×Bool) (hq:Inb b q) (c:UInt8) (q1:Nat×Bool) (hc:runR byteR 0 b q=(c,q1)) (ok:Bool) (hf:fOf (c.toNat:Int)=(117,ok)) :
  Ans Tryz.prog 102 [.ptr p 0] (A q) (reV (bodyS b q).1) (A (bodyS b q).2):=by
 obtain⟨hgA,hsA,gs⟩:=rd_facts A n p b hn hg hs q;have k0:=z0G (A q++[B19]) p b q (hgA _ _) hq hb;have hin1:=z08 byteR 0 b q hq
 have hbS:bodyS b q=z0o (fun q1=>clS 117 (c.toNat:Int) b (took q1 0 ok)) mayR q1:=by
  unfold bodyS;rw[hc];simp only[hf]
 rw[hc]at k0 hin1;rw[hbS];simp only at k0 hin1;rw[hsA]at k0;have k1:=z0H (A q1++[B19,.box (XC117 c (I 0) (UN 0) (UN 0) .nils (Bo false) (Fl 0) (Fl 0))]) (c.toNat:Int);rw[hf]at k1;have k2:=z06 (A q1++[B19,.box (XC117 c (I 0) (UN 0) (UN 0) .nils (Bo false) (Fl 0) (Fl 0))]) p b q1 ok (hgA _ _) hin1 hb;rw[hsA]at k2;have hin2:=z0J b q1 ok hin1;unfold z0o;simp only;generalize took q1 0 ok=q2 at k2 hin2⊢;have wc:IntKind.i64.wrap (c.toNat:Int)=(c.toNat:Int):=wrapI (by have:=c.toNat_lt;omega)
 have hcl:clS 117 (c.toNat:Int) b q2=(mk117 (c.toNat:Int) ((runR (numR 2147483647) 0 b q2).1,(runR (numR 1099511627776) 0 b (runR (numR 2147483647) 0 b q2).2).1,(runR (numR 1099511627776) 0 b (runR (numR 1099511627776) 0 b (runR (numR 2147483647) 0 b q2).2).2).1,(runR listR [] b (runR (numR 1099511627776) 0 b (runR (numR 1099511627776) 0 b (runR (numR 2147483647) 0 b q2).2).2).2).1,(runR bandR (false,0,0) b (runR listR [] b (runR (numR 1099511627776) 0 b (runR (numR 1099511627776) 0 b (runR (numR 2147483647) 0 b q2).2).2).2).2).1),(runR bandR (false,0,0) b (runR listR [] b (runR (numR 1099511627776) 0 b (runR (numR 1099511627776) 0 b (runR (numR 2147483647) 0 b q2).2).2).2).2).2):=rfl;rw[hcl];simp only;have k3:=z1G (A q2++[B19,.box (XC117 c (I 0) (UN 0) (UN 0) .nils (Bo false) (Fl 0) (Fl 0))]) p b q2 2147483647 (by decide) (hgA _ _) hin2 hb
 rw[hsA]at k3;have hin3:=z08 (numR 2147483647) 0 b q2 hin2;have le0:=z1J (most:=2147483647) b q2;generalize runR (numR 2147483647) 0 b q2=w0 at k3 hin3 le0⊢;obtain⟨v0,q3⟩:=w0;simp only at k3 hin3 le0⊢;have wv0:IntKind.i64.wrap (v0:Int)=(v0:Int):=wrapI (by omega)
 have k4:=z1G (A q3++[B19,.box (XC117 c (I (v0:Nat)) (UN 0) (UN 0) .nils (Bo false) (Fl 0) (Fl 0))]) p b q3 1099511627776 (by decide) (hgA _ _) hin3 hb
 rw[hsA]at k4;have hin4:=z08 (numR 1099511627776) 0 b q3 hin3;have le1:=z1J (most:=1099511627776) b q3;generalize runR (numR 1099511627776) 0 b q3=w1 at k4 hin4 le1⊢;obtain⟨v1,q4⟩:=w1;simp only at k4 hin4 le1⊢;have k5:=z1G (A q4++[B19,.box (XC117 c (I (v0:Nat)) (UN 0) (UN 0) .nils (Bo false) (Fl 0) (Fl 0))]) p b q4 1099511627776 (by decide) (hgA _ _) hin4 hb
 rw[hsA]at k5;have hin5:=z08 (numR 1099511627776) 0 b q4 hin4;have le2:=z1J (most:=1099511627776) b q4;generalize runR (numR 1099511627776) 0 b q4=w2 at k5 hin5 le2⊢;obtain⟨v2,q5⟩:=w2;simp only at k5 hin5 le2⊢;have k6:=z5H (A q5++[B19,.box (XC117 c (I (v0:Nat)) (UN v1) (UN v2) .nils (Bo false) (Fl 0) (Fl 0))]) p b q5 (hgA _ _) hin5 hb;rw[hsA]at k6;have hin6:=z08 listR [] b q5 hin5;generalize runR listR [] b q5=w3 at k6 hin6⊢;obtain⟨v3,q6⟩:=w3;simp only at k6 hin6⊢;have k7:=z8N (A q6++[B19,.box (XC117 c (I (v0:Nat)) (UN v1) (UN v2) (mlV v3) (Bo false) (Fl 0) (Fl 0))]) p b q6 (hgA _ _) hin6 hb;rw[hsA]at k7;have hin7:=z08 bandR (false,0,0) b q6 hin6;generalize runR bandR (false,0,0) b q6=w4 at k7 hin7⊢;obtain⟨v4,q7⟩:=w4;simp only at k7 hin7⊢;obtain⟨ba,bl,bh⟩:=v4;unfold bandV at k7;simp only at k7⊢;have hsub:Sub (.agg (XC117 c (I (v0:Nat)) (UN v1) (UN v2) (mlV v3) (Bo ba) (Fl bl) (Fl bh))) (reV (mk117 (c.toNat:Int) (v0,v1,v2,v3,(ba,bl,bh)))):=.agg (.cons (.refl _) <| .cons (.refl _) <| .cons (.refl _) <| .cons (.refl _) <| .cons (.refl _) <| .cons (.refl _) <| .cons (.refl _) <| .cons (.refl _) <| .cons (.refl _) <| .cons (.refl _) <| .cons (.refl _) <| .cons (.nils 3) <| .cons (.nils 3) <| .cons (.refl _) <| .cons (.refl _) <| .cons (.refl _) <| .cons (.nils 1) <| .cons (.nils 2) <| .cons (.refl _) <| .nil);have km:=(z1m (A q7++[B19,.box (XC117 c (I (v0:Nat)) (UN v1) (UN v2) (mlV v3) (Bo ba) (Fl bl) (Fl bh))]) (mk117 (c.toNat:Int) (v0,v1,v2,v3,(ba,bl,bh)))).subA (.cons hsub .nil)
 have ke:=z06 (A q7++[B19,.box (XC117 c (I (v0:Nat)) (UN v1) (UN v2) (mlV v3) (Bo ba) (Fl bl) (Fl bh))]) p b q7 (mayR (mk117 (c.toNat:Int) (v0,v1,v2,v3,(ba,bl,bh)))) (hgA _ _) hin7 hb;rw[hsA]at ke;generalize mayR (mk117 (c.toNat:Int) (v0,v1,v2,v3,(ba,bl,bh)))=okm at km ke⊢;generalize took q7 0 okm=qe at ke⊢;refine Ans.subR ?_ hsub;refine Ans.of_run' t102 (fun hbel _=>?_)
 simp -implicitDefEqProofs only[c102,r102,go_sem,hgA,hsA,gs,hn,ap4];refine CO.intro k0 ?_;simp -implicitDefEqProofs only[go_sem,bc,wc,hgA,hsA,gs,hn,ap4];refine CO.intro k1 ?_;simp -implicitDefEqProofs only[go_sem];refine CO.intro k2 ?_;simp -implicitDefEqProofs only[go_sem,bc,hgA,hsA,gs,hn,ap4];refine CO.intro k3 ?_;simp -implicitDefEqProofs only[go_sem,bc,wv0,hgA,hsA,gs,hn,ap4];refine CO.intro k4 ?_;simp -implicitDefEqProofs only[go_sem,bc,wv0,hgA,hsA,gs,hn,ap4];refine CO.intro k5 ?_;simp -implicitDefEqProofs only[go_sem,bc,wv0,hgA,hsA,gs,hn,ap4];refine CO.intro k6 ?_;simp -implicitDefEqProofs only[go_sem,bc,wv0,hgA,hsA,gs,hn,ap4];refine CO.intro k7 ?_;simp -implicitDefEqProofs only[go_sem,bc,wv0,hgA,hsA,gs,hn,ap4];refine CO.intro km ?_;simp -implicitDefEqProofs only[go_sem];refine CO.intro ke ?_;simp -implicitDefEqProofs only[go_sem,hgA,hsA,gs,hn,ap4]
 have hbl:Bel (A qe).length (.agg (XC117 c (I (v0:Nat)) (UN v1) (UN v2) (mlV v3) (Bo ba) (Fl bl) (Fl bh))):=.agg _ (fun i hi=>by
  have:∀y∈(XC117 c (I (v0:Nat)) (UN v1) (UN v2) (mlV v3) (Bo ba) (Fl bl) (Fl bh):List AV),Bel (A qe).length y:=by
   intro y hy;simp only[List.mem_cons,List.not_mem_nil,or_false]at hy;rcases hy with rfl|rfl|rfl|rfl|rfl|rfl|rfl|rfl|rfl|rfl|rfl|rfl|rfl|rfl|rfl|rfl|rfl|rfl|rfl
   all_goals first|exact .pl _|exact .nils|exact z0K _ _|exact z1s _ _|exact z0X _ _
  exact this _ (List.getElem_mem hi))
 exact Fini.trim2 (σ':=A qe) (ex:=[_,_]) (by simp -implicitDefEqProofs only[go_sem,resA,z03,rvA,oneOf,gs]<;>rfl) rfl (Nat.le_of_eq (by simp only[hn])) hbl (fun o ho=>by
  rw[←hs q qe]at ho;rw[hn];rw[hn]at hbel
  exact z1j (o:=rob b qe) hbel (z21 _ _) o ho)
end
section
variable (A:Nat×Bool→St) (n p:Nat) (b:Byt) (hn:∀q,(A q).length=n) (hg:∀q,(A q)[p]?=some (rob b q)) (hs:∀q q',(A q).set p (rob b q')=A q') (hb:b.length≤50000)
include hn hg hs hb
set_option maxHeartbeats 8000000 in
theorem zcp (q:Nat×Bool) (hq:Inb b q) (c:UInt8) (q1:Nat×Bool) (hc:runR byteR 0 b q=(c,q1)) (ok:Bool) (hf:fOf (c.toNat:Int)=(8,ok)) :
  Ans Tryz.prog 102 [.ptr p 0] (A q) (reV (bodyS b q).1) (A (bodyS b q).2):=by
 obtain⟨hgA,hsA,gs⟩:=rd_facts A n p b hn hg hs q;have k0:=z0G (A q++[B19]) p b q (hgA _ _) hq hb;have hin1:=z08 byteR 0 b q hq
 have hbS:bodyS b q=z0o (fun q1=>clS 8 (c.toNat:Int) b (took q1 0 ok)) mayR q1:=by
  unfold bodyS;rw[hc];simp only[hf]
 rw[hc]at k0 hin1;rw[hbS];simp only at k0 hin1;rw[hsA]at k0;have k1:=z0H (A q1++[B19,.box (XC8 c (I 0))]) (c.toNat:Int);rw[hf]at k1;have k2:=z06 (A q1++[B19,.box (XC8 c (I 0))]) p b q1 ok (hgA _ _) hin1 hb;rw[hsA]at k2;have hin2:=z0J b q1 ok hin1;unfold z0o;simp only;generalize took q1 0 ok=q2 at k2 hin2⊢;have wc:IntKind.i64.wrap (c.toNat:Int)=(c.toNat:Int):=wrapI (by have:=c.toNat_lt;omega)
 have hcl:clS 8 (c.toNat:Int) b q2=({ x0 (c.toNat:Int) with sta:=((((runR byteR 0 b q2).1).toNat:Nat):Int) },(runR byteR 0 b q2).2):=rfl
 rw[hcl];simp only;have k3:=z0G (A q2++[B19,.box (XC8 c (I 0))]) p b q2 (hgA _ _) hin2 hb;rw[hsA]at k3;have hin3:=z08 byteR 0 b q2 hin2;generalize runR byteR 0 b q2=w0 at k3 hin3⊢;obtain⟨v0,q3⟩:=w0;simp only at k3 hin3⊢;have wv0:IntKind.i64.wrap (v0.toNat:Int)=(v0.toNat:Int):=wrapI (by have:=v0.toNat_lt;omega)
 have hsub:Sub (.agg (XC8 c (I (v0.toNat:Nat)))) (reV ({ x0 (c.toNat:Int) with sta:=(((v0).toNat:Nat):Int) })):=.agg (.cons (.refl _) <| .cons (.refl _) <| .cons (.refl _) <| .cons (.refl _) <| .cons (.refl _) <| .cons (.refl _) <| .cons (.refl _) <| .cons (.nils 3) <| .cons (.refl _) <| .cons (.refl _) <| .cons (.refl _) <| .cons (.nils 3) <| .cons (.nils 3) <| .cons (.refl _) <| .cons (.refl _) <| .cons (.refl _) <| .cons (.nils 1) <| .cons (.nils 2) <| .cons (.refl _) <| .nil)
 have km:=(z1m (A q3++[B19,.box (XC8 c (I (v0.toNat:Nat)))]) ({ x0 (c.toNat:Int) with sta:=(((v0).toNat:Nat):Int) })).subA (.cons hsub .nil)
 have ke:=z06 (A q3++[B19,.box (XC8 c (I (v0.toNat:Nat)))]) p b q3 (mayR ({ x0 (c.toNat:Int) with sta:=(((v0).toNat:Nat):Int) })) (hgA _ _) hin3 hb
 rw[hsA]at ke;generalize mayR ({ x0 (c.toNat:Int) with sta:=(((v0).toNat:Nat):Int) })=okm at km ke⊢
 generalize took q3 0 okm=qe at ke⊢;refine Ans.subR ?_ hsub;refine Ans.of_run' t102 (fun hbel _=>?_)
 simp -implicitDefEqProofs only[c102,r102,go_sem,hgA,hsA,gs,hn,ap4];refine CO.intro k0 ?_;simp -implicitDefEqProofs only[go_sem,bc,wc,hgA,hsA,gs,hn,ap4];refine CO.intro k1 ?_;simp -implicitDefEqProofs only[go_sem];refine CO.intro k2 ?_;simp -implicitDefEqProofs only[go_sem,bc,hgA,hsA,gs,hn,ap4];refine CO.intro k3 ?_;simp -implicitDefEqProofs only[go_sem,bc,wv0,hgA,hsA,gs,hn,ap4];refine CO.intro km ?_;simp -implicitDefEqProofs only[go_sem];refine CO.intro ke ?_;simp -implicitDefEqProofs only[go_sem,hgA,hsA,gs,hn,ap4]
 have hbl:Bel (A qe).length (.agg (XC8 c (I (v0.toNat:Nat)))):=.agg _ (fun i hi=>by
  have:∀y∈(XC8 c (I (v0.toNat:Nat)):List AV),Bel (A qe).length y:=by
   intro y hy;simp only[List.mem_cons,List.not_mem_nil,or_false]at hy;rcases hy with rfl|rfl|rfl|rfl|rfl|rfl|rfl|rfl|rfl|rfl|rfl|rfl|rfl|rfl|rfl|rfl|rfl|rfl|rfl
   all_goals first|exact .pl _|exact .nils|exact z0K _ _|exact z1s _ _|exact z0X _ _
  exact this _ (List.getElem_mem hi))
 exact Fini.trim2 (σ':=A qe) (ex:=[_,_]) (by simp -implicitDefEqProofs only[go_sem,resA,z03,rvA,oneOf,gs]<;>rfl) rfl (Nat.le_of_eq (by simp only[hn])) hbl (fun o ho=>by
  rw[←hs q qe]at ho;rw[hn];rw[hn]at hbel
  exact z1j (o:=rob b qe) hbel (z21 _ _) o ho)
set_option maxHeartbeats 8000000 in
theorem za1 (q:Nat×Bool) (hq:Inb b q) (c:UInt8) (q1:Nat×Bool) (hc:runR byteR 0 b q=(c,q1)) (ok:Bool) (hf:fOf (c.toNat:Int)=(128,ok)) :
  Ans Tryz.prog 102 [.ptr p 0] (A q) (reV (bodyS b q).1) (A (bodyS b q).2):=by
 obtain⟨hgA,hsA,gs⟩:=rd_facts A n p b hn hg hs q;have k0:=z0G (A q++[B19]) p b q (hgA _ _) hq hb;have hin1:=z08 byteR 0 b q hq
 have hbS:bodyS b q=z0o (fun q1=>clS 128 (c.toNat:Int) b (took q1 0 ok)) mayR q1:=by
  unfold bodyS;rw[hc];simp only[hf]
 rw[hc]at k0 hin1;rw[hbS];simp only at k0 hin1;rw[hsA]at k0;have k1:=z0H (A q1++[B19,.box (XC128 c .nils .nils (Bo false) (Fl 0) (Fl 0) .nils)]) (c.toNat:Int);rw[hf]at k1;have k2:=z06 (A q1++[B19,.box (XC128 c .nils .nils (Bo false) (Fl 0) (Fl 0) .nils)]) p b q1 ok (hgA _ _) hin1 hb;rw[hsA]at k2;have hin2:=z0J b q1 ok hin1;unfold z0o;simp only;generalize took q1 0 ok=q2 at k2 hin2⊢;have wc:IntKind.i64.wrap (c.toNat:Int)=(c.toNat:Int):=wrapI (by have:=c.toNat_lt;omega)
 have hcl:clS 128 (c.toNat:Int) b q2=({ x0 (c.toNat:Int) with ru:=(runR ruR noRu b q2).1 },(runR ruR noRu b q2).2):=rfl
 rw[hcl];simp only;have k3:=zcc (A q2++[B19,.box (XC128 c .nils .nils (Bo false) (Fl 0) (Fl 0) .nils)]) p b q2 (hgA _ _) hin2 hb;rw[hsA]at k3;have hin3:=z08 ruR noRu b q2 hin2;generalize runR ruR noRu b q2=w0 at k3 hin3⊢;obtain⟨v0,q3⟩:=w0;simp only at k3 hin3⊢;obtain⟨rs,rt,ra,rl,rh,re⟩:=v0;unfold ruV at k3;simp only at k3⊢;have hsub:Sub (.agg (XC128 c (mlV rs) (mlV rt) (Bo ra) (Fl rl) (Fl rh) (.sl 1 (txs re)))) (reV ({ x0 (c.toNat:Int) with ru:=⟨rs,rt,ra,rl,rh,re⟩ })):=.agg (.cons (.refl _) <| .cons (.refl _) <| .cons (.refl _) <| .cons (.refl _) <| .cons (.refl _) <| .cons (.refl _) <| .cons (.refl _) <| .cons (.nils 3) <| .cons (.refl _) <| .cons (.refl _) <| .cons (.refl _) <| .cons (.refl _) <| .cons (.refl _) <| .cons (.refl _) <| .cons (.refl _) <| .cons (.refl _) <| .cons (.refl _) <| .cons (.nils 2) <| .cons (.refl _) <| .nil)
 have km:=(z1m (A q3++[B19,.box (XC128 c (mlV rs) (mlV rt) (Bo ra) (Fl rl) (Fl rh) (.sl 1 (txs re)))]) ({ x0 (c.toNat:Int) with ru:=⟨rs,rt,ra,rl,rh,re⟩ })).subA (.cons hsub .nil)
 have ke:=z06 (A q3++[B19,.box (XC128 c (mlV rs) (mlV rt) (Bo ra) (Fl rl) (Fl rh) (.sl 1 (txs re)))]) p b q3 (mayR ({ x0 (c.toNat:Int) with ru:=⟨rs,rt,ra,rl,rh,re⟩ })) (hgA _ _) hin3 hb
 rw[hsA]at ke;generalize mayR ({ x0 (c.toNat:Int) with ru:=⟨rs,rt,ra,rl,rh,re⟩ })=okm at km ke⊢
 generalize took q3 0 okm=qe at ke⊢;refine Ans.subR ?_ hsub;refine Ans.of_run' t102 (fun hbel _=>?_)
 simp -implicitDefEqProofs only[c102,r102,go_sem,hgA,hsA,gs,hn,ap4];refine CO.intro k0 ?_;simp -implicitDefEqProofs only[go_sem,bc,wc,hgA,hsA,gs,hn,ap4];refine CO.intro k1 ?_;simp -implicitDefEqProofs only[go_sem];refine CO.intro k2 ?_;simp -implicitDefEqProofs only[go_sem,bc,hgA,hsA,gs,hn,ap4];refine CO.intro k3 ?_;simp -implicitDefEqProofs only[go_sem,bc,hgA,hsA,gs,hn,ap4];refine CO.intro km ?_;simp -implicitDefEqProofs only[go_sem];refine CO.intro ke ?_;simp -implicitDefEqProofs only[go_sem,hgA,hsA,gs,hn,ap4]
 have hbl:Bel (A qe).length (.agg (XC128 c (mlV rs) (mlV rt) (Bo ra) (Fl rl) (Fl rh) (.sl 1 (txs re)))):=.agg _ (fun i hi=>by
  have:∀y∈(XC128 c (mlV rs) (mlV rt) (Bo ra) (Fl rl) (Fl rh) (.sl 1 (txs re)):List AV),Bel (A qe).length y:=by
   intro y hy;simp only[List.mem_cons,List.not_mem_nil,or_false]at hy;rcases hy with rfl|rfl|rfl|rfl|rfl|rfl|rfl|rfl|rfl|rfl|rfl|rfl|rfl|rfl|rfl|rfl|rfl|rfl|rfl
   all_goals first|exact .pl _|exact .nils|exact z0K _ _|exact z1s _ _|exact z0X _ _
  exact this _ (List.getElem_mem hi))
 exact Fini.trim2 (σ':=A qe) (ex:=[_,_]) (by simp -implicitDefEqProofs only[go_sem,resA,z03,rvA,oneOf,gs]<;>rfl) rfl (Nat.le_of_eq (by simp only[hn])) hbl (fun o ho=>by
  rw[←hs q qe]at ho;rw[hn];rw[hn]at hbel
  exact z1j (o:=rob b qe) hbel (z21 _ _) o ho)
end
section
variable (A:Nat×Bool→St) (n p:Nat) (b:Byt) (hn:∀q,(A q).length=n) (hg:∀q,(A q)[p]?=some (rob b q)) (hs:∀q q',(A q).set p (rob b q')=A q') (hb:b.length≤50000)
include hn hg hs hb
set_option maxHeartbeats 8000000 in
theorem za2 (q:Nat×Bool) (hq:Inb b q) (c:UInt8) (q1:Nat×Bool) (hc:runR byteR 0 b q=(c,q1)) (ok:Bool) (hf:fOf (c.toNat:Int)=(768,ok)) :
  Ans Tryz.prog 102 [.ptr p 0] (A q) (reV (bodyS b q).1) (A (bodyS b q).2):=by
 obtain⟨hgA,hsA,gs⟩:=rd_facts A n p b hn hg hs q;have k0:=z0G (A q++[B19]) p b q (hgA _ _) hq hb;have hin1:=z08 byteR 0 b q hq
 have hbS:bodyS b q=z0o (fun q1=>clS 768 (c.toNat:Int) b (took q1 0 ok)) mayR q1:=by
  unfold bodyS;rw[hc];simp only[hf]
 rw[hc]at k0 hin1;rw[hbS];simp only at k0 hin1;rw[hsA]at k0;have k1:=z0H (A q1++[B19,.box (XC768 c .nils (Fl 0))]) (c.toNat:Int);rw[hf]at k1;have k2:=z06 (A q1++[B19,.box (XC768 c .nils (Fl 0))]) p b q1 ok (hgA _ _) hin1 hb;rw[hsA]at k2;have hin2:=z0J b q1 ok hin1;unfold z0o;simp only;generalize took q1 0 ok=q2 at k2 hin2⊢;have wc:IntKind.i64.wrap (c.toNat:Int)=(c.toNat:Int):=wrapI (by have:=c.toNat_lt;omega)
 have hcl:clS 768 (c.toNat:Int) b q2=({ x0 (c.toNat:Int) with ls:=(runR setR [] b q2).1,val:=(valS b (runR setR [] b q2).2).1 },(valS b (runR setR [] b q2).2).2):=rfl
 rw[hcl];simp only;have k3:=zcb (A q2++[B19,.box (XC768 c .nils (Fl 0))]) p b q2 (hgA _ _) hin2 hb;rw[hsA]at k3;have hin3:=z08 setR [] b q2 hin2;generalize runR setR [] b q2=w0 at k3 hin3⊢;obtain⟨v0,q3⟩:=w0;simp only at k3 hin3⊢;have k4:=z77 (A q3++[B19,.box (XC768 c (lsV v0) (Fl 0))]) p b q3 (hgA _ _) hin3 hb;rw[hsA]at k4;have hin4:=z08 wordR 0 b q3 hin3;unfold valS;generalize runR wordR 0 b q3=w1 at k4 hin4⊢;obtain⟨v1,qw⟩:=w1;simp only at k4 hin4⊢;have kv:=zay (A qw++[B19,.box (XC768 c (lsV v0) (Fl 0))]) v1;have kr:=z06 (A qw++[B19,.box (XC768 c (lsV v0) (Fl 0))]) p b qw (okV v1) (hgA _ _) hin4 hb;rw[hsA]at kr;have hinv:=z0J b qw (okV v1) hin4;generalize (if okV v1=true then v1 else 0)=fv at kv⊢
 generalize okV v1=okv at kv kr hinv⊢;generalize took qw 0 okv=q4 at kr hinv⊢;clear hin4;have hin4:=hinv;have hsub:Sub (.agg (XC768 c (lsV v0) (Fl fv))) (reV ({ x0 (c.toNat:Int) with ls:=v0,val:=fv })):=.agg (.cons (.refl _) <| .cons (.refl _) <| .cons (.refl _) <| .cons (.refl _) <| .cons (.refl _) <| .cons (.refl _) <| .cons (.refl _) <| .cons (.nils 3) <| .cons (.refl _) <| .cons (.refl _) <| .cons (.refl _) <| .cons (.nils 3) <| .cons (.nils 3) <| .cons (.refl _) <| .cons (.refl _) <| .cons (.refl _) <| .cons (.nils 1) <| .cons (.refl _) <| .cons (.refl _) <| .nil)
 have km:=(z1m (A q4++[B19,.box (XC768 c (lsV v0) (Fl fv))]) ({ x0 (c.toNat:Int) with ls:=v0,val:=fv })).subA (.cons hsub .nil)
 have ke:=z06 (A q4++[B19,.box (XC768 c (lsV v0) (Fl fv))]) p b q4 (mayR ({ x0 (c.toNat:Int) with ls:=v0,val:=fv })) (hgA _ _) hin4 hb
 rw[hsA]at ke;generalize mayR ({ x0 (c.toNat:Int) with ls:=v0,val:=fv })=okm at km ke⊢
 generalize took q4 0 okm=qe at ke⊢;refine Ans.subR ?_ hsub;refine Ans.of_run' t102 (fun hbel _=>?_)
 simp -implicitDefEqProofs only[c102,r102,go_sem,hgA,hsA,gs,hn,ap4];refine CO.intro k0 ?_;simp -implicitDefEqProofs only[go_sem,bc,wc,hgA,hsA,gs,hn,ap4];refine CO.intro k1 ?_;simp -implicitDefEqProofs only[go_sem];refine CO.intro k2 ?_;simp -implicitDefEqProofs only[go_sem,bc,hgA,hsA,gs,hn,ap4];refine CO.intro k3 ?_;simp -implicitDefEqProofs only[go_sem,bc,hgA,hsA,gs,hn,ap4];refine CO.intro k4 ?_;simp -implicitDefEqProofs only[go_sem];refine CO.intro kv ?_;simp -implicitDefEqProofs only[go_sem];refine CO.intro kr ?_;simp -implicitDefEqProofs only[go_sem,bc,hgA,hsA,gs,hn,ap4];refine CO.intro km ?_;simp -implicitDefEqProofs only[go_sem];refine CO.intro ke ?_;simp -implicitDefEqProofs only[go_sem,hgA,hsA,gs,hn,ap4]
 have hbl:Bel (A qe).length (.agg (XC768 c (lsV v0) (Fl fv))):=.agg _ (fun i hi=>by
  have:∀y∈(XC768 c (lsV v0) (Fl fv):List AV),Bel (A qe).length y:=by
   intro y hy;simp only[List.mem_cons,List.not_mem_nil,or_false]at hy;rcases hy with rfl|rfl|rfl|rfl|rfl|rfl|rfl|rfl|rfl|rfl|rfl|rfl|rfl|rfl|rfl|rfl|rfl|rfl|rfl
   all_goals first|exact .pl _|exact .nils|exact z0K _ _|exact z1s _ _|exact z0X _ _
  exact this _ (List.getElem_mem hi))
 exact Fini.trim2 (σ':=A qe) (ex:=[_,_]) (by simp -implicitDefEqProofs only[go_sem,resA,z03,rvA,oneOf,gs]<;>rfl) rfl (Nat.le_of_eq (by simp only[hn])) hbl (fun o ho=>by
  rw[←hs q qe]at ho;rw[hn];rw[hn]at hbel
  exact z1j (o:=rob b qe) hbel (z21 _ _) o ho)
set_option maxHeartbeats 8000000 in
theorem zbt (q:Nat×Bool) (hq:Inb b q) (c:UInt8) (q1:Nat×Bool) (hc:runR byteR 0 b q=(c,q1)) (ok:Bool) (hf:fOf (c.toNat:Int)=(16,ok)) :
  Ans Tryz.prog 102 [.ptr p 0] (A q) (reV (bodyS b q).1) (A (bodyS b q).2):=by
 obtain⟨hgA,hsA,gs⟩:=rd_facts A n p b hn hg hs q;have k0:=z0G (A q++[B19]) p b q (hgA _ _) hq hb;have hin1:=z08 byteR 0 b q hq
 have hbS:bodyS b q=z0o (fun q1=>clS 16 (c.toNat:Int) b (took q1 0 ok)) mayR q1:=by
  unfold bodyS;rw[hc];simp only[hf]
 rw[hc]at k0 hin1;rw[hbS];simp only at k0 hin1;rw[hsA]at k0;have k1:=z0H (A q1++[B19,.box (XC16 c .nils)]) (c.toNat:Int);rw[hf]at k1;have k2:=z06 (A q1++[B19,.box (XC16 c .nils)]) p b q1 ok (hgA _ _) hin1 hb;rw[hsA]at k2;have hin2:=z0J b q1 ok hin1;unfold z0o;simp only;generalize took q1 0 ok=q2 at k2 hin2⊢;have wc:IntKind.i64.wrap (c.toNat:Int)=(c.toNat:Int):=wrapI (by have:=c.toNat_lt;omega)
 have hcl:clS 16 (c.toNat:Int) b q2=({ x0 (c.toNat:Int) with mt:=(runR listR [] b q2).1 },(runR listR [] b q2).2):=rfl
 rw[hcl];simp only;have k3:=z5H (A q2++[B19,.box (XC16 c .nils)]) p b q2 (hgA _ _) hin2 hb;rw[hsA]at k3;have hin3:=z08 listR [] b q2 hin2;generalize runR listR [] b q2=w0 at k3 hin3⊢;obtain⟨v0,q3⟩:=w0;simp only at k3 hin3⊢;have hsub:Sub (.agg (XC16 c (mlV v0))) (reV ({ x0 (c.toNat:Int) with mt:=v0 })):=.agg (.cons (.refl _) <| .cons (.refl _) <| .cons (.refl _) <| .cons (.refl _) <| .cons (.refl _) <| .cons (.refl _) <| .cons (.refl _) <| .cons (.refl _) <| .cons (.refl _) <| .cons (.refl _) <| .cons (.refl _) <| .cons (.nils 3) <| .cons (.nils 3) <| .cons (.refl _) <| .cons (.refl _) <| .cons (.refl _) <| .cons (.nils 1) <| .cons (.nils 2) <| .cons (.refl _) <| .nil)
 have km:=(z1m (A q3++[B19,.box (XC16 c (mlV v0))]) ({ x0 (c.toNat:Int) with mt:=v0 })).subA (.cons hsub .nil)
 have ke:=z06 (A q3++[B19,.box (XC16 c (mlV v0))]) p b q3 (mayR ({ x0 (c.toNat:Int) with mt:=v0 })) (hgA _ _) hin3 hb
 rw[hsA]at ke;generalize mayR ({ x0 (c.toNat:Int) with mt:=v0 })=okm at km ke⊢
 generalize took q3 0 okm=qe at ke⊢;refine Ans.subR ?_ hsub;refine Ans.of_run' t102 (fun hbel _=>?_)
 simp -implicitDefEqProofs only[c102,r102,go_sem,hgA,hsA,gs,hn,ap4];refine CO.intro k0 ?_;simp -implicitDefEqProofs only[go_sem,bc,wc,hgA,hsA,gs,hn,ap4];refine CO.intro k1 ?_;simp -implicitDefEqProofs only[go_sem];refine CO.intro k2 ?_;simp -implicitDefEqProofs only[go_sem,bc,hgA,hsA,gs,hn,ap4];refine CO.intro k3 ?_;simp -implicitDefEqProofs only[go_sem,bc,hgA,hsA,gs,hn,ap4];refine CO.intro km ?_;simp -implicitDefEqProofs only[go_sem];refine CO.intro ke ?_;simp -implicitDefEqProofs only[go_sem,hgA,hsA,gs,hn,ap4]
 have hbl:Bel (A qe).length (.agg (XC16 c (mlV v0))):=.agg _ (fun i hi=>by
  have:∀y∈(XC16 c (mlV v0):List AV),Bel (A qe).length y:=by
   intro y hy;simp only[List.mem_cons,List.not_mem_nil,or_false]at hy;rcases hy with rfl|rfl|rfl|rfl|rfl|rfl|rfl|rfl|rfl|rfl|rfl|rfl|rfl|rfl|rfl|rfl|rfl|rfl|rfl
   all_goals first|exact .pl _|exact .nils|exact z0K _ _|exact z1s _ _|exact z0X _ _
  exact this _ (List.getElem_mem hi))
 exact Fini.trim2 (σ':=A qe) (ex:=[_,_]) (by simp -implicitDefEqProofs only[go_sem,resA,z03,rvA,oneOf,gs]<;>rfl) rfl (Nat.le_of_eq (by simp only[hn])) hbl (fun o ho=>by
  rw[←hs q qe]at ho;rw[hn];rw[hn]at hbel
  exact z1j (o:=rob b qe) hbel (z21 _ _) o ho)
end
theorem za3 (A:Nat×Bool→St) (n p:Nat) (b:Byt) (hn:∀q,(A q).length=n) (hg:∀q,(A q)[p]?=some (rob b q)) (hs:∀q q',(A q).set p (rob b q')=A q') (hb:b.length≤50000) (q:Nat×Bool) (hq:Inb b q) :
  Ans Tryz.prog 102 [.ptr p 0] (A q) (reV (bodyS b q).1) (A (bodyS b q).2):=by
 cases hc:runR byteR 0 b q with
 |mk c q1 =>
 have hm:=z6t (c.toNat:Int)
 cases hf:fOf (c.toNat:Int) with
 |mk f ok =>
 rw[hf]at hm;simp only[List.mem_cons,List.not_mem_nil,or_false]at hm;rcases hm with rfl|rfl|rfl|rfl|rfl|rfl|rfl|rfl|rfl
 · exact zcm A n p b hn hg hs hb q hq c q1 hc ok hf
 · exact zcn A n p b hn hg hs hb q hq c q1 hc ok hf
 · exact zco A n p b hn hg hs hb q hq c q1 hc ok hf
 · exact z9Z A n p b hn hg hs hb q hq c q1 hc ok hf
 · exact za0 A n p b hn hg hs hb q hq c q1 hc ok hf
 · exact zcp A n p b hn hg hs hb q hq c q1 hc ok hf
 · exact za1 A n p b hn hg hs hb q hq c q1 hc ok hf
 · exact za2 A n p b hn hg hs hb q hq c q1 hc ok hf
 · exact zbt A n p b hn hg hs hb q hq c q1 hc ok hf
def wholeO {α:Type} (o:Option (α×Byt)):Option α:=match o with
 |some (x,[])=>some x
 |_=>none
theorem z5M {α:Type} {b:Byt} {rd:Rd α} {st:Nat×Bool→α×(Nat×Bool)} (h:StepsR b rd st) (he:EndsR rd) :
  wholeO (rd b)=if !(st (0,false)).2.2&&decide ((st (0,false)).2.1=b.length) then some (st (0,false)).1 else none:=by
 cases hr:rd b with
 |none=>rw[h.top.2 hr];rfl
 |some p =>
  obtain⟨x,t⟩:=p;rw[h.top.1 x t hr];obtain⟨w,hw⟩:=he _ _ _ hr;have hl:b.length=w.length+t.length:=by rw[hw,List.length_append]
  cases t with
  |nil=>simp[wholeO]
  |cons c t =>
   have:¬(b.length-(c::t).length=b.length):=by simp only[List.length_cons]at hl⊢;omega
   simp only[wholeO,Bool.not_false,Bool.true_and,decide_eq_false this,Bool.false_eq_true,if_false]
abbrev noRe:ReM:=x0 0
def noReV:AV:=.agg [Sx ⟨#[]⟩,I 0,I 0,Sx ⟨#[]⟩,UN 0,UN 0,I 0,.nils,Bo false,Fl 0,Fl 0,.nils,.nils,Bo false,Fl 0,Fl 0,.nils,.nils,Fl 0]
theorem za4:Sub noReV (reV noRe):=.agg (.cons (.refl _) (.cons (.refl _) (.cons (.refl _) (.cons (.refl _) (.cons (.refl _) (.cons (.refl _) (.cons (.refl _) (.cons (.nils 3) (.cons (.refl _) (.cons (.refl _) (.cons (.refl _) (.cons (.nils 3) (.cons (.nils 3) (.cons (.refl _) (.cons (.refl _) (.cons (.refl _) (.cons (.nils 1) (.cons (.nils 2) (.cons (.refl _) .nil)))))))))))))))))))
theorem z5N (n:Nat):Bel n noReV:=.agg _ fun i hi=>by
 have:∀y∈([Sx ⟨#[]⟩,I 0,I 0,Sx ⟨#[]⟩,UN 0,UN 0,I 0,.nils,Bo false,Fl 0,Fl 0,.nils,.nils,Bo false,Fl 0,Fl 0,.nils,.nils,Fl 0]:List AV),Bel n y:=by
  intro y hy;simp only[List.mem_cons,List.not_mem_nil,or_false]at hy;rcases hy with rfl|rfl|rfl|rfl|rfl|rfl|rfl|rfl|rfl|rfl|rfl|rfl|rfl|rfl|rfl|rfl|rfl|rfl|rfl
  all_goals first|exact .pl _|exact .nils
 exact this _ (List.getElem_mem hi)
theorem z6u (n:Nat) (r:ReM):Bel n (reV r):=.agg _ fun i hi=>by
 have:∀y∈reC r,Bel n y:=by
  intro y hy;unfold reC at hy;simp only[List.mem_cons,List.not_mem_nil,or_false]at hy;rcases hy with rfl|rfl|rfl|rfl|rfl|rfl|rfl|rfl|rfl|rfl|rfl|rfl|rfl|rfl|rfl|rfl|rfl|rfl|rfl
  all_goals first|exact .pl _|exact z0K _ _|exact z1s _ _|exact z0X _ _
 exact this _ (List.getElem_mem hi)
def z35 (o:Option ReM):AV:=match o with
 |some x=>.tup [reV x,Bo true]
 |none=>.tup [reV noRe,Bo false]
def z91 (o:Option ReM):AV:=match o with
 |some x=>.tup [reV x,Bo true]
 |none=>.tup [noReV,Bo false]
theorem z92 (o:Option ReM):Sub (z91 o) (z35 o):=by
 unfold z91 z35
 cases o with
 |none=>exact .tup (.cons za4 (.refl _))
 |some x=>exact .refl _
theorem z49 {n:Nat} {x:AV} {c:Bool} (h:Bel n x):Bel n (.tup [x,Bo c]):=.tup _ fun j hj=>by
 have:∀y∈([x,Bo c]:List AV),Bel n y:=by
  intro y hy;simp only[List.mem_cons,List.not_mem_nil,or_false]at hy;rcases hy with rfl|rfl
  · exact h
  · exact .pl _
 exact this _ (List.getElem_mem hj)
def fitQ (b:Byt) (q:Nat×Bool) (x:ReM):Option ReM:=if !q.2&&decide (q.1=b.length) then some x else none
theorem z7P (n:Nat) (o:Option ReM):Bel n (z35 o):=by
 unfold z35
 cases o with
 |none=>exact z49 (z6u _ _)
 |some x=>exact z49 (z6u _ _)
section
variable (σ:St)
theorem z93 (p:Nat) (b:Byt) (q:Nat×Bool) (x:ReM) (h:σ[p]?=some (rob b q)):Ans Tryz.prog 101 [reV x,.ptr p 0,.sl 1 (byv b)] σ (z35 (fitQ b q x)) σ:=by
 refine Ans.subR ?_ (z92 _);have hp:p<σ.length:=(List.getElem?_eq_some_iff.1 h).1;have hz:∀ob,(σ++[ob])[p]?=some (rob b q):=fun ob=>by rw[List.getElem?_append_left hp];exact h
 have h1:=z2a (σ++[B19]) p b q (hz _);have hbx:=z6u σ.length x;obtain⟨a,bad⟩:=q;refine Ans.of_run' t101 (fun hbel _=>?_)
 unfold z91 fitQ;unfold reV reC at hbx⊢
 cases bad with
 |true =>
  simp -implicitDefEqProofs only[c101,r101,go_sem,g0,s0];refine CO.intro h1 ?_;simp -implicitDefEqProofs only[go_sem,g0,s0];exact Fini.trim2 (σ':=σ) (ex:=[_]) (by simp -implicitDefEqProofs only[go_sem,resA,z03,rvA,oneOf,g0]<;>rfl) rfl (Nat.le_refl _) (z49 (z5N _)) hbel
 |false =>
  have e1:(((a:Nat):Int) != (b.length:Nat))= !decide (a=b.length):=by
   rw[bne];congr 1
   rw[Bool.eq_iff_iff];simp only[beq_iff_eq,decide_eq_true_eq];omega
  by_cases he:a=b.length
  · have e2:(((a:Nat):Int) != (b.length:Nat))=false:=by rw[e1,decide_eq_true he];rfl
    have e3:(!(a,false).2&&decide ((a,false).1=b.length))=true:=by simp[he]
    rw[if_pos e3];simp -implicitDefEqProofs only[c101,r101,go_sem,g0,s0];refine CO.intro h1 ?_;simp -implicitDefEqProofs only[go_sem,z0d,e2,g0,s0];exact Fini.trim2 (σ':=σ) (ex:=[_]) (by simp -implicitDefEqProofs only[go_sem,resA,z03,rvA,oneOf,g0]<;>rfl) rfl (Nat.le_refl _) (z49 hbx) hbel
  · have e2:(((a:Nat):Int) != (b.length:Nat))=true:=by rw[e1,decide_eq_false he];rfl
    have e3:¬(!(a,false).2&&decide ((a,false).1=b.length))=true:=by simp[he]
    rw[if_neg e3];simp -implicitDefEqProofs only[c101,r101,go_sem,g0,s0];refine CO.intro h1 ?_;simp -implicitDefEqProofs only[go_sem,z0d,e2,g0,s0];exact Fini.trim2 (σ':=σ) (ex:=[_]) (by simp -implicitDefEqProofs only[go_sem,resA,z03,rvA,oneOf,g0]<;>rfl) rfl (Nat.le_refl _) (z49 (z5N _)) hbel
theorem z5O (b:Byt) (hb:b.length≤50000):Ans Tryz.prog 75 [.sl 1 (byv b)] σ (z35 (wholeO (bodyR b))) σ:=by
 rw[z5M (z7O b) z90];have h1:=za3 (fun q=>σ++[B19,rob b q]) (σ.length+2) (σ.length+1) b (fun q=>by simp) (fun q=>g1 _ _ _ _) (fun q q'=>s1 _ _ _ _ _) hb (0,false) (Inb0 b)
 generalize bodyS b (0,false)=w at h1⊢;obtain⟨x,q⟩:=w;simp only at h1⊢;have h2:=z93 (σ++[B19,rob b q]) (σ.length+1) b q x (g1 _ _ _ _);unfold fitQ at h2;generalize (if(!q.2&&decide (q.1=b.length))=true then some x else none)=o at h2⊢
 have hbo:=z7P σ.length o
 have key:∃(y:ReM) (c:Bool),z35 o=.tup [reV y,Bo c]:=by
  unfold z35
  cases o with
  |none=>exact⟨_,_,rfl⟩
  |some y=>exact⟨_,_,rfl⟩
 obtain⟨y,c,hy⟩:=key;rw[hy]at h2 hbo⊢;refine Ans.of_run' t75 (fun hbel _=>?_)
 unfold reV reC at *;simp -implicitDefEqProofs only[c75,r75,go_sem];refine CO.intro (new_ans _ b) ?_;simp -implicitDefEqProofs only[go_sem,List.append_assoc,List.length_append];refine CO.intro h1 ?_;simp -implicitDefEqProofs only[go_sem];refine CO.intro h2 ?_;simp -implicitDefEqProofs only[go_sem,g0,s0];exact Fini.trim2 (σ':=σ) (ex:=[_,_]) (by simp -implicitDefEqProofs only[go_sem,resA,z03,rvA,oneOf,g0]<;>rfl) rfl (Nat.le_refl _) hbo hbel
end
theorem lt_of {x:Int} {v:Bool} (h:decide (0≤x)=v):decide (x<0)= !v:=by
 rw[←h,Bool.eq_iff_iff];simp
theorem gt_of {x c:Int} {v:Bool} (h:decide (x≤c)=v):decide (c<x)= !v:=by
 rw[←h,Bool.eq_iff_iff];simp
abbrev S0:ByteArray:=⟨#[45]⟩
theorem hn_0:(S0.toList==(⟨#[]⟩:ByteArray).toList)=false:=by decide +kernel
abbrev S1:ByteArray:=⟨#[73]⟩
theorem hn_1:(S1.toList==(⟨#[]⟩:ByteArray).toList)=false:=by decide +kernel
abbrev S3:ByteArray:=⟨#[73,84]⟩
theorem hn_3:(S3.toList==(⟨#[]⟩:ByteArray).toList)=false:=by decide +kernel
abbrev S116:ByteArray:=⟨#[83,69,77,66]⟩
theorem zcq:(S116.toList==(⟨#[]⟩:ByteArray).toList)=false:=by decide +kernel
abbrev S117:ByteArray:=⟨#[73,83,69,77,66]⟩
theorem zcr:(S117.toList==(⟨#[]⟩:ByteArray).toList)=false:=by decide +kernel
abbrev S8:ByteArray:=⟨#[90]⟩
theorem hn_8:(S8.toList==(⟨#[]⟩:ByteArray).toList)=false:=by decide +kernel
abbrev S128:ByteArray:=⟨#[82]⟩
theorem zcs:(S128.toList==(⟨#[]⟩:ByteArray).toList)=false:=by decide +kernel
abbrev S768:ByteArray:=⟨#[76,86]⟩
theorem zct:(S768.toList==(⟨#[]⟩:ByteArray).toList)=false:=by decide +kernel
abbrev S16:ByteArray:=⟨#[77]⟩
theorem hn_16:(S16.toList==(⟨#[]⟩:ByteArray).toList)=false:=by decide +kernel
attribute [go_sem] Bool.not_false Bool.not_true hn_0 hn_1 hn_3 zcq zcr hn_8 zcs zct hn_16
end Go.Proofs.YteakobbdgehlgaaGreatDoor
namespace Go.Ab
open Go
theorem L.step {P:Program} {n0:Nat} {clr:List Tmp} {x:ACode} {k:List Fr} {B:Bs} {env:Env} {σ:St}
  (h:∀J:Env→St→Prop,(∀env σ,L P n0 clr x k B env σ→J env σ)→R P n0 x (.loop J clr::k) B env σ):L P n0 clr x k B env σ:=by
 unfold L;intro I hI;refine hI _ _ (h I fun env' σ' hl=>?_)
 unfold L at hl;exact hl I hI
end Go.Ab
namespace Go.Proofs.YteakobbdgehlgaaGreatDoor
open Go Go.Ab Go.Cod
set_option maxRecDepth 100000
section
variable (σ:St) (p:Nat) (b:Byt) (hb:b.length≤50000)
include hb in
end
end Go.Proofs.YteakobbdgehlgaaGreatDoor
namespace Go.Proofs.YteakobbdgehlgaaGreatDoor
open Go Go.Ab Go.Cod
set_option maxRecDepth 100000
theorem sz_0:((S0.size:Nat):Int)=1:=rfl
theorem ds_0:(S0.toList==(⟨#[45]⟩:ByteArray).toList)=true:=by decide +kernel
theorem sz_1:((S1.size:Nat):Int)=1:=rfl
theorem ds_1:(S1.toList==(⟨#[45]⟩:ByteArray).toList)=false:=by decide +kernel
theorem sz_3:((S3.size:Nat):Int)=2:=rfl
theorem ds_3:(S3.toList==(⟨#[45]⟩:ByteArray).toList)=false:=by decide +kernel
theorem zcu:((S116.size:Nat):Int)=4:=rfl
theorem zcv:(S116.toList==(⟨#[45]⟩:ByteArray).toList)=false:=by decide +kernel
theorem zcw:((S117.size:Nat):Int)=5:=rfl
theorem zcx:(S117.toList==(⟨#[45]⟩:ByteArray).toList)=false:=by decide +kernel
theorem sz_8:((S8.size:Nat):Int)=1:=rfl
theorem ds_8:(S8.toList==(⟨#[45]⟩:ByteArray).toList)=false:=by decide +kernel
theorem zcy:((S128.size:Nat):Int)=1:=rfl
theorem zcz:(S128.toList==(⟨#[45]⟩:ByteArray).toList)=false:=by decide +kernel
theorem zcA:((S768.size:Nat):Int)=2:=rfl
theorem zcB:(S768.toList==(⟨#[45]⟩:ByteArray).toList)=false:=by decide +kernel
theorem sz_16:((S16.size:Nat):Int)=1:=rfl
theorem ds_16:(S16.toList==(⟨#[45]⟩:ByteArray).toList)=false:=by decide +kernel
theorem wk0:IntKind.i64.wrap 0=0:=rfl
theorem zk0:Int.toNat 0=0:=rfl
theorem wk1:IntKind.i64.wrap 1=1:=rfl
theorem zk1:Int.toNat 1=1:=rfl
theorem wk2:IntKind.i64.wrap 2=2:=rfl
theorem zk2:Int.toNat 2=2:=rfl
theorem wk3:IntKind.i64.wrap 3=3:=rfl
theorem zk3:Int.toNat 3=3:=rfl
theorem wk4:IntKind.i64.wrap 4=4:=rfl
theorem zk4:Int.toNat 4=4:=rfl
theorem wk5:IntKind.i64.wrap 5=5:=rfl
theorem zk5:Int.toNat 5=5:=rfl
attribute [go_sem] wk0 wk1 wk2 wk3 wk4 wk5 zk0 zk1 zk2 zk3 zk4 zk5 z0d z3u z3v z0R g0 g1 s0 s1 Int.le_refl sz_0 ds_0 sz_1 ds_1 sz_3 ds_3 zcu zcv zcw zcx sz_8 ds_8 zcy zcz zcA zcB sz_16 ds_16
structure RcM where
 ix:Int
 ck:Nat
 bd:Byt
 cd:Int
def rcC (r:RcM):List AV:=[I r.ix,UN r.ck,.sl 1 (byv r.bd),I r.cd]
def rcV (r:RcM):AV:=.agg (rcC r)
def cdB (c:Int):Bool:=c==0||(decide (4≤c)&&decide (c≤10))
def bdB (b:Byt):Bool:=(wholeO (bodyR b)).isSome
def rcIs (r:RcM):Bool:=decide (0≤r.ix)&&(decide (r.ix≤2147483647)&&(decide ((r.ck:Int)≤1099511627776)&&(bdB r.bd&&cdB r.cd)))
theorem z6v (o:Option ReM):∃x,z35 o=.tup [reV x,Bo o.isSome]:=by
 cases o with
 |none=>exact⟨noRe,rfl⟩
 |some x=>exact⟨x,rfl⟩
theorem z7d {r:RcM} (h:rcIs r=true):0≤r.ix∧r.ix≤2147483647∧r.ck≤1099511627776∧0≤r.cd∧r.cd≤10:=by
 unfold rcIs cdB at h;simp only[Bool.and_eq_true,Bool.or_eq_true,decide_eq_true_eq,beq_iff_eq]at h;omega
section
variable (σ:St)
theorem z51 (r:RcM) (hb:r.bd.length≤50000):Ans Tryz.prog 45 [rcV r] σ (Bo (rcIs r)) σ:=by
 obtain⟨ix,ck,bd,cd⟩:=r;have k1:=z5O σ bd hb;obtain⟨x,hx⟩:=z6v (wholeO (bodyR bd));rw[hx]at k1;unfold rcV rcC rcIs bdB cdB;refine Ans.of_run t45 ?_;unfold reV reC at k1;generalize (wholeO (bodyR bd)).isSome=ok at k1⊢;simp only
 cases h0:decide (0≤ix) with
 |false =>
  have e0:=lt_of h0;simp -implicitDefEqProofs only[c45,r45,go_sem,e0];exact Fini.ret rfl
 |true =>
 have e0:=lt_of h0
 cases h1:decide (ix≤2147483647) with
 |false =>
  have e1:=gt_of h1;simp -implicitDefEqProofs only[c45,r45,go_sem,e0,e1];exact Fini.ret rfl
 |true =>
 have e1:=gt_of h1
 cases h2:decide ((ck:Int)≤1099511627776) with
 |false =>
  have e2:=gt_of h2;simp -implicitDefEqProofs only[c45,r45,go_sem,e0,e1,e2];exact Fini.ret rfl
 |true =>
 have e2:=gt_of h2;simp -implicitDefEqProofs only[c45,r45,go_sem,e0,e1,e2];refine CO.intro k1 ?_
 cases ok with
 |false =>
  simp -implicitDefEqProofs only[go_sem];exact Fini.ret rfl
 |true =>
 cases h3:(cd==0) with
 |true =>
  simp -implicitDefEqProofs only[go_sem,h3];exact Fini.ret rfl
 |false =>
 cases h4:decide (4≤cd) with
 |false =>
  simp -implicitDefEqProofs only[go_sem,h3,h4];exact Fini.ret rfl
 |true =>
 simp -implicitDefEqProofs only[go_sem,h3,h4];exact Fini.ret rfl
end
def cdC (c:Int):UInt8:=c.toNat.toUInt8
def putRc (r:RcM):Byt:=putN r.ix.toNat++(putN r.ck++(txtB ⟨r.bd.toArray⟩++[cdC r.cd]))
def z0s (r:RcM):Byt:=if rcIs r then putRc r else[]
theorem za5 {c:Int} (h:0≤c) (h1:c≤10):IntKind.u8.wrap c=(((cdC c).toNat:Nat):Int):=by
 obtain⟨n,rfl⟩:=Int.eq_ofNat_of_zero_le h;have:n<11:=by omega
 match n,this with
 |0,_|1,_|2,_|3,_|4,_|5,_|6,_|7,_|8,_|9,_|10,_=>rfl
theorem z22 (b:Byt):(⟨b.toArray⟩:ByteArray).size=b.length:=by simp[ByteArray.size]
theorem za6 (b:Byt):(⟨b.toArray⟩:ByteArray).data.toList=b:=by simp
section
variable (σ:St)
theorem z2G (r:RcM) (hb:r.bd.length≤50000):Ans Tryz.prog 30 [rcV r] σ (.sl 1 (byv (z0s r))) σ:=by
 have hi:=fun s=>z51 s r hb
 unfold z0s
 cases hR:rcIs r with
 |false =>
  have:Ans Tryz.prog 30 [rcV r] σ .nils σ:=by
   refine Ans.of_run t30 ?_;unfold rcV rcC at hi⊢;simp -implicitDefEqProofs only[c30,r30,go_sem];refine CO.intro (hi _) ?_;rw[hR];simp -implicitDefEqProofs only[go_sem];exact Fini.ret rfl
  exact this.subR (.nils 1)
 |true =>
  obtain⟨a1,a2,a3,a4,a5⟩:=z7d hR;obtain⟨ix,ck,bd,cd⟩:=r;simp only at a1 a2 a3 a4 a5 hb;have n1:=fun s=>zaz s ix.toNat (by omega)
  have n2:=fun s=>zaz s ck (by omega)
  have n3:=fun s=>z3S s ⟨bd.toArray⟩ (by rw[z22];omega)
  have w1:IntKind.u64.wrap ix=((ix.toNat:Nat):Int):=by
   rw[show ix=((ix.toNat:Nat):Int) from by omega,z1r (by omega)];rfl
  have w2:=za5 a4 a5;have l1:=z0P (n:=ix.toNat) (by omega)
  have l2:=z0P (n:=ck) (by omega)
  have l3:(txtB ⟨bd.toArray⟩).length≤60000:=by
   have:=z0P (n:=bd.length) (by omega)
   unfold txtB;rw[List.length_append,za6,z22];omega
  have hc:=fun s=>z8M s [putN ix.toNat,putN ck,txtB ⟨bd.toArray⟩,[cdC cd]] (by simp) (by simp;omega) (by
   simp only[List.flatten_cons,List.flatten_nil,List.append_nil,List.length_append,List.length_singleton];omega)
  have e3:([putN ix.toNat,putN ck,txtB ⟨bd.toArray⟩,[cdC cd]]:List Byt).flatten=putRc ⟨ix,ck,bd,cd⟩:=by simp[putRc]
  rw[e3]at hc;refine Ans.of_run t30 ?_;unfold rcV rcC at hi⊢;simp -implicitDefEqProofs only[c30,r30,go_sem];refine CO.intro (hi _) ?_;rw[hR];simp -implicitDefEqProofs only[go_sem,w1];refine CD.intro (n1 _) ?_;simp -implicitDefEqProofs only[go_sem];refine CD.intro (n2 _) ?_;simp -implicitDefEqProofs only[go_sem,z3w,bc,z29,z2j,AV.isStr];refine CD.intro (n3 _) ?_;simp -implicitDefEqProofs only[go_sem,w2];refine CD.intro (hc _) ?_;simp -implicitDefEqProofs only[go_sem];exact Fini.ret rfl
end
theorem bel_rcV (n:Nat) (r:RcM):Bel n (rcV r):=.agg _ fun i hi=>by
 have:∀y∈rcC r,Bel n y:=by
  intro y hy;unfold rcC at hy;simp only[List.mem_cons,List.not_mem_nil,or_false]at hy;rcases hy with rfl|rfl|rfl|rfl
  all_goals first|exact .pl _|exact z1W _ _
 exact this _ (List.getElem_mem hi)
section
variable (σ:St)
end
structure RqSz (r:ReM):Prop where
 val:r.val<2^64∧bitsF r.val=r.val
 bd:r.lo<2^64∧r.hi<2^64
 ru:r.ru.lo<2^64∧r.ru.hi<2^64
def eqLb (x y:Lab):Bool:=x.1.toList==y.1.toList&&(x.2.toList==y.2.toList&&true)
def sameL (A B:List Lab):Bool:=decide (A.length=B.length)&&(List.range A.length).all fun i=>eqLb (A.getD i noLb) (B.getD i noLb)
structure SzA (r:ReM):Prop where
 val:r.val<2^64
 bd:r.lo<2^64∧r.hi<2^64
 ru:r.ru.lo<2^64∧r.ru.hi<2^64
theorem RqSz.a {x:ReM} (h:RqSz x):SzA x:=⟨h.val.1,h.bd,h.ru⟩
end Go.Proofs.YteakobbdgehlgaaGreatDoor
namespace Go.Proofs.YteakobbdgehlgaaGreatDoor.Sha
open Go Go.Ab Go.Cod
set_option maxRecDepth 100000
theorem z1o (r:RcM) (hb:r.bd.length≤40000):(z0s r).length≤50000:=by
 unfold z0s;split
 · rename_i h;have h1:=z7d h;have h2:(putN r.ix.toNat).length≤10:=z0P (by omega)
   have h3:(putN r.ck).length≤10:=z0P (by omega)
   have h4:=z75 ⟨r.bd.toArray⟩ (by rw[z22];omega)
   rw[z22]at h4;unfold putRc;simp only[List.length_append,List.length_cons,List.length_nil];omega
 · exact Nat.zero_le _
section
variable (σ:St)
theorem z6w (h r:List UInt8) (hh:h.length≤50000) (hr:r.length≤50000):Ans Tryz.prog 58 [.sl 1 [.sl 1 (bv [1]),.sl 1 (bv h),.sl 1 (bv r)]] σ (.sl 1 (bv (([[1],h,r]:List (List UInt8)).flatten))) σ :=
 z4A σ [[1],h,r] (by simp) (by simp) (by simp;omega)
end
def ownU (o:Int):Nat:=(IntKind.u64.wrap o).toNat
theorem z94 (o:Int):IntKind.u64.wrap o=((ownU o:Nat):Int):=by
 unfold ownU;have:0≤IntKind.u64.wrap o:=by simp only[IntKind.wrap,IntKind.bits,IntKind.signed];simp;omega
 omega
def genB (o:Int):List UInt8:=0::wrdB (ownU o)
def linkB (h r:List UInt8):List UInt8:=([[1],h,r]:List (List UInt8)).flatten
theorem z37 (h r:List UInt8):(linkB h r).length=1+h.length+r.length:=by unfold linkB;simp;omega
structure ChM where
 most:Int
 L:List RcM
 head:List UInt8
def heldM (m:Int):Int:=if 200<(if 0>m then 0 else m) then 200 else(if 0>m then 0 else m)
def newCh (o m:Int):ChM:=⟨heldM m,[],shaB (genB o)⟩
def rowC (q:Nat) (L:List RcM):AV:=if L.isEmpty then .nils else .osl q L.length
def boxC (q:Nat) (c:ChM):Ob:=.box (I c.most::rowC q c.L::bv c.head)
section
variable (σ:St)
theorem z6x (o:Int):Ans Tryz.prog 28 [I o] σ (.sl 1 (bv (genB o))) σ:=by
 have hu:=z94 o;have hp:∀s,Ans Tryz.prog 57 [UN (ownU o)] s (.sl 1 (bv (wrdB (ownU o)))) s:=fun s=>z6p s (ownU o)
 have hl:=z0h (wrdB (ownU o));have hw:=wrdB_len (ownU o);have e:AV.pl (.int .u8 0)::bv (wrdB (ownU o))=bv (genB o):=rfl;have k1:((1:Nat)+8≤2^32)=True:=eq_true (by decide)
 refine Ans.of_run' t28 (fun hbel _=>?_)
 simp -implicitDefEqProofs only[c28,r28,go_sem,hu];refine CO.intro (hp _) ?_;have hgl:(bv (genB o)).length=9:=rfl;simp -implicitDefEqProofs only[go_sem,z19,hl,hw,k1,G0,S0,List.cons_append,List.nil_append,e,hgl];exact Fini.trim2 (σ':=σ) (ex:=[_]) rfl rfl (Nat.le_refl _) (z1U _ _) hbel
theorem z7e (h r:List UInt8) (hh:h.length=32) (hr:r.length≤50000):Ans Tryz.prog 29 [.agg (bv h),.sl 1 (bv r)] σ (.sl 1 (bv (linkB h r))) σ:=by
 have hl:=z0h h;have ha:=z1q h;have htk:List.take 32 (bv h)=bv h:=List.take_of_length_le (by rw[hl,hh];exact Nat.le_refl _)
 have hc:∀s,Ans Tryz.prog 58 [.sl 1 [.sl 1 (bv [1]),.sl 1 (bv h),.sl 1 (bv r)]] s (.sl 1 (bv (linkB h r))) s:=fun s=>z6w s h r (by omega) (by omega)
 have h1:bv [1]=[.pl (.int .u8 1)]:=rfl;rw[h1]at hc;have hll:=z0h (linkB h r);generalize linkB h r=X at hc hll⊢;refine Ans.of_run' t29 (fun hbel _=>?_)
 simp -implicitDefEqProofs only[c29,r29,go_sem,hl,hh,ha,htk];refine CO.intro (hc _) ?_;simp -implicitDefEqProofs only[go_sem,hll];exact Fini.ret rfl
theorem z5P (b:List UInt8) (hb:b.length≤100000) (hne:b≠[]):Ans Tryz.prog 44 [.sl 1 (bv b)] σ (.sl 1 (bv b)) σ:=by
 have hl:=z0h b
 have hn:nilA2 σ false (.sl 1 (bv b))=some false:=by
  cases b with
  |nil=>exact absurd rfl hne
  |cons _ _=>rfl
 have e0:(bv b).isEmpty=false:=by
  cases b with
  |nil=>exact absurd rfl hne
  |cons _ _=>rfl
 have k1:(b.length≤2^32)=True:=eq_true (by omega)
 refine Ans.of_run' t44 (fun hbel _=>?_)
 simp -implicitDefEqProofs only[c44,r44,go_sem,hl,e0,hn,z19,k1,G0,S0];exact Fini.trim2 (σ':=σ) (ex:=[_]) rfl rfl (Nat.le_refl _) (z1U _ _) hbel
theorem z38 (p q:Nat) (c:ChM) (hp:σ[p]?=some (boxC q c)) (hq:c.L≠[]→σ[q]?=some (.row 4 (c.L.map rcV))):Ans Tryz.prog 13 [.ptr p 0] σ (Bo (decide (c.most≤(c.L.length:Int)))) σ:=by
 unfold boxC rowC at hp;refine Ans.of_run t13 ?_
 cases hL:c.L.isEmpty with
 |true =>
  have h0:c.L=[]:=by simpa using hL
  rw[hL]at hp;simp only[if_true]at hp;simp -implicitDefEqProofs only[c13,r13,go_sem,hp,List.drop_succ_cons,List.drop_zero,List.head?_cons];rw[h0];exact Fini.ret rfl
 |false =>
  have hq:=hq (by intro h;rw[h]at hL;cases hL)
  have hml:(c.L.map rcV).length=c.L.length:=List.length_map ..;rw[hL]at hp;simp only[Bool.false_eq_true,if_false]at hp;simp -implicitDefEqProofs only[c13,r13,go_sem,hp,hq,hml,List.drop_succ_cons,List.drop_zero,List.head?_cons];exact Fini.ret rfl
theorem z6y (p q:Nat) (c:ChM) (hp:σ[p]?=some (boxC q c)) (hq:c.L≠[]→σ[q]?=some (.row 4 (c.L.map rcV))):Ans Tryz.prog 14 [.ptr p 0] σ (I c.L.length) σ:=by
 unfold boxC rowC at hp;refine Ans.of_run t14 ?_
 cases hL:c.L.isEmpty with
 |true =>
  have h0:c.L=[]:=by simpa using hL
  rw[hL]at hp;simp only[if_true]at hp;simp -implicitDefEqProofs only[c14,r14,go_sem,hp,List.drop_succ_cons,List.drop_zero,List.head?_cons];rw[h0];exact Fini.ret rfl
 |false =>
  have hq:=hq (by intro h;rw[h]at hL;cases hL)
  have hml:(c.L.map rcV).length=c.L.length:=List.length_map ..;rw[hL]at hp;simp only[Bool.false_eq_true,if_false]at hp;simp -implicitDefEqProofs only[c14,r14,go_sem,hp,hq,hml,List.drop_succ_cons,List.drop_zero,List.head?_cons];exact Fini.ret rfl
theorem za7 (p q:Nat) (c:ChM) (hh:c.head.length=32) (hp:σ[p]?=some (boxC q c)) (hpl:p<σ.length):Ans Tryz.prog 21 [.ptr p 0] σ (.agg (bv c.head)) σ:=by
 unfold boxC at hp;have hl:=z0h c.head;have ha:=z1q c.head;have htk:List.take 32 (bv c.head)=bv c.head:=List.take_of_length_le (by rw[hl,hh];exact Nat.le_refl _)
 have hp':∀ex,(σ++ex)[p]?=some (.box (I c.most::rowC q c.L::bv c.head)):=fun ex=>by rw[List.getElem?_append_left hpl];exact hp
 refine Ans.of_run' t21 (fun hbel _=>?_)
 simp -implicitDefEqProofs only[c21,r21,go_sem,hp',hl,hh,ha,htk,List.drop_succ_cons,List.drop_zero,G0,S0,List.append_nil];exact Fini.trim2 (σ':=σ) (ex:=[_]) (by simp -implicitDefEqProofs only[go_sem,resA,z03,rvA,oneOf,G0,hl,hh,htk]<;>rfl) rfl (Nat.le_refl _) (z6f _ _) hbel
theorem new_ans (o m:Int) (hG:∀ex,gloA (σ++ex) 0=some kV):Ans Tryz.prog 11 [I o,I m] σ (.ptr σ.length 0) (σ++[boxC 0 (newCh o m)]):=by
 have hg:=fun s=>z6x s o
 have hs:=fun ex=>z6g (σ++ex) (genB o) (show(9:Nat)≤100000 by decide) (fun ex2=>by rw[List.append_assoc];exact hG _)
 have hs0:=hs [];rw[List.append_nil]at hs0;have hsl:=z1A (genB o);have hl:=z0h (shaB (genB o));unfold newCh boxC rowC;simp only[List.isEmpty_nil,if_true];generalize shaB (genB o)=hd at hs0 hsl hl⊢;clear hs;have ha:=z1q hd;have htk:List.take 32 (bv hd)=bv hd:=List.take_of_length_le (by rw[hl,hsl];exact Nat.le_refl _)
 unfold heldM;refine Ans.of_run' t11 (fun hbel _=>?_)
 simp -implicitDefEqProofs only[c11,r11,go_sem];refine CO.intro (hg _) ?_;simp -implicitDefEqProofs only[go_sem];refine CO.intro hs0 ?_;simp -implicitDefEqProofs only[go_sem,hl,hsl,ha,htk];exact Fini.ret rfl
end
def z0i (c:ChM) (ck:Nat) (bd:List UInt8) (cd:Int):RcM:=⟨c.L.length,ck,bd,cd⟩
def addCh (c:ChM) (r:RcM):ChM:=⟨c.most,c.L++[r],shaB (linkB c.head (z0s r))⟩
theorem z1g {σ:St} {k:Nat} {v:List Value}:gloA σ k=some v→∀ex,gloA (σ++ex) k=some v:=by
 induction σ with
 |nil=>intro h;cases h
 |cons o s ih =>
  intro h ex
  cases o with
  |glo g vs =>
   simp only[List.cons_append,gloA]at h⊢;by_cases hg:g=k
   · rw[if_pos hg]at h⊢;exact h
   · rw[if_neg hg]at h⊢;exact ih h ex
  |_=>simp only[List.cons_append,gloA]at h⊢;exact ih h ex
theorem z52 {k:Nat} {cs ds:List AV}:∀{σ:St} {p:Nat},σ[p]?=some (.box cs)→gloA (σ.set p (.box ds)) k=gloA σ k
 |[],p,h=>by simp at h
 |o::s,0,h=>by
  simp only[List.getElem?_cons_zero,Option.some.injEq]at h;subst h;rfl
 |o::s,p+1,h=>by
  have h:s[p]?=some (.box cs):=h;have ih:=z52 (k:=k) (ds:=ds) h;rw[List.set_cons_succ]
  cases o with
  |glo g vs =>
   simp only[gloA];by_cases hg:g=k
   · rw[if_pos hg,if_pos hg]
   · rw[if_neg hg,if_neg hg];exact ih
  |_=>simp only[gloA];exact ih
section
variable (σ:St)
theorem z3p (p:Nat) (most:Int) (hd:List UInt8) (hhd:hd.length=32) (ck:Nat) (bd:List UInt8) (cd:Int) (hp:σ[p]?=some (boxC 0 ⟨most,[],hd⟩)) (hpl:p<σ.length)
  (hne:bd≠[]) (hbl:bd.length≤40000) (hg:gloA σ 0=some kV) :
  Ans Tryz.prog 16 [.ptr p 0,UN ck,.sl 1 (bv bd),I cd] σ (Bo (!decide (most≤0)&&rcIs (z0i ⟨most,[],hd⟩ ck bd cd)))
   (if(!decide (most≤0)&&rcIs (z0i ⟨most,[],hd⟩ ck bd cd)) then σ.set p (boxC (σ.length+1) (addCh ⟨most,[],hd⟩ (z0i ⟨most,[],hd⟩ ck bd cd)))++[.box (rcC (z0i ⟨most,[],hd⟩ ck bd cd)),.row 4 [rcV (z0i ⟨most,[],hd⟩ ck bd cd)]] else σ):=by
 have hcl:=fun s=>z5P s bd (by omega) hne
 have hp':∀ex,(σ++ex)[p]?=some (boxC 0 ⟨most,[],hd⟩):=fun ex=>by rw[List.getElem?_append_left hpl];exact hp
 have hfu:=fun ex=>z38 (σ++ex) p 0 ⟨most,[],hd⟩ (hp' ex) (fun h=>absurd rfl h)
 have hri:=fun s=>z51 s (z0i ⟨most,[],hd⟩ ck bd cd) (by show bd.length≤50000;omega)
 have hrb:=fun s=>z2G s (z0i ⟨most,[],hd⟩ ck bd cd) (by show bd.length≤50000;omega)
 have hb0:boxC 0 ⟨most,[],hd⟩=.box (I most::.nils::bv hd):=rfl;rw[hb0]at hp;simp only[hb0]at hp';have hl:=z0h hd;have ha:=z1q hd;have htk:List.take 32 (bv hd)=bv hd:=List.take_of_length_le (by rw[hl,hhd];exact Nat.le_refl _)
 have hrr:rcV (z0i ⟨most,[],hd⟩ ck bd cd)=.agg [I (0:Nat),UN ck,.sl 1 (bv bd),I cd]:=rfl;simp only[hrr]at hri hrb;have hfu':∀ex,Ans Tryz.prog 13 [.ptr p 0] (σ++ex) (Bo (decide (most≤0))) (σ++ex):=hfu;clear hfu;generalize decide (most≤0)=F at hfu'⊢;generalize rcIs (z0i ⟨most,[],hd⟩ ck bd cd)=ri at hri⊢;refine Ans.of_run' t16 (fun hbel _=>?_)
 simp -implicitDefEqProofs only[c16,r16,go_sem,hp',hp,List.drop_succ_cons,List.drop_zero,List.head?_cons,z0g]
 first|refine CD.intro (hcl _) ?_|refine CS.intro hcl ?_
 simp -implicitDefEqProofs only[go_sem,hp',hp,List.drop_succ_cons,List.drop_zero,List.head?_cons,G0,S0,z0g];refine CD.intro (hfu' _) ?_
 cases F with
 |true =>
  simp only[Bool.not_true,Bool.false_and,Bool.false_eq_true,if_false];simp -implicitDefEqProofs only[go_sem,z0g];exact Fini.trim2 (σ':=σ) (ex:=[_]) rfl rfl (Nat.le_refl _) (.pl _) hbel
 |false =>
  simp -implicitDefEqProofs only[go_sem,G0,z0g];refine CD.intro (hri _) ?_
  cases ri with
  |false =>
   simp only[Bool.not_false,Bool.and_false,Bool.false_eq_true,if_false];simp -implicitDefEqProofs only[go_sem,z0g,G0];exact Fini.trim2 (σ':=σ) (ex:=[_]) rfl rfl (Nat.le_refl _) (.pl _) hbel
  |true =>
   simp only[Bool.not_false,Bool.and_self,Bool.true_and,if_true];have k1:((1:Nat)≤2^32)=True:=eq_true (by decide)
   have hset:∀(x:Ob) (ex:St),(σ++ex).set p x=σ.set p x++ex:=fun x ex=>List.set_append_left _ _ hpl
   have hX:∀(x:Ob) (ex:St),(σ.set p x++ex)[p]?=some x:=fun x ex=>by rw[List.getElem?_append_left (by rw[List.length_set];exact hpl),List.getElem?_set_self hpl]
   have hY:∀(x y:Ob) (ex:St),(σ.set p x++y::ex)[σ.length]?=some y:=fun x y ex=>by rw[List.getElem?_append_right (by rw[List.length_set];exact Nat.le_refl _),List.length_set,Nat.sub_self];rfl
   have hset2:∀(x y:Ob) (ex:St),(σ.set p x++ex).set p y=σ.set p y++ex:=fun x y ex=>by rw[List.set_append_left _ _ (by rw[List.length_set];exact hpl),List.set_set]
   have hsha:=fun ds ex=>z6g (σ.set p (.box ds)++ex) (linkB hd (z0s (z0i ⟨most,[],hd⟩ ck bd cd))) (by have:=z1o (z0i ⟨most,[],hd⟩ ck bd cd) (show bd.length≤40000 from hbl);rw[z37];omega) (z1g (z1g (by rw[z52 hp];exact hg) ex))
   have hlk:=fun s=>z7e s hd (z0s (z0i ⟨most,[],hd⟩ ck bd cd)) hhd (z1o _ (show bd.length≤40000 from hbl))
   have hac:addCh ⟨most,[],hd⟩ (z0i ⟨most,[],hd⟩ ck bd cd)=⟨most,[z0i ⟨most,[],hd⟩ ck bd cd],shaB (linkB hd (z0s (z0i ⟨most,[],hd⟩ ck bd cd)))⟩:=rfl;rw[hac];have hsl:=z1A (linkB hd (z0s (z0i ⟨most,[],hd⟩ ck bd cd)));generalize shaB (linkB hd (z0s (z0i ⟨most,[],hd⟩ ck bd cd)))=nh at hsha hsl⊢;have nl:=z0h nh;have na:=z1q nh;have hdr:List.drop 32 (bv hd)=[]:=List.drop_of_length_le (by rw[hl,hhd];exact Nat.le_refl _)
   simp -implicitDefEqProofs only[go_sem,k1,hset,hX,hY,hset2,List.append_assoc,List.cons_append,List.nil_append,List.length_append,List.length_cons,List.length_nil,z0g,hp',List.drop_succ_cons,List.drop_zero,List.head?_cons,G0,hl,hhd,htk];refine CD.intro (hrb _) ?_;simp -implicitDefEqProofs only[go_sem,z0g,hX,hY,hset2,List.drop_succ_cons,List.drop_zero,hl,hhd,htk];refine CD.intro (hlk _) ?_;simp -implicitDefEqProofs only[go_sem,z0g,hX,hY,hset2,List.drop_succ_cons,List.drop_zero,hl,hhd,htk];refine CD.intro (hsha _ _) ?_;simp -implicitDefEqProofs only[go_sem,z0g,hX,hY,hset2,List.drop_succ_cons,List.drop_zero,hl,hhd,htk,nl,na,hsl,hdr];exact Fini.ret rfl
end
theorem bel_rcV (n:Nat) (r:RcM):Bel n (rcV r):=.agg _ fun i hi=>by
 have hm:(rcC r)[i]'hi∈rcC r:=List.getElem_mem hi;generalize (rcC r)[i]'hi=x at hm;unfold rcC at hm;simp only[List.mem_cons,List.not_mem_nil,or_false]at hm;rcases hm with rfl|rfl|rfl|rfl
 · exact .pl _
 · exact .pl _
 · exact z1U _ _
 · exact .pl _
theorem z95 (n:Nat) (L:List RcM):BelO n (.row 4 (L.map rcV)):=fun x hx=>by
 obtain⟨r,_,rfl⟩:=List.mem_map.1 hx;exact bel_rcV n r
theorem z7Q (n q:Nat) (c:ChM) (h:q<n):BelO n (boxC q c):=fun x hx=>by
 rcases List.mem_cons.1 hx with rfl|hx
 · exact .pl _
 · rcases List.mem_cons.1 hx with rfl|hx
   · unfold rowC;split
     · exact .nils
     · exact .osl _ _ h
   · obtain⟨u,_,rfl⟩:=List.mem_map.1 hx;exact .pl _
theorem z7f {n:Nat} {σ:St} {i:Nat} {o:Ob} (h:∀x∈σ,BelO n x) (ho:BelO n o):∀x∈σ.set i o,BelO n x:=fun x hx=>by
 rcases List.mem_or_eq_of_mem_set hx with hx|rfl
 · exact h x hx
 · exact ho
def z5Q (c:ChM):Nat:=(c.L.getD (c.L.length-1) ⟨0,0,[],0⟩).ck
def takes (c:ChM) (ck:Nat) (bd:List UInt8) (cd:Int):Bool:=!decide (c.most≤(c.L.length:Int))&&(rcIs (z0i c ck bd cd)&& !decide ((ck:Int)<(z5Q c:Int)))
def chSt (σ:St) (p q:Nat) (c:ChM):St:=(σ.set q (.row 4 (c.L.map rcV))).set p (boxC q c)
theorem z5R {k n m:Nat} {xs ys:List AV}:∀{σ:St} {p:Nat},σ[p]?=some (.row n xs)→gloA (σ.set p (.row m ys)) k=gloA σ k
 |[],p,h=>by simp at h
 |o::s,0,h=>by
  simp only[List.getElem?_cons_zero,Option.some.injEq]at h;subst h;rfl
 |o::s,p+1,h=>by
  have h:s[p]?=some (.row n xs):=h;have ih:=z5R (k:=k) (m:=m) (ys:=ys) h;rw[List.set_cons_succ]
  cases o with
  |glo g vs =>
   simp only[gloA];by_cases hg:g=k
   · rw[if_pos hg,if_pos hg]
   · rw[if_neg hg,if_neg hg];exact ih
  |_=>simp only[gloA];exact ih
section
variable (σ:St)
set_option maxHeartbeats 4000000 in
theorem z4a (p q:Nat) (c:ChM) (hhd:c.head.length=32) (hL:c.L≠[]) (hLn:c.L.length≤100000) (ck:Nat) (bd:List UInt8) (cd:Int) (hp:σ[p]?=some (boxC q c)) (hq:σ[q]?=some (.row 4 (c.L.map rcV))) (hpl:p<σ.length) (hql:q<σ.length) (hpq:p≠q)
  (hne:bd≠[]) (hbl:bd.length≤40000) (hg:gloA σ 0=some kV) :
  Ans Tryz.prog 16 [.ptr p 0,UN ck,.sl 1 (bv bd),I cd] σ (Bo (takes c ck bd cd)) (if takes c ck bd cd then chSt σ p q (addCh c (z0i c ck bd cd)) else σ):=by
 have hcl:=fun s=>z5P s bd (by omega) hne
 have hp':∀ex,(σ++ex)[p]?=some (boxC q c):=fun ex=>by rw[List.getElem?_append_left hpl];exact hp
 have hq':∀ex,(σ++ex)[q]?=some (.row 4 (c.L.map rcV)):=fun ex=>by rw[List.getElem?_append_left hql];exact hq
 have hfu:=fun ex=>z38 (σ++ex) p q c (hp' ex) (fun _=>hq' ex)
 have hri:=fun s=>z51 s (z0i c ck bd cd) (by show bd.length≤50000;omega)
 have hrb:=fun s=>z2G s (z0i c ck bd cd) (by show bd.length≤50000;omega)
 have hie:c.L.isEmpty=false:=by
  cases h:c.L with
  |nil=>exact absurd h hL
  |cons _ _=>rfl
 have hb0:boxC q c=.box (I c.most::.osl q c.L.length::bv c.head):=by unfold boxC rowC;rw[hie];rfl
 rw[hb0]at hp;simp only[hb0]at hp';have hl:=z0h c.head;have ha:=z1q c.head;have htk:List.take 32 (bv c.head)=bv c.head:=List.take_of_length_le (by rw[hl,hhd];exact Nat.le_refl _)
 have hrr:rcV (z0i c ck bd cd)=.agg [I (c.L.length:Nat),UN ck,.sl 1 (bv bd),I cd]:=rfl;simp only[hrr]at hri hrb;have hml:(c.L.map rcV).length=c.L.length:=List.length_map ..;unfold takes z5Q;obtain⟨lr,hlr⟩:∃lr,lr=c.L.getD (c.L.length-1) ⟨0,0,[],0⟩:=⟨_,rfl⟩;rw[←hlr];generalize hRI:rcIs (z0i c ck bd cd)=ri at hri⊢;generalize decide (c.most≤(c.L.length:Int))=F at hfu⊢;refine Ans.of_run' t16 (fun hbel _=>?_)
 simp -implicitDefEqProofs only[c16,r16,go_sem,hp',hp,hq',hq,hml,List.drop_succ_cons,List.drop_zero,List.head?_cons,z0g]
 first|refine CD.intro (hcl _) ?_|refine CS.intro hcl ?_
 simp -implicitDefEqProofs only[go_sem,hp',hp,hq',hq,hml,List.drop_succ_cons,List.drop_zero,List.head?_cons,G0,S0,z0g];refine CD.intro (hfu _) ?_
 cases F with
 |true =>
  simp only[Bool.not_true,Bool.false_and,Bool.false_eq_true,if_false];simp -implicitDefEqProofs only[go_sem,z0g];exact Fini.trim2 (σ':=σ) (ex:=[_]) rfl rfl (Nat.le_refl _) (.pl _) hbel
 |false =>
  simp -implicitDefEqProofs only[go_sem,G0,z0g];refine CD.intro (hri _) ?_
  cases ri with
  |false =>
   simp only[Bool.not_false,Bool.false_and,Bool.and_false,Bool.false_eq_true,if_false];simp -implicitDefEqProofs only[go_sem,z0g,G0];exact Fini.trim2 (σ':=σ) (ex:=[_]) rfl rfl (Nat.le_refl _) (.pl _) hbel
  |true =>
   have hd1:decide ((0:Int)<(c.L.length:Nat))=true:=decide_eq_true (by have:c.L.length≠0:=fun h=>hL (List.length_eq_zero_iff.1 h);omega)
   have hw1:IntKind.i64.wrap (((c.L.length:Nat):Int)-1)=((c.L.length-1:Nat):Int):=by
    have:c.L.length≠0:=fun h=>hL (List.length_eq_zero_iff.1 h)
    simp only[IntKind.wrap,IntKind.bits,IntKind.signed];simp;omega
   have hp0:∀n:Nat,((0:Int)≤(n:Int))=True:=fun n=>eq_true (Int.natCast_nonneg _)
   have hlt:(((c.L.length-1:Nat):Int)<((c.L.length:Nat):Int))=True:=eq_true (by have:c.L.length≠0:=fun h=>hL (List.length_eq_zero_iff.1 h);omega)
   have hget:(c.L.map rcV)[c.L.length-1]?=some (.agg [I lr.ix,UN lr.ck,.sl 1 (bv lr.bd),I lr.cd]):=by
    rw[hlr];have h:c.L.length-1<c.L.length:=by have:c.L.length≠0:=fun h=>hL (List.length_eq_zero_iff.1 h);omega
    rw[List.getElem?_map,List.getElem?_eq_getElem h,List.getD_eq_getElem?_getD,List.getElem?_eq_getElem h];rfl
   simp -implicitDefEqProofs only[go_sem,hp',hp,hq',hq,hml,hd1,hw1,hp0,hlt,hget,Int.toNat_natCast,List.drop_succ_cons,List.drop_zero,List.head?_cons,G0,z0g]
   cases hG:decide ((ck:Int)<(lr.ck:Int)) with
   |true =>
    simp only[Bool.not_true,Bool.and_false,Bool.false_eq_true,if_false];simp -implicitDefEqProofs only[go_sem,z0g,hG];exact Fini.trim2 (σ':=σ) (ex:=[_]) rfl rfl (Nat.le_refl _) (.pl _) hbel
   |false =>
    simp only[Bool.not_false,Bool.and_self,if_true];have k1:(c.L.length+1≤2^32)=True:=eq_true (by omega)
    have hset:∀(x:Ob) (ex:St),(σ++ex).set q x=σ.set q x++ex:=fun x ex=>List.set_append_left _ _ hql
    have hsp:∀(x:Ob) (ex:St),(σ.set q x++ex)[p]?=some (.box (I c.most::.osl q c.L.length::bv c.head)):=fun x ex=>by
     rw[List.getElem?_append_left (by rw[List.length_set];exact hpl),List.getElem?_set_ne (fun h=>hpq h.symm)];exact hp
    have hsp0:∀z,(σ.set q (.row 4 z))[p]?=some (.box (I c.most::.osl q c.L.length::bv c.head)):=fun z=>by rw[List.getElem?_set_ne (fun h=>hpq h.symm)];exact hp
    have hset1:∀(x y:Ob) (ex:St),(σ.set q x++ex).set p y=(σ.set q x).set p y++ex:=fun x y ex=>List.set_append_left _ _ (by rw[List.length_set];exact hpl)
    have hX:∀(z x:Ob) (ex:St),((σ.set q z).set p x++ex)[p]?=some x:=fun z x ex=>by rw[List.getElem?_append_left (by rw[List.length_set,List.length_set];exact hpl),List.getElem?_set_self (by rw[List.length_set];exact hpl)]
    have hY:∀(z x y:Ob) (ex:St),((σ.set q z).set p x++y::ex)[σ.length]?=some y:=fun z x y ex=>by rw[List.getElem?_append_right (by rw[List.length_set,List.length_set];exact Nat.le_refl _),List.length_set,List.length_set,Nat.sub_self];rfl
    have hset2:∀(z x y:Ob) (ex:St),((σ.set q z).set p x++ex).set p y=(σ.set q z).set p y++ex:=fun z x y ex=>by rw[List.set_append_left _ _ (by rw[List.length_set,List.length_set];exact hpl),List.set_set]
    have hmm:c.L.map rcV++[.agg [I (c.L.length:Nat),UN ck,.sl 1 (bv bd),I cd]]=(addCh c (z0i c ck bd cd)).L.map rcV:=by
     show _=(c.L++[z0i c ck bd cd]).map rcV;rw[List.map_append];rfl
    simp -implicitDefEqProofs only[go_sem,z0g,hG,k1,hset,hsp,hset1,hX,hY,hset2,hq',hp',hml,hmm,G0,List.drop_succ_cons,List.drop_zero,List.head?_cons,hl,hhd,htk];refine CD.intro (hrb _) ?_;have hlk:=fun s=>z7e s c.head (z0s (z0i c ck bd cd)) hhd (z1o _ (show bd.length≤40000 from hbl))
    have hsha:=fun z ds ex=>z6g ((σ.set q (.row 4 z)).set p (.box ds)++ex) (linkB c.head (z0s (z0i c ck bd cd))) (by have:=z1o (z0i c ck bd cd) (show bd.length≤40000 from hbl);rw[z37];omega) (z1g (z1g (by rw[z52 (hsp0 z),z5R hq];exact hg) ex))
    have hac:addCh c (z0i c ck bd cd)=⟨c.most,c.L++[z0i c ck bd cd],shaB (linkB c.head (z0s (z0i c ck bd cd)))⟩:=rfl;have hsl:=z1A (linkB c.head (z0s (z0i c ck bd cd)))
    have hbx:boxC q (addCh c (z0i c ck bd cd))=.box (I c.most::.osl q (c.L.length+1)::bv (shaB (linkB c.head (z0s (z0i c ck bd cd))))):=by
     rw[hac];unfold boxC rowC;have:(c.L++[z0i c ck bd cd]).isEmpty=false:=by simp
     simp only[this,Bool.false_eq_true,if_false,List.length_append,List.length_cons,List.length_nil,Nat.zero_add]
    unfold chSt;rw[hbx];generalize shaB (linkB c.head (z0s (z0i c ck bd cd)))=nh at hsha hsl⊢;have nl:=z0h nh;have na:=z1q nh;have hdr:List.drop 32 (bv c.head)=[]:=List.drop_of_length_le (by rw[hl,hhd];exact Nat.le_refl _)
    simp -implicitDefEqProofs only[go_sem,z0g,hX,hY,hset2,List.drop_succ_cons,List.drop_zero,hl,hhd,htk];refine CD.intro (hlk _) ?_;simp -implicitDefEqProofs only[go_sem,z0g,hX,hY,hset2,List.drop_succ_cons,List.drop_zero,hl,hhd,htk];refine CD.intro (hsha _ _ _) ?_;simp -implicitDefEqProofs only[go_sem,z0g,hX,hY,hset2,List.drop_succ_cons,List.drop_zero,hl,hhd,htk,nl,na,hsl,hdr,List.append_nil];refine Fini.trim2 (ex:=[_]) rfl rfl (by rw[List.length_set,List.length_set];exact Nat.le_refl _) (.pl _) ?_
    rw[List.length_set,List.length_set];refine z7f (z7f hbel (z95 _ _)) ?_;have:=z7Q σ.length q ⟨c.most,c.L++[z0i c ck bd cd],nh⟩ hql;unfold boxC rowC at this;have he:(c.L++[z0i c ck bd cd]).isEmpty=false:=by simp
    simp only[he,Bool.false_eq_true,if_false,List.length_append,List.length_cons,List.length_nil,Nat.zero_add]at this;exact this
end
def oneR (i:Nat):RcM:=⟨i,i,[1],0⟩
def oneL (i:Nat):List RcM:=(List.range i).map oneR
theorem z23 (i:Nat):(oneL i).length=i:=by simp[oneL]
theorem z96 (i:Nat):oneL i++[oneR i]=oneL (i+1):=by unfold oneL;rw[List.range_succ,List.map_append];rfl
theorem za8 (i k:Nat) (h:k<i) (d:RcM):(oneL i).getD k d=oneR k:=by
 rw[List.getD_eq_getElem?_getD];unfold oneL;rw[List.getElem?_map,List.getElem?_range h];rfl
def headF (o:Int):Nat→List UInt8
 |0=>shaB (genB o)
 |i+1=>shaB (linkB (headF o i) (z0s (oneR i)))
theorem z5S (o:Int):∀i,(headF o i).length=32
 |0=>z1A _
 |i+1=>z1A _
def chF (o m:Int) (i:Nat):ChM:=⟨heldM m,oneL i,headF o i⟩
theorem z3F (o m:Int) (i:Nat):z0i (chF o m i) i [1] 0=oneR i:=by
 unfold z0i chF oneR;simp only[z23]
theorem z7g (o m:Int) (i:Nat):addCh (chF o m i) (z0i (chF o m i) i [1] 0)=chF o m (i+1):=by
 rw[z3F];unfold addCh chF;simp only[z96];rfl
theorem z6z (m:Int):0≤heldM m∧heldM m≤200:=by unfold heldM;split<;>(try split)<;>omega
def topF (m:Int):Nat:=(heldM m).toNat
theorem z3j (m:Int):heldM m=((topF m:Nat):Int):=by unfold topF;have:=z6z m;omega
theorem zbu (o m:Int) (i:Nat) (hi:0<i) (his:rcIs (oneR i)=true):takes (chF o m i) i [1] 0=decide (i<topF m):=by
 unfold takes;rw[z3F,his]
 have hl:z5Q (chF o m i)=i-1:=by
  unfold z5Q chF;simp only[z23];rw[za8 _ _ (by omega)];rfl
 rw[hl];have hm:(chF o m i).most=((topF m:Nat):Int):=z3j m;have hL:(chF o m i).L.length=i:=z23 i;rw[hm,hL,Bool.eq_iff_iff];simp only[Bool.and_eq_true,Bool.not_eq_true',decide_eq_false_iff_not,decide_eq_true_eq,true_and];omega
theorem z7h (i:Nat) (h:i≤1000):rcIs (oneR i)=true:=by
 have hb:bdB [1]=true:=by kernel_rfl
 have hc:cdB 0=true:=rfl;unfold rcIs oneR;simp only[hb,hc,Bool.and_true,Bool.true_and,Bool.and_eq_true,decide_eq_true_eq];omega
def glo0:Ob:=.glo 0 kV
def glo1:Ob:=.glo 1 kV
abbrev GG:St:=[glo0,glo1]
def lay (m:Int):Nat→St
 |0=>[glo0,glo1,boxC 0 (chF 1 m 0)]
 |j+1=>[glo0,glo1,boxC 4 (chF 1 m (j+1)),.box (rcC (oneR 0)),.row 4 ((oneL (j+1)).map rcV)]
theorem gg0:gloA GG 0=some kV:=rfl
theorem lay_g (m:Int) (j:Nat):gloA (lay m j) 0=some kV∧gloA (lay m j) 1=some kV:=by cases j<;>exact⟨rfl,rfl⟩
theorem za9 (m:Int) (j:Nat):Ans Tryz.prog 13 [.ptr 2 0] (lay m j) (Bo (decide (topF m≤j))) (lay m j):=by
 have e:decide ((chF 1 m j).most≤(((chF 1 m j).L.length:Nat):Int))=decide (topF m≤j):=by
  have h1:(chF 1 m j).most=((topF m:Nat):Int):=z3j m;have h2:(chF 1 m j).L.length=j:=z23 j;rw[h1,h2,Bool.eq_iff_iff];simp only[decide_eq_true_eq];omega
 rw[←e]
 cases j with
 |zero=>exact z38 (lay m 0) 2 0 (chF 1 m 0) rfl (fun h=>absurd rfl h)
 |succ j=>exact z38 (lay m (j+1)) 2 4 (chF 1 m (j+1)) rfl (fun _=>rfl)
theorem zbv (m:Int) (j:Nat):Ans Tryz.prog 14 [.ptr 2 0] (lay m j) (I j) (lay m j):=by
 have h2:(chF 1 m j).L.length=j:=z23 j;have e:I (((chF 1 m j).L.length:Nat):Int)=I j:=by rw[h2]
 rw[←e]
 cases j with
 |zero=>exact z6y (lay m 0) 2 0 (chF 1 m 0) rfl (fun h=>absurd rfl h)
 |succ j=>exact z6y (lay m (j+1)) 2 4 (chF 1 m (j+1)) rfl (fun _=>rfl)
theorem z7R (c:ChM) (ck:Nat) (bd:List UInt8) (cd:Int) (h:c.most≤(c.L.length:Int)):takes c ck bd cd=false:=by
 unfold takes;rw[decide_eq_true h];rfl
theorem zcC (o m:Int) (i:Nat):(chF o m i).head.length=32:=by unfold chF;exact z5S o i
theorem zbw (j:Nat):oneL (j+1)≠[]:=fun h=>by have:=z23 (j+1);rw[h]at this;cases this
theorem zbx (m:Int) (j i:Nat) (hj:j≤1000) (hi:j<topF m→i=j) :
  Ans Tryz.prog 16 [.ptr 2 0,UN i,.sl 1 (bv [1]),I 0] (lay m j) (Bo (decide (j<topF m))) (lay m (if j<topF m then j+1 else j)):=by
 cases j with
 |zero =>
  have h:=z3p (lay m 0) 2 (heldM m) (headF 1 0) (z5S 1 0) i [1] 0 rfl (by show 2<3;decide) (by decide) (by decide) (lay_g m 0).1
  by_cases ht:0<topF m
  · have hi0:=hi ht;subst hi0
    have e1:(!decide (heldM m≤0)&&rcIs (z0i ⟨heldM m,[],headF 1 0⟩ 0 [1] 0))=true:=by
     have:=z3F 1 m 0;rw[show(⟨heldM m,[],headF 1 0⟩:ChM)=chF 1 m 0 from rfl,this,z7h 0 (by decide),z3j]
     simp;omega
    rw[e1,if_pos rfl]at h;rw[decide_eq_true ht,if_pos ht];have e2:=z7g 1 m 0;have e3:=z3F 1 m 0;rw[show(⟨heldM m,[],headF 1 0⟩:ChM)=chF 1 m 0 from rfl,e2,e3]at h
    exact h
  · have e1:(!decide (heldM m≤0)&&rcIs (z0i ⟨heldM m,[],headF 1 0⟩ i [1] 0))=false:=by
     rw[z3j,decide_eq_true (by omega)];rfl
    rw[e1]at h;rw[decide_eq_false ht,if_neg ht];exact h
 |succ j =>
  have hL:(chF 1 m (j+1)).L.length=j+1:=z23 (j+1);have h:=z4a (lay m (j+1)) 2 4 (chF 1 m (j+1)) (zcC 1 m (j+1)) (zbw j) (by rw[hL];omega) i [1] 0 rfl rfl (by show 2<5;decide) (by show 4<5;decide) (by decide) (by decide) (by decide) (lay_g m (j+1)).1
  by_cases ht:j+1<topF m
  · have hi0:=hi ht;subst hi0;have e1:=zbu 1 m (j+1) (by omega) (z7h (j+1) (by omega))
    rw[e1,decide_eq_true ht,if_pos rfl]at h;rw[decide_eq_true ht,if_pos ht];rw[z7g]at h;exact h
  · have e1:=z7R (chF 1 m (j+1)) i [1] 0 (by rw[hL];have:(chF 1 m (j+1)).most=((topF m:Nat):Int):=z3j m;rw[this];omega)
    rw[e1]at h;rw[decide_eq_false ht,if_neg ht];exact h
section
variable (σ:St)
theorem zaa (n lo hi:Int):Ans Tryz.prog 12 [I n,I lo,I hi] σ (I (if n<lo then lo else if hi<n then hi else n)) σ:=by
 refine Ans.of_run t12 ?_
 cases h1:decide (n<lo) with
 |true =>
  simp -implicitDefEqProofs only[c12,r12,go_sem,h1];rw[if_pos (of_decide_eq_true h1)];exact Fini.ret rfl
 |false =>
  rw[if_neg (of_decide_eq_false h1)]
  cases h2:decide (hi<n) with
  |true =>
   simp -implicitDefEqProofs only[c12,r12,go_sem,h1,h2];rw[if_pos (of_decide_eq_true h2)];exact Fini.ret rfl
  |false =>
   simp -implicitDefEqProofs only[c12,r12,go_sem,h1,h2];rw[if_neg (of_decide_eq_false h2)];exact Fini.ret rfl
end
theorem zab (m:Int):(if m<0 then(0:Int) else if(200:Int)<m then 200 else m)=((topF m:Nat):Int):=by
 rw[←z3j];unfold heldM;split<;>(try split)<;>(try split)<;>omega
set_option maxHeartbeats 2000000 in
theorem chainFull_ans (m:Int) (n:UInt8) (hrun:∀σ,gloA σ 0=some kV→gloA σ 1=some kV→Ans Tryz.prog 15 [] σ (Bo true) σ):Ans Tryz.prog 3 [I m,.pl (.int .u8 ((n.toNat:Nat):Int))] GG (.pl (.bool true)) GG:=by
 have hnew:Ans Tryz.prog 11 [I 1,I m] GG (.ptr 2 0) (lay m 0):=new_ans GG 1 m (fun ex=>z1g gg0 ex)
 have hh:=fun s=>zaa s m 0 200
 simp only[zab]at hh;have hf:=za9 m;have hl:=zbv m;have hr:=fun j=>hrun (lay m j) (lay_g m j).1 (lay_g m j).2
 have ha:=zbx m;have hb1:bv [1]=[.pl (.int .u8 1)]:=rfl;have hnp:∀s:St,nilA2 s true (.ptr 2 0)=some false:=fun _=>rfl
 rw[hb1]at ha;generalize hT:topF m=T at *;refine Ans.of_run' t3 (fun hbel _=>?_)
 simp -implicitDefEqProofs only[c3,r3,go_sem];refine CO.intro hnew ?_;simp -implicitDefEqProofs only[go_sem,hnp];refine CO.intro (hh _) ?_;by_cases h20:20<T
 · have d20:decide ((20:Int)<((T:Nat):Int))=true:=decide_eq_true (by omega)
   have hf0:=hf 0;have hl0:=hl 0;have e0:decide (T≤0)=false:=decide_eq_false (by omega)
   rw[e0]at hf0;have z0:((((0:Nat):Int))==0)=true:=rfl;simp -implicitDefEqProofs only[go_sem,d20];refine CO.intro hf0 ?_;simp -implicitDefEqProofs only[go_sem];refine CO.intro hl0 ?_;simp -implicitDefEqProofs only[go_sem,z0];refine CO.intro (hr 0) ?_;simp -implicitDefEqProofs only[go_sem];exact Fini.trim2 (σ':=GG) (ex:=[_]) rfl rfl (Nat.le_refl _) (.pl _) hbel
 · have d20:decide ((20:Int)<((T:Nat):Int))=false:=decide_eq_false (by omega)
   have hk30:((n.toNat:Nat):Int).tmod 30=((n.toNat%30:Nat):Int):=rfl;have hkl:n.toNat%30<30:=Nat.mod_lt _ (by decide)
   generalize n.toNat%30=k at hk30 hkl;have wk:IntKind.i64.wrap ((k:Nat):Int)=((k:Nat):Int):=z0l (by omega)
   simp -implicitDefEqProofs only[go_sem,d20];refine Go.Ab.L.count k (fun i=>mkE 71 [(1,.pl (.int .u8 ((n.toNat:Nat):Int))),(5,.ptr 2 0),(6,I T),(7,I i)]) (fun i=>lay m (min i T)) ?_ ?_ rfl (by rw[Nat.zero_min])
   · intro i hi J hJ;have hd:decide ((i:Int)<((k:Nat):Int))=true:=decide_eq_true (by omega)
     have e1:decide (T≤min i T)=decide (T≤i):=by rw[Bool.eq_iff_iff];simp only[decide_eq_true_eq];omega
     have e2:decide (((T:Nat):Int)≤(i:Int))=decide (T≤i):=by rw[Bool.eq_iff_iff];simp only[decide_eq_true_eq];omega
     have e3:(decide (T≤i) != decide (T≤i))=false:=by cases decide (T≤i)<;>rfl
     have e4:decide (min i T<T)=decide (i<T):=by rw[Bool.eq_iff_iff];simp only[decide_eq_true_eq];omega
     have e5:decide ((i:Int)<((T:Nat):Int))=decide (i<T):=by rw[Bool.eq_iff_iff];simp only[decide_eq_true_eq];omega
     have e6:(decide (i<T) != decide (i<T))=false:=by cases decide (i<T)<;>rfl
     have wu:IntKind.u64.wrap ((i:Nat):Int)=((i:Nat):Int):=by simp only[IntKind.wrap,IntKind.bits,IntKind.signed];simp;omega
     have wi:IntKind.i64.wrap ((i:Int)+1)=((i+1:Nat):Int):=by rw[←z0l (n:=i+1) (by omega)];congr 1
     have hfi:=hf (min i T);rw[e1]at hfi;have hai:=ha (min i T) i (by omega) (fun h=>by omega)
     rw[e4]at hai;have es:(if min i T<T then min i T+1 else min i T)=min (i+1) T:=by split<;>omega
     rw[es]at hai;simp -implicitDefEqProofs only[mkE,go_sem,hk30,wk,hd];refine CO.intro hfi ?_;simp -implicitDefEqProofs only[go_sem,e2,e3,wu];refine CO.intro hai ?_;simp -implicitDefEqProofs only[go_sem,e5,e6,wi];exact hJ
   · intro J;have hd:decide ((k:Int)<((k:Nat):Int))=false:=decide_eq_false (by omega)
     have hfi:=hf (min k T);have hli:=hl (min k T);have em:(if(((T:Nat):Int))<((k:Nat):Int) then((T:Nat):Int) else((k:Nat):Int))=((min k T:Nat):Int):=by split<;>omega
     have e7:((((min k T:Nat):Int))==((min k T:Nat):Int))=true:=by simp
     have e8:decide (T≤min k T)=((((min k T:Nat):Int))==((T:Nat):Int)):=by rw[Bool.eq_iff_iff];simp only[decide_eq_true_eq,beq_iff_eq];omega
     have e9:∀b:Bool,(b==b)=true:=fun b=>by cases b<;>rfl
     rw[e8]at hfi;simp -implicitDefEqProofs only[mkE,go_sem,hk30,wk,hd];refine CO.intro hli ?_;simp -implicitDefEqProofs only[go_sem,hk30,wk,em,e7];refine CO.intro hfi ?_;simp -implicitDefEqProofs only[go_sem];refine CO.intro hli ?_;simp -implicitDefEqProofs only[go_sem,e9];refine CO.intro (hr _) ?_;simp -implicitDefEqProofs only[go_sem];have hlay:∃ex,lay m (min k T)=GG++ex:=by cases min k T with|zero=>exact⟨_,rfl⟩|succ j=>exact⟨_,rfl⟩
     obtain⟨ex,hex⟩:=hlay;exact Fini.trim2 (σ':=GG) (ex:=ex) rfl hex (Nat.le_refl _) (.pl _) hbel
end Go.Proofs.YteakobbdgehlgaaGreatDoor.Sha
