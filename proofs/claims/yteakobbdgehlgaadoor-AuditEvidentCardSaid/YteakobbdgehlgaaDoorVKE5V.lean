/- What req.read reads, at some of the field sets. Printed by a program. No condition. -/
import Derived.Test.YteakobbdgehlgaaDoorVKRq5aV
import Derived.Test.YteakobbdgehlgaaDoorVKRc7V
import Derived.Test.YteakobbdgehlgaaDoorVMRunV
import Derived.Test.YteakobbdgehlgaaDoorVMCode1V
import Derived.Test.YteakobbdgehlgaaDoorAbGloV
import Derived.Test.YteakobbdgehlgaaDoorAbArgV
import Derived.Test.YteakobbdgehlgaaDoorVKXCmpV
set_option linter.unusedSimpArgs false
set_option linter.unusedVariables false
set_option linter.unusedSectionVars false
set_option maxRecDepth 100000
set_option maxHeartbeats 8000000
namespace Go.Proofs.YteakobbdgehlgaaDoor
open Go Go.Ab Go.Cod
section
variable (A:Nat×Bool→St) (n p:Nat) (b:Byt) (hn:∀q,(A q).length=n) (hg:∀q,(A q)[p]?=some (rob b q)) (hs:∀q q',(A q).set p (rob b q')=A q') (hb:b.length≤50000)
include hn hg hs hb
theorem z9X (q:Nat×Bool) (hq:Inb b q) (c:UInt8) (q1:Nat×Bool) (hc:runR byteR 0 b q=(c,q1)) (ok:Bool) (hf:fOf (c.toNat:Int)=(116,ok)) :
  Ans Tryd.prog 39 [.ptr p 0] (A q) (reV (bodyS b q).1) (A (bodyS b q).2):=by
 obtain⟨y0,u0,gs⟩:=rd_facts A n p b hn hg hs q;have k0:=z0B (A q++[B19]) p b q (y0 _ _) hq hb;have j0:=z09 byteR 0 b q hq
 have o0:bodyS b q=z0m (fun q1=>clS 116 (c.toNat:Int) b (took q1 0 ok)) mayR q1:=by
  unfold bodyS;rw[hc];simp only[hf]
 rw[hc]at k0 j0;rw[o0];simp only at k0 j0;rw[u0]at k0;have k1:=z0F (A q1++[B19,.box (XC116 c (UN 0) (UN 0) .nils (Bo false) (Fl 0) (Fl 0))]) (c.toNat:Int);rw[hf]at k1;have k2:=z08 (A q1++[B19,.box (XC116 c (UN 0) (UN 0) .nils (Bo false) (Fl 0) (Fl 0))]) p b q1 ok (y0 _ _) j0 hb;rw[u0]at k2;have r0:=z0I b q1 ok j0;unfold z0m;simp only;generalize took q1 0 ok=q2 at k2 r0⊢;have wc:IntKind.i64.wrap (c.toNat:Int)=(c.toNat:Int):=wrapI (by have:=c.toNat_lt;omega)
 have l0:clS 116 (c.toNat:Int) b q2=(mk116 (c.toNat:Int) ((runR (numR 1099511627776) 0 b q2).1,(runR (numR 1099511627776) 0 b (runR (numR 1099511627776) 0 b q2).2).1,(runR listR [] b (runR (numR 1099511627776) 0 b (runR (numR 1099511627776) 0 b q2).2).2).1,(runR bandR (false,0,0) b (runR listR [] b (runR (numR 1099511627776) 0 b (runR (numR 1099511627776) 0 b q2).2).2).2).1),(runR bandR (false,0,0) b (runR listR [] b (runR (numR 1099511627776) 0 b (runR (numR 1099511627776) 0 b q2).2).2).2).2):=rfl;rw[l0];simp only;have k3:=z1g (A q2++[B19,.box (XC116 c (UN 0) (UN 0) .nils (Bo false) (Fl 0) (Fl 0))]) p b q2 1099511627776 (by decide) (y0 _ _) r0 hb
 rw[u0]at k3;have n0:=z09 (numR 1099511627776) 0 b q2 r0;have h0:=z1A (most:=1099511627776) b q2;generalize runR (numR 1099511627776) 0 b q2=w0 at k3 n0 h0⊢;obtain⟨v0,q3⟩:=w0;simp only at k3 n0 h0⊢;have k4:=z1g (A q3++[B19,.box (XC116 c (UN 0) (UN 0) .nils (Bo false) (Fl 0) (Fl 0))]) p b q3 1099511627776 (by decide) (y0 _ _) n0 hb
 rw[u0]at k4;have q0:=z09 (numR 1099511627776) 0 b q3 n0;have f0:=z1A (most:=1099511627776) b q3;generalize runR (numR 1099511627776) 0 b q3=w1 at k4 q0 f0⊢;obtain⟨v1,q4⟩:=w1;simp only at k4 q0 f0⊢;have k5:=z5F (A q4++[B19,.box (XC116 c (UN v0) (UN v1) .nils (Bo false) (Fl 0) (Fl 0))]) p b q4 (y0 _ _) q0 hb;rw[u0]at k5;have m0:=z09 listR [] b q4 q0;generalize runR listR [] b q4=w2 at k5 m0⊢;obtain⟨v2,q5⟩:=w2;simp only at k5 m0⊢;have k6:=z8D (A q5++[B19,.box (XC116 c (UN v0) (UN v1) (mlV v2) (Bo false) (Fl 0) (Fl 0))]) p b q5 (y0 _ _) m0 hb;rw[u0]at k6;have t0:=z09 bandR (false,0,0) b q5 m0;generalize runR bandR (false,0,0) b q5=w3 at k6 t0⊢;obtain⟨v3,q6⟩:=w3;simp only at k6 t0⊢;obtain⟨ba,bl,bh⟩:=v3;unfold bandV at k6;simp only at k6⊢;have e0:Sub (.agg (XC116 c (UN v0) (UN v1) (mlV v2) (Bo ba) (Fl bl) (Fl bh))) (reV (mk116 (c.toNat:Int) (v0,v1,v2,(ba,bl,bh)))):=.agg (.cons (.refl _) <| .cons (.refl _) <| .cons (.refl _) <| .cons (.refl _) <| .cons (.refl _) <| .cons (.refl _) <| .cons (.refl _) <| .cons (.refl _) <| .cons (.refl _) <| .cons (.refl _) <| .cons (.refl _) <| .cons (.nils 3) <| .cons (.nils 3) <| .cons (.refl _) <| .cons (.refl _) <| .cons (.refl _) <| .cons (.nils 1) <| .cons (.nils 2) <| .cons (.refl _) <| .nil);have km:=(z1u (A q6++[B19,.box (XC116 c (UN v0) (UN v1) (mlV v2) (Bo ba) (Fl bl) (Fl bh))]) (mk116 (c.toNat:Int) (v0,v1,v2,(ba,bl,bh)))).subA (.cons e0 .nil)
 have ke:=z08 (A q6++[B19,.box (XC116 c (UN v0) (UN v1) (mlV v2) (Bo ba) (Fl bl) (Fl bh))]) p b q6 (mayR (mk116 (c.toNat:Int) (v0,v1,v2,(ba,bl,bh)))) (y0 _ _) t0 hb;rw[u0]at ke;generalize mayR (mk116 (c.toNat:Int) (v0,v1,v2,(ba,bl,bh)))=okm at km ke⊢;generalize took q6 0 okm=qe at ke⊢;refine Ans.subR ?_ e0;refine Ans.of_run' t39 (fun d0 _=>?_)
 simp -implicitDefEqProofs only[c39,r39,go_sem,y0,u0,gs,hn,ap4];refine CO.intro k0 ?_;simp -implicitDefEqProofs only[go_sem,bc,wc,y0,u0,gs,hn,ap4];refine CO.intro k1 ?_;simp -implicitDefEqProofs only[go_sem];refine CO.intro k2 ?_;simp -implicitDefEqProofs only[go_sem,bc,y0,u0,gs,hn,ap4];refine CO.intro k3 ?_;simp -implicitDefEqProofs only[go_sem,bc,y0,u0,gs,hn,ap4];refine CO.intro k4 ?_;simp -implicitDefEqProofs only[go_sem,bc,y0,u0,gs,hn,ap4];refine CO.intro k5 ?_;simp -implicitDefEqProofs only[go_sem,bc,y0,u0,gs,hn,ap4];refine CO.intro k6 ?_;simp -implicitDefEqProofs only[go_sem,bc,y0,u0,gs,hn,ap4];refine CO.intro km ?_;simp -implicitDefEqProofs only[go_sem];refine CO.intro ke ?_;simp -implicitDefEqProofs only[go_sem,y0,u0,gs,hn,ap4]
 have u1:Bel (A qe).length (.agg (XC116 c (UN v0) (UN v1) (mlV v2) (Bo ba) (Fl bl) (Fl bh))):=.agg _ (fun i hi=>by
  have:∀y∈(XC116 c (UN v0) (UN v1) (mlV v2) (Bo ba) (Fl bl) (Fl bh):List AV),Bel (A qe).length y:=by
   intro y hy;simp only[List.mem_cons,List.not_mem_nil,or_false]at hy;rcases hy with rfl|rfl|rfl|rfl|rfl|rfl|rfl|rfl|rfl|rfl|rfl|rfl|rfl|rfl|rfl|rfl|rfl|rfl|rfl
   all_goals first|exact .pl _|exact .nils|exact z0K _ _|exact z1B _ _|exact z0V _ _
  exact this _ (List.getElem_mem hi))
 exact Fini.trim2 (σ':=A qe) (ex:=[_,_]) (by simp -implicitDefEqProofs only[go_sem,resA,z04,rvA,oneOf,gs]<;>rfl) rfl (Nat.le_of_eq (by simp only[hn])) u1 (fun o ho=>by
  rw[←hs q qe]at ho;rw[hn];rw[hn]at d0
  exact z1q (o:=rob b qe) d0 (z25 _ _) o ho)
theorem z9Y (q:Nat×Bool) (hq:Inb b q) (c:UInt8) (q1:Nat×Bool) (hc:runR byteR 0 b q=(c,q1)) (ok:Bool) (hf:fOf (c.toNat:Int)=(117,ok)) :
  Ans Tryd.prog 39 [.ptr p 0] (A q) (reV (bodyS b q).1) (A (bodyS b q).2):=by
 obtain⟨y0,u0,gs⟩:=rd_facts A n p b hn hg hs q;have k0:=z0B (A q++[B19]) p b q (y0 _ _) hq hb;have m0:=z09 byteR 0 b q hq
 have y1:bodyS b q=z0m (fun q1=>clS 117 (c.toNat:Int) b (took q1 0 ok)) mayR q1:=by
  unfold bodyS;rw[hc];simp only[hf]
 rw[hc]at k0 m0;rw[y1];simp only at k0 m0;rw[u0]at k0;have k1:=z0F (A q1++[B19,.box (XC117 c (I 0) (UN 0) (UN 0) .nils (Bo false) (Fl 0) (Fl 0))]) (c.toNat:Int);rw[hf]at k1;have k2:=z08 (A q1++[B19,.box (XC117 c (I 0) (UN 0) (UN 0) .nils (Bo false) (Fl 0) (Fl 0))]) p b q1 ok (y0 _ _) m0 hb;rw[u0]at k2;have t0:=z0I b q1 ok m0;unfold z0m;simp only;generalize took q1 0 ok=q2 at k2 t0⊢;have wc:IntKind.i64.wrap (c.toNat:Int)=(c.toNat:Int):=wrapI (by have:=c.toNat_lt;omega)
 have x1:clS 117 (c.toNat:Int) b q2=(mk117 (c.toNat:Int) ((runR (numR 2147483647) 0 b q2).1,(runR (numR 1099511627776) 0 b (runR (numR 2147483647) 0 b q2).2).1,(runR (numR 1099511627776) 0 b (runR (numR 1099511627776) 0 b (runR (numR 2147483647) 0 b q2).2).2).1,(runR listR [] b (runR (numR 1099511627776) 0 b (runR (numR 1099511627776) 0 b (runR (numR 2147483647) 0 b q2).2).2).2).1,(runR bandR (false,0,0) b (runR listR [] b (runR (numR 1099511627776) 0 b (runR (numR 1099511627776) 0 b (runR (numR 2147483647) 0 b q2).2).2).2).2).1),(runR bandR (false,0,0) b (runR listR [] b (runR (numR 1099511627776) 0 b (runR (numR 1099511627776) 0 b (runR (numR 2147483647) 0 b q2).2).2).2).2).2):=rfl;rw[x1];simp only;have k3:=z1g (A q2++[B19,.box (XC117 c (I 0) (UN 0) (UN 0) .nils (Bo false) (Fl 0) (Fl 0))]) p b q2 2147483647 (by decide) (y0 _ _) t0 hb
 rw[u0]at k3;have r0:=z09 (numR 2147483647) 0 b q2 t0;have u1:=z1A (most:=2147483647) b q2;generalize runR (numR 2147483647) 0 b q2=w0 at k3 r0 u1⊢;obtain⟨v0,q3⟩:=w0;simp only at k3 r0 u1⊢;have h0:IntKind.i64.wrap (v0:Int)=(v0:Int):=wrapI (by omega)
 have k4:=z1g (A q3++[B19,.box (XC117 c (I (v0:Nat)) (UN 0) (UN 0) .nils (Bo false) (Fl 0) (Fl 0))]) p b q3 1099511627776 (by decide) (y0 _ _) r0 hb
 rw[u0]at k4;have q0:=z09 (numR 1099511627776) 0 b q3 r0;have o0:=z1A (most:=1099511627776) b q3;generalize runR (numR 1099511627776) 0 b q3=w1 at k4 q0 o0⊢;obtain⟨v1,q4⟩:=w1;simp only at k4 q0 o0⊢;have k5:=z1g (A q4++[B19,.box (XC117 c (I (v0:Nat)) (UN 0) (UN 0) .nils (Bo false) (Fl 0) (Fl 0))]) p b q4 1099511627776 (by decide) (y0 _ _) q0 hb
 rw[u0]at k5;have n0:=z09 (numR 1099511627776) 0 b q4 q0;have l0:=z1A (most:=1099511627776) b q4;generalize runR (numR 1099511627776) 0 b q4=w2 at k5 n0 l0⊢;obtain⟨v2,q5⟩:=w2;simp only at k5 n0 l0⊢;have k6:=z5F (A q5++[B19,.box (XC117 c (I (v0:Nat)) (UN v1) (UN v2) .nils (Bo false) (Fl 0) (Fl 0))]) p b q5 (y0 _ _) n0 hb;rw[u0]at k6;have j0:=z09 listR [] b q5 n0;generalize runR listR [] b q5=w3 at k6 j0⊢;obtain⟨v3,q6⟩:=w3;simp only at k6 j0⊢;have k7:=z8D (A q6++[B19,.box (XC117 c (I (v0:Nat)) (UN v1) (UN v2) (mlV v3) (Bo false) (Fl 0) (Fl 0))]) p b q6 (y0 _ _) j0 hb;rw[u0]at k7;have d0:=z09 bandR (false,0,0) b q6 j0;generalize runR bandR (false,0,0) b q6=w4 at k7 d0⊢;obtain⟨v4,q7⟩:=w4;simp only at k7 d0⊢;obtain⟨ba,bl,bh⟩:=v4;unfold bandV at k7;simp only at k7⊢;have f0:Sub (.agg (XC117 c (I (v0:Nat)) (UN v1) (UN v2) (mlV v3) (Bo ba) (Fl bl) (Fl bh))) (reV (mk117 (c.toNat:Int) (v0,v1,v2,v3,(ba,bl,bh)))):=.agg (.cons (.refl _) <| .cons (.refl _) <| .cons (.refl _) <| .cons (.refl _) <| .cons (.refl _) <| .cons (.refl _) <| .cons (.refl _) <| .cons (.refl _) <| .cons (.refl _) <| .cons (.refl _) <| .cons (.refl _) <| .cons (.nils 3) <| .cons (.nils 3) <| .cons (.refl _) <| .cons (.refl _) <| .cons (.refl _) <| .cons (.nils 1) <| .cons (.nils 2) <| .cons (.refl _) <| .nil);have km:=(z1u (A q7++[B19,.box (XC117 c (I (v0:Nat)) (UN v1) (UN v2) (mlV v3) (Bo ba) (Fl bl) (Fl bh))]) (mk117 (c.toNat:Int) (v0,v1,v2,v3,(ba,bl,bh)))).subA (.cons f0 .nil)
 have ke:=z08 (A q7++[B19,.box (XC117 c (I (v0:Nat)) (UN v1) (UN v2) (mlV v3) (Bo ba) (Fl bl) (Fl bh))]) p b q7 (mayR (mk117 (c.toNat:Int) (v0,v1,v2,v3,(ba,bl,bh)))) (y0 _ _) d0 hb;rw[u0]at ke;generalize mayR (mk117 (c.toNat:Int) (v0,v1,v2,v3,(ba,bl,bh)))=okm at km ke⊢;generalize took q7 0 okm=qe at ke⊢;refine Ans.subR ?_ f0;refine Ans.of_run' t39 (fun e0 _=>?_)
 simp -implicitDefEqProofs only[c39,r39,go_sem,y0,u0,gs,hn,ap4];refine CO.intro k0 ?_;simp -implicitDefEqProofs only[go_sem,bc,wc,y0,u0,gs,hn,ap4];refine CO.intro k1 ?_;simp -implicitDefEqProofs only[go_sem];refine CO.intro k2 ?_;simp -implicitDefEqProofs only[go_sem,bc,y0,u0,gs,hn,ap4];refine CO.intro k3 ?_;simp -implicitDefEqProofs only[go_sem,bc,h0,y0,u0,gs,hn,ap4];refine CO.intro k4 ?_;simp -implicitDefEqProofs only[go_sem,bc,h0,y0,u0,gs,hn,ap4];refine CO.intro k5 ?_;simp -implicitDefEqProofs only[go_sem,bc,h0,y0,u0,gs,hn,ap4];refine CO.intro k6 ?_;simp -implicitDefEqProofs only[go_sem,bc,h0,y0,u0,gs,hn,ap4];refine CO.intro k7 ?_;simp -implicitDefEqProofs only[go_sem,bc,h0,y0,u0,gs,hn,ap4];refine CO.intro km ?_;simp -implicitDefEqProofs only[go_sem];refine CO.intro ke ?_;simp -implicitDefEqProofs only[go_sem,y0,u0,gs,hn,ap4]
 have j1:Bel (A qe).length (.agg (XC117 c (I (v0:Nat)) (UN v1) (UN v2) (mlV v3) (Bo ba) (Fl bl) (Fl bh))):=.agg _ (fun i hi=>by
  have:∀y∈(XC117 c (I (v0:Nat)) (UN v1) (UN v2) (mlV v3) (Bo ba) (Fl bl) (Fl bh):List AV),Bel (A qe).length y:=by
   intro y hy;simp only[List.mem_cons,List.not_mem_nil,or_false]at hy;rcases hy with rfl|rfl|rfl|rfl|rfl|rfl|rfl|rfl|rfl|rfl|rfl|rfl|rfl|rfl|rfl|rfl|rfl|rfl|rfl
   all_goals first|exact .pl _|exact .nils|exact z0K _ _|exact z1B _ _|exact z0V _ _
  exact this _ (List.getElem_mem hi))
 exact Fini.trim2 (σ':=A qe) (ex:=[_,_]) (by simp -implicitDefEqProofs only[go_sem,resA,z04,rvA,oneOf,gs]<;>rfl) rfl (Nat.le_of_eq (by simp only[hn])) j1 (fun o ho=>by
  rw[←hs q qe]at ho;rw[hn];rw[hn]at e0
  exact z1q (o:=rob b qe) e0 (z25 _ _) o ho)
end
section
variable (A:Nat×Bool→St) (n p:Nat) (b:Byt) (hn:∀q,(A q).length=n) (hg:∀q,(A q)[p]?=some (rob b q)) (hs:∀q q',(A q).set p (rob b q')=A q') (hb:b.length≤50000)
include hn hg hs hb
theorem zcC (q:Nat×Bool) (hq:Inb b q) (c:UInt8) (q1:Nat×Bool) (hc:runR byteR 0 b q=(c,q1)) (ok:Bool) (hf:fOf (c.toNat:Int)=(8,ok)) :
  Ans Tryd.prog 39 [.ptr p 0] (A q) (reV (bodyS b q).1) (A (bodyS b q).2):=by
 obtain⟨y0,u0,gs⟩:=rd_facts A n p b hn hg hs q;have k0:=z0B (A q++[B19]) p b q (y0 _ _) hq hb;have q0:=z09 byteR 0 b q hq
 have e0:bodyS b q=z0m (fun q1=>clS 8 (c.toNat:Int) b (took q1 0 ok)) mayR q1:=by
  unfold bodyS;rw[hc];simp only[hf]
 rw[hc]at k0 q0;rw[e0];simp only at k0 q0;rw[u0]at k0;have k1:=z0F (A q1++[B19,.box (XC8 c (I 0))]) (c.toNat:Int);rw[hf]at k1;have k2:=z08 (A q1++[B19,.box (XC8 c (I 0))]) p b q1 ok (y0 _ _) q0 hb;rw[u0]at k2;have j0:=z0I b q1 ok q0;unfold z0m;simp only;generalize took q1 0 ok=q2 at k2 j0⊢;have wc:IntKind.i64.wrap (c.toNat:Int)=(c.toNat:Int):=wrapI (by have:=c.toNat_lt;omega)
 have t0:clS 8 (c.toNat:Int) b q2=({ x0 (c.toNat:Int) with sta:=((((runR byteR 0 b q2).1).toNat:Nat):Int) },(runR byteR 0 b q2).2):=rfl
 rw[t0];simp only;have k3:=z0B (A q2++[B19,.box (XC8 c (I 0))]) p b q2 (y0 _ _) j0 hb;rw[u0]at k3;have m0:=z09 byteR 0 b q2 j0;generalize runR byteR 0 b q2=w0 at k3 m0⊢;obtain⟨v0,q3⟩:=w0;simp only at k3 m0⊢;have d0:IntKind.i64.wrap (v0.toNat:Int)=(v0.toNat:Int):=wrapI (by have:=v0.toNat_lt;omega)
 have r0:Sub (.agg (XC8 c (I (v0.toNat:Nat)))) (reV ({ x0 (c.toNat:Int) with sta:=(((v0).toNat:Nat):Int) })):=.agg (.cons (.refl _) <| .cons (.refl _) <| .cons (.refl _) <| .cons (.refl _) <| .cons (.refl _) <| .cons (.refl _) <| .cons (.refl _) <| .cons (.nils 3) <| .cons (.refl _) <| .cons (.refl _) <| .cons (.refl _) <| .cons (.nils 3) <| .cons (.nils 3) <| .cons (.refl _) <| .cons (.refl _) <| .cons (.refl _) <| .cons (.nils 1) <| .cons (.nils 2) <| .cons (.refl _) <| .nil)
 have km:=(z1u (A q3++[B19,.box (XC8 c (I (v0.toNat:Nat)))]) ({ x0 (c.toNat:Int) with sta:=(((v0).toNat:Nat):Int) })).subA (.cons r0 .nil)
 have ke:=z08 (A q3++[B19,.box (XC8 c (I (v0.toNat:Nat)))]) p b q3 (mayR ({ x0 (c.toNat:Int) with sta:=(((v0).toNat:Nat):Int) })) (y0 _ _) m0 hb
 rw[u0]at ke;generalize mayR ({ x0 (c.toNat:Int) with sta:=(((v0).toNat:Nat):Int) })=okm at km ke⊢
 generalize took q3 0 okm=qe at ke⊢;refine Ans.subR ?_ r0;refine Ans.of_run' t39 (fun n0 _=>?_)
 simp -implicitDefEqProofs only[c39,r39,go_sem,y0,u0,gs,hn,ap4];refine CO.intro k0 ?_;simp -implicitDefEqProofs only[go_sem,bc,wc,y0,u0,gs,hn,ap4];refine CO.intro k1 ?_;simp -implicitDefEqProofs only[go_sem];refine CO.intro k2 ?_;simp -implicitDefEqProofs only[go_sem,bc,y0,u0,gs,hn,ap4];refine CO.intro k3 ?_;simp -implicitDefEqProofs only[go_sem,bc,d0,y0,u0,gs,hn,ap4];refine CO.intro km ?_;simp -implicitDefEqProofs only[go_sem];refine CO.intro ke ?_;simp -implicitDefEqProofs only[go_sem,y0,u0,gs,hn,ap4]
 have f0:Bel (A qe).length (.agg (XC8 c (I (v0.toNat:Nat)))):=.agg _ (fun i hi=>by
  have:∀y∈(XC8 c (I (v0.toNat:Nat)):List AV),Bel (A qe).length y:=by
   intro y hy;simp only[List.mem_cons,List.not_mem_nil,or_false]at hy;rcases hy with rfl|rfl|rfl|rfl|rfl|rfl|rfl|rfl|rfl|rfl|rfl|rfl|rfl|rfl|rfl|rfl|rfl|rfl|rfl
   all_goals first|exact .pl _|exact .nils|exact z0K _ _|exact z1B _ _|exact z0V _ _
  exact this _ (List.getElem_mem hi))
 exact Fini.trim2 (σ':=A qe) (ex:=[_,_]) (by simp -implicitDefEqProofs only[go_sem,resA,z04,rvA,oneOf,gs]<;>rfl) rfl (Nat.le_of_eq (by simp only[hn])) f0 (fun o ho=>by
  rw[←hs q qe]at ho;rw[hn];rw[hn]at n0
  exact z1q (o:=rob b qe) n0 (z25 _ _) o ho)
theorem z9Z (q:Nat×Bool) (hq:Inb b q) (c:UInt8) (q1:Nat×Bool) (hc:runR byteR 0 b q=(c,q1)) (ok:Bool) (hf:fOf (c.toNat:Int)=(128,ok)) :
  Ans Tryd.prog 39 [.ptr p 0] (A q) (reV (bodyS b q).1) (A (bodyS b q).2):=by
 obtain⟨y0,u0,gs⟩:=rd_facts A n p b hn hg hs q;have k0:=z0B (A q++[B19]) p b q (y0 _ _) hq hb;have q0:=z09 byteR 0 b q hq
 have d0:bodyS b q=z0m (fun q1=>clS 128 (c.toNat:Int) b (took q1 0 ok)) mayR q1:=by
  unfold bodyS;rw[hc];simp only[hf]
 rw[hc]at k0 q0;rw[d0];simp only at k0 q0;rw[u0]at k0;have k1:=z0F (A q1++[B19,.box (XC128 c .nils .nils (Bo false) (Fl 0) (Fl 0) .nils)]) (c.toNat:Int);rw[hf]at k1;have k2:=z08 (A q1++[B19,.box (XC128 c .nils .nils (Bo false) (Fl 0) (Fl 0) .nils)]) p b q1 ok (y0 _ _) q0 hb;rw[u0]at k2;have j0:=z0I b q1 ok q0;unfold z0m;simp only;generalize took q1 0 ok=q2 at k2 j0⊢;have wc:IntKind.i64.wrap (c.toNat:Int)=(c.toNat:Int):=wrapI (by have:=c.toNat_lt;omega)
 have t0:clS 128 (c.toNat:Int) b q2=({ x0 (c.toNat:Int) with ru:=(runR ruR noRu b q2).1 },(runR ruR noRu b q2).2):=rfl
 rw[t0];simp only;have k3:=zcp (A q2++[B19,.box (XC128 c .nils .nils (Bo false) (Fl 0) (Fl 0) .nils)]) p b q2 (y0 _ _) j0 hb;rw[u0]at k3;have m0:=z09 ruR noRu b q2 j0;generalize runR ruR noRu b q2=w0 at k3 m0⊢;obtain⟨v0,q3⟩:=w0;simp only at k3 m0⊢;obtain⟨rs,rt,ra,rl,rh,re⟩:=v0;unfold ruV at k3;simp only at k3⊢;have r0:Sub (.agg (XC128 c (mlV rs) (mlV rt) (Bo ra) (Fl rl) (Fl rh) (.sl 1 (txs re)))) (reV ({ x0 (c.toNat:Int) with ru:=⟨rs,rt,ra,rl,rh,re⟩ })):=.agg (.cons (.refl _) <| .cons (.refl _) <| .cons (.refl _) <| .cons (.refl _) <| .cons (.refl _) <| .cons (.refl _) <| .cons (.refl _) <| .cons (.nils 3) <| .cons (.refl _) <| .cons (.refl _) <| .cons (.refl _) <| .cons (.refl _) <| .cons (.refl _) <| .cons (.refl _) <| .cons (.refl _) <| .cons (.refl _) <| .cons (.refl _) <| .cons (.nils 2) <| .cons (.refl _) <| .nil)
 have km:=(z1u (A q3++[B19,.box (XC128 c (mlV rs) (mlV rt) (Bo ra) (Fl rl) (Fl rh) (.sl 1 (txs re)))]) ({ x0 (c.toNat:Int) with ru:=⟨rs,rt,ra,rl,rh,re⟩ })).subA (.cons r0 .nil)
 have ke:=z08 (A q3++[B19,.box (XC128 c (mlV rs) (mlV rt) (Bo ra) (Fl rl) (Fl rh) (.sl 1 (txs re)))]) p b q3 (mayR ({ x0 (c.toNat:Int) with ru:=⟨rs,rt,ra,rl,rh,re⟩ })) (y0 _ _) m0 hb
 rw[u0]at ke;generalize mayR ({ x0 (c.toNat:Int) with ru:=⟨rs,rt,ra,rl,rh,re⟩ })=okm at km ke⊢
 generalize took q3 0 okm=qe at ke⊢;refine Ans.subR ?_ r0;refine Ans.of_run' t39 (fun n0 _=>?_)
 simp -implicitDefEqProofs only[c39,r39,go_sem,y0,u0,gs,hn,ap4];refine CO.intro k0 ?_;simp -implicitDefEqProofs only[go_sem,bc,wc,y0,u0,gs,hn,ap4];refine CO.intro k1 ?_;simp -implicitDefEqProofs only[go_sem];refine CO.intro k2 ?_;simp -implicitDefEqProofs only[go_sem,bc,y0,u0,gs,hn,ap4];refine CO.intro k3 ?_;simp -implicitDefEqProofs only[go_sem,bc,y0,u0,gs,hn,ap4];refine CO.intro km ?_;simp -implicitDefEqProofs only[go_sem];refine CO.intro ke ?_;simp -implicitDefEqProofs only[go_sem,y0,u0,gs,hn,ap4]
 have e0:Bel (A qe).length (.agg (XC128 c (mlV rs) (mlV rt) (Bo ra) (Fl rl) (Fl rh) (.sl 1 (txs re)))):=.agg _ (fun i hi=>by
  have:∀y∈(XC128 c (mlV rs) (mlV rt) (Bo ra) (Fl rl) (Fl rh) (.sl 1 (txs re)):List AV),Bel (A qe).length y:=by
   intro y hy;simp only[List.mem_cons,List.not_mem_nil,or_false]at hy;rcases hy with rfl|rfl|rfl|rfl|rfl|rfl|rfl|rfl|rfl|rfl|rfl|rfl|rfl|rfl|rfl|rfl|rfl|rfl|rfl
   all_goals first|exact .pl _|exact .nils|exact z0K _ _|exact z1B _ _|exact z0V _ _
  exact this _ (List.getElem_mem hi))
 exact Fini.trim2 (σ':=A qe) (ex:=[_,_]) (by simp -implicitDefEqProofs only[go_sem,resA,z04,rvA,oneOf,gs]<;>rfl) rfl (Nat.le_of_eq (by simp only[hn])) e0 (fun o ho=>by
  rw[←hs q qe]at ho;rw[hn];rw[hn]at n0
  exact z1q (o:=rob b qe) n0 (z25 _ _) o ho)
end
section
variable (A:Nat×Bool→St) (n p:Nat) (b:Byt) (hn:∀q,(A q).length=n) (hg:∀q,(A q)[p]?=some (rob b q)) (hs:∀q q',(A q).set p (rob b q')=A q') (hb:b.length≤50000)
include hn hg hs hb
theorem za0 (q:Nat×Bool) (hq:Inb b q) (c:UInt8) (q1:Nat×Bool) (hc:runR byteR 0 b q=(c,q1)) (ok:Bool) (hf:fOf (c.toNat:Int)=(768,ok)) :
  Ans Tryd.prog 39 [.ptr p 0] (A q) (reV (bodyS b q).1) (A (bodyS b q).2):=by
 obtain⟨q0,y0,gs⟩:=rd_facts A n p b hn hg hs q;have k0:=z0B (A q++[B19]) p b q (q0 _ _) hq hb;have j0:=z09 byteR 0 b q hq
 have e0:bodyS b q=z0m (fun q1=>clS 768 (c.toNat:Int) b (took q1 0 ok)) mayR q1:=by
  unfold bodyS;rw[hc];simp only[hf]
 rw[hc]at k0 j0;rw[e0];simp only at k0 j0;rw[y0]at k0;have k1:=z0F (A q1++[B19,.box (XC768 c .nils (Fl 0))]) (c.toNat:Int);rw[hf]at k1;have k2:=z08 (A q1++[B19,.box (XC768 c .nils (Fl 0))]) p b q1 ok (q0 _ _) j0 hb;rw[y0]at k2;have n0:=z0I b q1 ok j0;unfold z0m;simp only;generalize took q1 0 ok=q2 at k2 n0⊢;have wc:IntKind.i64.wrap (c.toNat:Int)=(c.toNat:Int):=wrapI (by have:=c.toNat_lt;omega)
 have d0:clS 768 (c.toNat:Int) b q2=({ x0 (c.toNat:Int) with ls:=(runR setR [] b q2).1,val:=(valS b (runR setR [] b q2).2).1 },(valS b (runR setR [] b q2).2).2):=rfl
 rw[d0];simp only;have k3:=zco (A q2++[B19,.box (XC768 c .nils (Fl 0))]) p b q2 (q0 _ _) n0 hb;rw[y0]at k3;have m0:=z09 setR [] b q2 n0;generalize runR setR [] b q2=w0 at k3 m0⊢;obtain⟨v0,q3⟩:=w0;simp only at k3 m0⊢;have k4:=z6T (A q3++[B19,.box (XC768 c (lsV v0) (Fl 0))]) p b q3 (q0 _ _) m0 hb;rw[y0]at k4;have u0:=z09 wordR 0 b q3 m0;unfold valS;generalize runR wordR 0 b q3=w1 at k4 u0⊢;obtain⟨v1,qw⟩:=w1;simp only at k4 u0⊢;have kv:=zaD (A qw++[B19,.box (XC768 c (lsV v0) (Fl 0))]) v1;have kr:=z08 (A qw++[B19,.box (XC768 c (lsV v0) (Fl 0))]) p b qw (okV v1) (q0 _ _) u0 hb;rw[y0]at kr;have hinv:=z0I b qw (okV v1) u0;generalize (if okV v1=true then v1 else 0)=fv at kv⊢
 generalize okV v1=okv at kv kr hinv⊢;generalize took qw 0 okv=q4 at kr hinv⊢;clear u0;have u0:=hinv;have t0:Sub (.agg (XC768 c (lsV v0) (Fl fv))) (reV ({ x0 (c.toNat:Int) with ls:=v0,val:=fv })):=.agg (.cons (.refl _) <| .cons (.refl _) <| .cons (.refl _) <| .cons (.refl _) <| .cons (.refl _) <| .cons (.refl _) <| .cons (.refl _) <| .cons (.nils 3) <| .cons (.refl _) <| .cons (.refl _) <| .cons (.refl _) <| .cons (.nils 3) <| .cons (.nils 3) <| .cons (.refl _) <| .cons (.refl _) <| .cons (.refl _) <| .cons (.nils 1) <| .cons (.refl _) <| .cons (.refl _) <| .nil)
 have km:=(z1u (A q4++[B19,.box (XC768 c (lsV v0) (Fl fv))]) ({ x0 (c.toNat:Int) with ls:=v0,val:=fv })).subA (.cons t0 .nil)
 have ke:=z08 (A q4++[B19,.box (XC768 c (lsV v0) (Fl fv))]) p b q4 (mayR ({ x0 (c.toNat:Int) with ls:=v0,val:=fv })) (q0 _ _) u0 hb
 rw[y0]at ke;generalize mayR ({ x0 (c.toNat:Int) with ls:=v0,val:=fv })=okm at km ke⊢
 generalize took q4 0 okm=qe at ke⊢;refine Ans.subR ?_ t0;refine Ans.of_run' t39 (fun r0 _=>?_)
 simp -implicitDefEqProofs only[c39,r39,go_sem,q0,y0,gs,hn,ap4];refine CO.intro k0 ?_;simp -implicitDefEqProofs only[go_sem,bc,wc,q0,y0,gs,hn,ap4];refine CO.intro k1 ?_;simp -implicitDefEqProofs only[go_sem];refine CO.intro k2 ?_;simp -implicitDefEqProofs only[go_sem,bc,q0,y0,gs,hn,ap4];refine CO.intro k3 ?_;simp -implicitDefEqProofs only[go_sem,bc,q0,y0,gs,hn,ap4];refine CO.intro k4 ?_;simp -implicitDefEqProofs only[go_sem];refine CO.intro kv ?_;simp -implicitDefEqProofs only[go_sem];refine CO.intro kr ?_;simp -implicitDefEqProofs only[go_sem,bc,q0,y0,gs,hn,ap4];refine CO.intro km ?_;simp -implicitDefEqProofs only[go_sem];refine CO.intro ke ?_;simp -implicitDefEqProofs only[go_sem,q0,y0,gs,hn,ap4]
 have f0:Bel (A qe).length (.agg (XC768 c (lsV v0) (Fl fv))):=.agg _ (fun i hi=>by
  have:∀y∈(XC768 c (lsV v0) (Fl fv):List AV),Bel (A qe).length y:=by
   intro y hy;simp only[List.mem_cons,List.not_mem_nil,or_false]at hy;rcases hy with rfl|rfl|rfl|rfl|rfl|rfl|rfl|rfl|rfl|rfl|rfl|rfl|rfl|rfl|rfl|rfl|rfl|rfl|rfl
   all_goals first|exact .pl _|exact .nils|exact z0K _ _|exact z1B _ _|exact z0V _ _
  exact this _ (List.getElem_mem hi))
 exact Fini.trim2 (σ':=A qe) (ex:=[_,_]) (by simp -implicitDefEqProofs only[go_sem,resA,z04,rvA,oneOf,gs]<;>rfl) rfl (Nat.le_of_eq (by simp only[hn])) f0 (fun o ho=>by
  rw[←hs q qe]at ho;rw[hn];rw[hn]at r0
  exact z1q (o:=rob b qe) r0 (z25 _ _) o ho)
theorem zbB (q:Nat×Bool) (hq:Inb b q) (c:UInt8) (q1:Nat×Bool) (hc:runR byteR 0 b q=(c,q1)) (ok:Bool) (hf:fOf (c.toNat:Int)=(16,ok)) :
  Ans Tryd.prog 39 [.ptr p 0] (A q) (reV (bodyS b q).1) (A (bodyS b q).2):=by
 obtain⟨y0,u0,gs⟩:=rd_facts A n p b hn hg hs q;have k0:=z0B (A q++[B19]) p b q (y0 _ _) hq hb;have q0:=z09 byteR 0 b q hq
 have d0:bodyS b q=z0m (fun q1=>clS 16 (c.toNat:Int) b (took q1 0 ok)) mayR q1:=by
  unfold bodyS;rw[hc];simp only[hf]
 rw[hc]at k0 q0;rw[d0];simp only at k0 q0;rw[u0]at k0;have k1:=z0F (A q1++[B19,.box (XC16 c .nils)]) (c.toNat:Int);rw[hf]at k1;have k2:=z08 (A q1++[B19,.box (XC16 c .nils)]) p b q1 ok (y0 _ _) q0 hb;rw[u0]at k2;have j0:=z0I b q1 ok q0;unfold z0m;simp only;generalize took q1 0 ok=q2 at k2 j0⊢;have wc:IntKind.i64.wrap (c.toNat:Int)=(c.toNat:Int):=wrapI (by have:=c.toNat_lt;omega)
 have t0:clS 16 (c.toNat:Int) b q2=({ x0 (c.toNat:Int) with mt:=(runR listR [] b q2).1 },(runR listR [] b q2).2):=rfl
 rw[t0];simp only;have k3:=z5F (A q2++[B19,.box (XC16 c .nils)]) p b q2 (y0 _ _) j0 hb;rw[u0]at k3;have m0:=z09 listR [] b q2 j0;generalize runR listR [] b q2=w0 at k3 m0⊢;obtain⟨v0,q3⟩:=w0;simp only at k3 m0⊢;have r0:Sub (.agg (XC16 c (mlV v0))) (reV ({ x0 (c.toNat:Int) with mt:=v0 })):=.agg (.cons (.refl _) <| .cons (.refl _) <| .cons (.refl _) <| .cons (.refl _) <| .cons (.refl _) <| .cons (.refl _) <| .cons (.refl _) <| .cons (.refl _) <| .cons (.refl _) <| .cons (.refl _) <| .cons (.refl _) <| .cons (.nils 3) <| .cons (.nils 3) <| .cons (.refl _) <| .cons (.refl _) <| .cons (.refl _) <| .cons (.nils 1) <| .cons (.nils 2) <| .cons (.refl _) <| .nil)
 have km:=(z1u (A q3++[B19,.box (XC16 c (mlV v0))]) ({ x0 (c.toNat:Int) with mt:=v0 })).subA (.cons r0 .nil)
 have ke:=z08 (A q3++[B19,.box (XC16 c (mlV v0))]) p b q3 (mayR ({ x0 (c.toNat:Int) with mt:=v0 })) (y0 _ _) m0 hb
 rw[u0]at ke;generalize mayR ({ x0 (c.toNat:Int) with mt:=v0 })=okm at km ke⊢
 generalize took q3 0 okm=qe at ke⊢;refine Ans.subR ?_ r0;refine Ans.of_run' t39 (fun n0 _=>?_)
 simp -implicitDefEqProofs only[c39,r39,go_sem,y0,u0,gs,hn,ap4];refine CO.intro k0 ?_;simp -implicitDefEqProofs only[go_sem,bc,wc,y0,u0,gs,hn,ap4];refine CO.intro k1 ?_;simp -implicitDefEqProofs only[go_sem];refine CO.intro k2 ?_;simp -implicitDefEqProofs only[go_sem,bc,y0,u0,gs,hn,ap4];refine CO.intro k3 ?_;simp -implicitDefEqProofs only[go_sem,bc,y0,u0,gs,hn,ap4];refine CO.intro km ?_;simp -implicitDefEqProofs only[go_sem];refine CO.intro ke ?_;simp -implicitDefEqProofs only[go_sem,y0,u0,gs,hn,ap4]
 have e0:Bel (A qe).length (.agg (XC16 c (mlV v0))):=.agg _ (fun i hi=>by
  have:∀y∈(XC16 c (mlV v0):List AV),Bel (A qe).length y:=by
   intro y hy;simp only[List.mem_cons,List.not_mem_nil,or_false]at hy;rcases hy with rfl|rfl|rfl|rfl|rfl|rfl|rfl|rfl|rfl|rfl|rfl|rfl|rfl|rfl|rfl|rfl|rfl|rfl|rfl
   all_goals first|exact .pl _|exact .nils|exact z0K _ _|exact z1B _ _|exact z0V _ _
  exact this _ (List.getElem_mem hi))
 exact Fini.trim2 (σ':=A qe) (ex:=[_,_]) (by simp -implicitDefEqProofs only[go_sem,resA,z04,rvA,oneOf,gs]<;>rfl) rfl (Nat.le_of_eq (by simp only[hn])) e0 (fun o ho=>by
  rw[←hs q qe]at ho;rw[hn];rw[hn]at n0
  exact z1q (o:=rob b qe) n0 (z25 _ _) o ho)
end
theorem za1 (A:Nat×Bool→St) (n p:Nat) (b:Byt) (hn:∀q,(A q).length=n) (hg:∀q,(A q)[p]?=some (rob b q)) (hs:∀q q',(A q).set p (rob b q')=A q') (hb:b.length≤50000) (q:Nat×Bool) (hq:Inb b q) :
  Ans Tryd.prog 39 [.ptr p 0] (A q) (reV (bodyS b q).1) (A (bodyS b q).2):=by
 cases hc:runR byteR 0 b q with
 |mk c q1 =>
 have hm:=z6j (c.toNat:Int)
 cases hf:fOf (c.toNat:Int) with
 |mk f ok =>
 rw[hf]at hm;simp only[List.mem_cons,List.not_mem_nil,or_false]at hm;rcases hm with rfl|rfl|rfl|rfl|rfl|rfl|rfl|rfl|rfl
 · exact zcz A n p b hn hg hs hb q hq c q1 hc ok hf
 · exact zcA A n p b hn hg hs hb q hq c q1 hc ok hf
 · exact zcB A n p b hn hg hs hb q hq c q1 hc ok hf
 · exact z9X A n p b hn hg hs hb q hq c q1 hc ok hf
 · exact z9Y A n p b hn hg hs hb q hq c q1 hc ok hf
 · exact zcC A n p b hn hg hs hb q hq c q1 hc ok hf
 · exact z9Z A n p b hn hg hs hb q hq c q1 hc ok hf
 · exact za0 A n p b hn hg hs hb q hq c q1 hc ok hf
 · exact zbB A n p b hn hg hs hb q hq c q1 hc ok hf
def wholeO {α:Type} (o:Option (α×Byt)):Option α:=match o with
 |some (x,[])=>some x
 |_=>none
theorem z3q {α:Type} {b:Byt} {rd:Rd α} {st:Nat×Bool→α×(Nat×Bool)} (h:StepsR b rd st) (he:EndsR rd) :
  wholeO (rd b)=if !(st (0,false)).2.2&&decide ((st (0,false)).2.1=b.length) then some (st (0,false)).1 else none:=by
 cases hr:rd b with
 |none=>rw[h.top.2 hr];rfl
 |some p =>
  obtain⟨x,t⟩:=p;rw[h.top.1 x t hr];obtain⟨w,hw⟩:=he _ _ _ hr;have hl:b.length=w.length+t.length:=by rw[hw,List.length_append]
  cases t with
  |nil=>simp[wholeO]
  |cons c t =>
   have:¬(b.length-(c::t).length=b.length):=by simp only[List.length_cons]at hl⊢;omega
   simp only[wholeO,Bool.not_false,Bool.true_and,decide_eq_false this,Bool.false_eq_true,if_false]
abbrev noRe:ReM:=x0 0
def noReV:AV:=.agg [Sx ⟨#[]⟩,I 0,I 0,Sx ⟨#[]⟩,UN 0,UN 0,I 0,.nils,Bo false,Fl 0,Fl 0,.nils,.nils,Bo false,Fl 0,Fl 0,.nils,.nils,Fl 0]
theorem za2:Sub noReV (reV noRe):=.agg (.cons (.refl _) (.cons (.refl _) (.cons (.refl _) (.cons (.refl _) (.cons (.refl _) (.cons (.refl _) (.cons (.refl _) (.cons (.nils 3) (.cons (.refl _) (.cons (.refl _) (.cons (.refl _) (.cons (.nils 3) (.cons (.nils 3) (.cons (.refl _) (.cons (.refl _) (.cons (.refl _) (.cons (.nils 1) (.cons (.nils 2) (.cons (.refl _) .nil)))))))))))))))))))
theorem z5I (n:Nat):Bel n noReV:=.agg _ fun i hi=>by
 have:∀y∈([Sx ⟨#[]⟩,I 0,I 0,Sx ⟨#[]⟩,UN 0,UN 0,I 0,.nils,Bo false,Fl 0,Fl 0,.nils,.nils,Bo false,Fl 0,Fl 0,.nils,.nils,Fl 0]:List AV),Bel n y:=by
  intro y hy;simp only[List.mem_cons,List.not_mem_nil,or_false]at hy;rcases hy with rfl|rfl|rfl|rfl|rfl|rfl|rfl|rfl|rfl|rfl|rfl|rfl|rfl|rfl|rfl|rfl|rfl|rfl|rfl
  all_goals first|exact .pl _|exact .nils
 exact this _ (List.getElem_mem hi)
theorem z6k (n:Nat) (r:ReM):Bel n (reV r):=.agg _ fun i hi=>by
 have:∀y∈reC r,Bel n y:=by
  intro y hy;unfold reC at hy;simp only[List.mem_cons,List.not_mem_nil,or_false]at hy;rcases hy with rfl|rfl|rfl|rfl|rfl|rfl|rfl|rfl|rfl|rfl|rfl|rfl|rfl|rfl|rfl|rfl|rfl|rfl|rfl
  all_goals first|exact .pl _|exact z0K _ _|exact z1B _ _|exact z0V _ _
 exact this _ (List.getElem_mem hi)
def z37 (o:Option ReM):AV:=match o with
 |some x=>.tup [reV x,Bo true]
 |none=>.tup [reV noRe,Bo false]
def z8Q (o:Option ReM):AV:=match o with
 |some x=>.tup [reV x,Bo true]
 |none=>.tup [noReV,Bo false]
theorem z8R (o:Option ReM):Sub (z8Q o) (z37 o):=by
 unfold z8Q z37
 cases o with
 |none=>exact .tup (.cons za2 (.refl _))
 |some x=>exact .refl _
theorem z1Q {n:Nat} {x:AV} {c:Bool} (h:Bel n x):Bel n (.tup [x,Bo c]):=.tup _ fun j hj=>by
 have:∀y∈([x,Bo c]:List AV),Bel n y:=by
  intro y hy;simp only[List.mem_cons,List.not_mem_nil,or_false]at hy;rcases hy with rfl|rfl
  · exact h
  · exact .pl _
 exact this _ (List.getElem_mem hj)
def fitQ (b:Byt) (q:Nat×Bool) (x:ReM):Option ReM:=if !q.2&&decide (q.1=b.length) then some x else none
theorem z7D (n:Nat) (o:Option ReM):Bel n (z37 o):=by
 unfold z37
 cases o with
 |none=>exact z1Q (z6k _ _)
 |some x=>exact z1Q (z6k _ _)
section
variable (σ:St)
theorem z8S (p:Nat) (b:Byt) (q:Nat×Bool) (x:ReM) (h:σ[p]?=some (rob b q)):Ans Tryd.prog 38 [reV x,.ptr p 0,.sl 1 (byv b)] σ (z37 (fitQ b q x)) σ:=by
 refine Ans.subR ?_ (z8R _);have hp:p<σ.length:=(List.getElem?_eq_some_iff.1 h).1;have hz:∀ob,(σ++[ob])[p]?=some (rob b q):=fun ob=>by rw[List.getElem?_append_left hp];exact h
 have h1:=z1z (σ++[B19]) p b q (hz _);have y0:=z6k σ.length x;obtain⟨a,bad⟩:=q;refine Ans.of_run' t38 (fun u0 _=>?_)
 unfold z8Q fitQ;unfold reV reC at y0⊢
 cases bad with
 |true =>
  simp -implicitDefEqProofs only[c38,r38,go_sem,g0,s0];refine CO.intro h1 ?_;simp -implicitDefEqProofs only[go_sem,g0,s0];exact tr_ (σ':=σ) (ex:=[_]) rfl (z1Q (z5I _)) u0
 |false =>
  have e1:(((a:Nat):Int) != (b.length:Nat))= !decide (a=b.length):=by
   rw[bne];congr 1
   rw[Bool.eq_iff_iff];simp only[beq_iff_eq,decide_eq_true_eq];omega
  by_cases he:a=b.length
  · have e2:(((a:Nat):Int) != (b.length:Nat))=false:=by rw[e1,decide_eq_true he];rfl
    have e3:(!(a,false).2&&decide ((a,false).1=b.length))=true:=by simp[he]
    rw[if_pos e3];simp -implicitDefEqProofs only[c38,r38,go_sem,g0,s0];refine CO.intro h1 ?_;simp -implicitDefEqProofs only[go_sem,z05,e2,g0,s0];exact tr_ (σ':=σ) (ex:=[_]) rfl (z1Q y0) u0
  · have e2:(((a:Nat):Int) != (b.length:Nat))=true:=by rw[e1,decide_eq_false he];rfl
    have e3:¬(!(a,false).2&&decide ((a,false).1=b.length))=true:=by simp[he]
    rw[if_neg e3];simp -implicitDefEqProofs only[c38,r38,go_sem,g0,s0];refine CO.intro h1 ?_;simp -implicitDefEqProofs only[go_sem,z05,e2,g0,s0];exact tr_ (σ':=σ) (ex:=[_]) rfl (z1Q (z5I _)) u0
theorem z5J (b:Byt) (hb:b.length≤50000):Ans Tryd.prog 36 [.sl 1 (byv b)] σ (z37 (wholeO (bodyR b))) σ:=by
 rw[z3q (z7C b) z8P];have h1:=za1 (fun q=>σ++[B19,rob b q]) (σ.length+2) (σ.length+1) b (fun q=>by simp) (fun q=>g1 _ _ _ _) (fun q q'=>s1 _ _ _ _ _) hb (0,false) (Inb0 b)
 generalize bodyS b (0,false)=w at h1⊢;obtain⟨x,q⟩:=w;simp only at h1⊢;have h2:=z8S (σ++[B19,rob b q]) (σ.length+1) b q x (g1 _ _ _ _);unfold fitQ at h2;generalize (if(!q.2&&decide (q.1=b.length))=true then some x else none)=o at h2⊢
 have y0:=z7D σ.length o
 have key:∃(y:ReM) (c:Bool),z37 o=.tup [reV y,Bo c]:=by
  unfold z37
  cases o with
  |none=>exact⟨_,_,rfl⟩
  |some y=>exact⟨_,_,rfl⟩
 obtain⟨y,c,hy⟩:=key;rw[hy]at h2 y0⊢;refine Ans.of_run' t36 (fun u0 _=>?_)
 unfold reV reC at *;simp -implicitDefEqProofs only[c36,r36,go_sem];refine CO.intro (z2E _ b) ?_;simp -implicitDefEqProofs only[go_sem,List.append_assoc,List.length_append];refine CO.intro h1 ?_;simp -implicitDefEqProofs only[go_sem];refine CO.intro h2 ?_;simp -implicitDefEqProofs only[go_sem,g0,s0];exact tr_ (σ':=σ) (ex:=[_,_]) rfl y0 u0
end
theorem lt_of {x:Int} {v:Bool} (h:decide (0≤x)=v):decide (x<0)= !v:=by
 rw[←h,Bool.eq_iff_iff];simp
theorem gt_of {x c:Int} {v:Bool} (h:decide (x≤c)=v):decide (c<x)= !v:=by
 rw[←h,Bool.eq_iff_iff];simp
abbrev S0:ByteArray:=⟨#[45]⟩
theorem hn_0:(S0.toList==(⟨#[]⟩:ByteArray).toList)=false:=by decide +kernel
abbrev S1:ByteArray:=⟨#[73]⟩
theorem hn_1:(S1.toList==(⟨#[]⟩:ByteArray).toList)=false:=by decide +kernel
abbrev S3:ByteArray:=⟨#[73,84]⟩
theorem hn_3:(S3.toList==(⟨#[]⟩:ByteArray).toList)=false:=by decide +kernel
abbrev S116:ByteArray:=⟨#[83,69,77,66]⟩
theorem zcD:(S116.toList==(⟨#[]⟩:ByteArray).toList)=false:=by decide +kernel
abbrev S117:ByteArray:=⟨#[73,83,69,77,66]⟩
theorem zcE:(S117.toList==(⟨#[]⟩:ByteArray).toList)=false:=by decide +kernel
abbrev S8:ByteArray:=⟨#[90]⟩
theorem hn_8:(S8.toList==(⟨#[]⟩:ByteArray).toList)=false:=by decide +kernel
abbrev S128:ByteArray:=⟨#[82]⟩
theorem zcF:(S128.toList==(⟨#[]⟩:ByteArray).toList)=false:=by decide +kernel
abbrev S768:ByteArray:=⟨#[76,86]⟩
theorem zcG:(S768.toList==(⟨#[]⟩:ByteArray).toList)=false:=by decide +kernel
abbrev S16:ByteArray:=⟨#[77]⟩
theorem hn_16:(S16.toList==(⟨#[]⟩:ByteArray).toList)=false:=by decide +kernel
attribute [go_sem] Bool.not_false Bool.not_true hn_0 hn_1 hn_3 zcD zcE hn_8 zcF zcG hn_16
end Go.Proofs.YteakobbdgehlgaaDoor
namespace Go.Ab
theorem L.step {P:Program} {n0:Nat} {clr:List Tmp} {x:ACode} {k:List Fr} {B:Bs} {env:Env} {σ:St}
  (h:∀J:Env→St→Prop,(∀env σ,L P n0 clr x k B env σ→J env σ)→R P n0 x (.loop J clr::k) B env σ):L P n0 clr x k B env σ:=by
 unfold L;intro I hI;refine hI _ _ (h I fun env' σ' hl=>?_)
 unfold L at hl;exact hl I hI
end Go.Ab
namespace Go.Proofs.YteakobbdgehlgaaDoor
open Go Go.Ab Go.Cod
section
variable (σ:St) (p:Nat) (b:Byt) (hb:b.length≤50000)
include hb in
end
theorem sz_0:((S0.size:Nat):Int)=1:=rfl
theorem ds_0:(S0.toList==(⟨#[45]⟩:ByteArray).toList)=true:=by decide +kernel
theorem sz_1:((S1.size:Nat):Int)=1:=rfl
theorem ds_1:(S1.toList==(⟨#[45]⟩:ByteArray).toList)=false:=by decide +kernel
theorem sz_3:((S3.size:Nat):Int)=2:=rfl
theorem ds_3:(S3.toList==(⟨#[45]⟩:ByteArray).toList)=false:=by decide +kernel
theorem zcH:((S116.size:Nat):Int)=4:=rfl
theorem zcI:(S116.toList==(⟨#[45]⟩:ByteArray).toList)=false:=by decide +kernel
theorem zcJ:((S117.size:Nat):Int)=5:=rfl
theorem zcK:(S117.toList==(⟨#[45]⟩:ByteArray).toList)=false:=by decide +kernel
theorem sz_8:((S8.size:Nat):Int)=1:=rfl
theorem ds_8:(S8.toList==(⟨#[45]⟩:ByteArray).toList)=false:=by decide +kernel
theorem zcL:((S128.size:Nat):Int)=1:=rfl
theorem zcM:(S128.toList==(⟨#[45]⟩:ByteArray).toList)=false:=by decide +kernel
theorem zcN:((S768.size:Nat):Int)=2:=rfl
theorem zcO:(S768.toList==(⟨#[45]⟩:ByteArray).toList)=false:=by decide +kernel
theorem sz_16:((S16.size:Nat):Int)=1:=rfl
theorem ds_16:(S16.toList==(⟨#[45]⟩:ByteArray).toList)=false:=by decide +kernel
theorem wk0:IntKind.i64.wrap 0=0:=rfl
theorem zk0:Int.toNat 0=0:=rfl
theorem wk1:IntKind.i64.wrap 1=1:=rfl
theorem zk1:Int.toNat 1=1:=rfl
theorem wk2:IntKind.i64.wrap 2=2:=rfl
theorem zk2:Int.toNat 2=2:=rfl
theorem wk3:IntKind.i64.wrap 3=3:=rfl
theorem zk3:Int.toNat 3=3:=rfl
theorem wk4:IntKind.i64.wrap 4=4:=rfl
theorem zk4:Int.toNat 4=4:=rfl
theorem wk5:IntKind.i64.wrap 5=5:=rfl
theorem zk5:Int.toNat 5=5:=rfl
attribute [go_sem] wk0 wk1 wk2 wk3 wk4 wk5 zk0 zk1 zk2 zk3 zk4 zk5 z05 z3z z3A z0O g0 g1 s0 s1 Int.le_refl sz_0 ds_0 sz_1 ds_1 sz_3 ds_3 zcH zcI zcJ zcK sz_8 ds_8 zcL zcM zcN zcO sz_16 ds_16
structure RcM where
 ix:Int
 ck:Nat
 bd:Byt
 cd:Int
def rcC (r:RcM):List AV:=[I r.ix,UN r.ck,.sl 1 (byv r.bd),I r.cd]
def rcV (r:RcM):AV:=.agg (rcC r)
def cdB (c:Int):Bool:=c==0||(decide (4≤c)&&decide (c≤10))
def bdB (b:Byt):Bool:=(wholeO (bodyR b)).isSome
def rcIs (r:RcM):Bool:=decide (0≤r.ix)&&(decide (r.ix≤2147483647)&&(decide ((r.ck:Int)≤1099511627776)&&(bdB r.bd&&cdB r.cd)))
theorem z6l (o:Option ReM):∃x,z37 o=.tup [reV x,Bo o.isSome]:=by
 cases o with
 |none=>exact⟨noRe,rfl⟩
 |some x=>exact⟨x,rfl⟩
theorem z6Y {r:RcM} (h:rcIs r=true):0≤r.ix∧r.ix≤2147483647∧r.ck≤1099511627776∧0≤r.cd∧r.cd≤10:=by
 unfold rcIs cdB at h;simp only[Bool.and_eq_true,Bool.or_eq_true,decide_eq_true_eq,beq_iff_eq]at h;omega
section
variable (σ:St)
theorem z6Z (r:RcM) (hb:r.bd.length≤50000):Ans Tryd.prog 29 [rcV r] σ (Bo (rcIs r)) σ:=by
 obtain⟨ix,ck,bd,cd⟩:=r;have k1:=z5J σ bd hb;obtain⟨x,hx⟩:=z6l (wholeO (bodyR bd));rw[hx]at k1;unfold rcV rcC rcIs bdB cdB;refine Ans.of_run t29 ?_;unfold reV reC at k1;generalize (wholeO (bodyR bd)).isSome=ok at k1⊢;simp only
 cases h0:decide (0≤ix) with
 |false =>
  have e0:=lt_of h0;simp -implicitDefEqProofs only[c29,r29,go_sem,e0];exact Fini.ret rfl
 |true =>
 have e0:=lt_of h0
 cases h1:decide (ix≤2147483647) with
 |false =>
  have e1:=gt_of h1;simp -implicitDefEqProofs only[c29,r29,go_sem,e0,e1];exact Fini.ret rfl
 |true =>
 have e1:=gt_of h1
 cases h2:decide ((ck:Int)≤1099511627776) with
 |false =>
  have e2:=gt_of h2;simp -implicitDefEqProofs only[c29,r29,go_sem,e0,e1,e2];exact Fini.ret rfl
 |true =>
 have e2:=gt_of h2;simp -implicitDefEqProofs only[c29,r29,go_sem,e0,e1,e2];refine CO.intro k1 ?_
 cases ok with
 |false =>
  simp -implicitDefEqProofs only[go_sem];exact Fini.ret rfl
 |true =>
 cases h3:(cd==0) with
 |true =>
  simp -implicitDefEqProofs only[go_sem,h3];exact Fini.ret rfl
 |false =>
 cases h4:decide (4≤cd) with
 |false =>
  simp -implicitDefEqProofs only[go_sem,h3,h4];exact Fini.ret rfl
 |true =>
 simp -implicitDefEqProofs only[go_sem,h3,h4];exact Fini.ret rfl
end
def cdC (c:Int):UInt8:=c.toNat.toUInt8
def putRc (r:RcM):Byt:=putN r.ix.toNat++(putN r.ck++(txtB ⟨r.bd.toArray⟩++[cdC r.cd]))
def z0r (r:RcM):Byt:=if rcIs r then putRc r else[]
theorem za3 {c:Int} (h:0≤c) (h1:c≤10):IntKind.u8.wrap c=(((cdC c).toNat:Nat):Int):=by
 obtain⟨n,rfl⟩:=Int.eq_ofNat_of_zero_le h;have:n<11:=by omega
 match n,this with
 |0,_|1,_|2,_|3,_|4,_|5,_|6,_|7,_|8,_|9,_|10,_=>rfl
theorem z2u (b:Byt):(⟨b.toArray⟩:ByteArray).size=b.length:=by simp[ByteArray.size]
theorem za4 (b:Byt):(⟨b.toArray⟩:ByteArray).data.toList=b:=by simp
section
variable (σ:St)
theorem z6m (r:RcM) (hb:r.bd.length≤50000):Ans Tryd.prog 24 [rcV r] σ (.sl 1 (byv (z0r r))) σ:=by
 have hi:=fun s=>z6Z s r hb
 unfold z0r
 cases hR:rcIs r with
 |false =>
  have:Ans Tryd.prog 24 [rcV r] σ .nils σ:=by
   refine Ans.of_run t24 ?_;unfold rcV rcC at hi⊢;simp -implicitDefEqProofs only[c24,r24,go_sem];refine CO.intro (hi _) ?_;rw[hR];simp -implicitDefEqProofs only[go_sem];exact Fini.ret rfl
  exact this.subR (.nils 1)
 |true =>
  obtain⟨a1,a2,a3,a4,a5⟩:=z6Y hR;obtain⟨ix,ck,bd,cd⟩:=r;simp only at a1 a2 a3 a4 a5 hb;have n1:=fun s=>zaE s ix.toNat (by omega)
  have n2:=fun s=>zaE s ck (by omega)
  have n3:=fun s=>z67 s ⟨bd.toArray⟩ (by rw[z2u];omega)
  have w1:IntKind.u64.wrap ix=((ix.toNat:Nat):Int):=by
   rw[show ix=((ix.toNat:Nat):Int) from by omega,z1U (by omega)];rfl
  have w2:=za3 a4 a5;have l1:=z0Y (n:=ix.toNat) (by omega)
  have l2:=z0Y (n:=ck) (by omega)
  have l3:(txtB ⟨bd.toArray⟩).length≤60000:=by
   have:=z0Y (n:=bd.length) (by omega)
   unfold txtB;rw[List.length_append,za4,z2u];omega
  have hc:=fun s=>z8A s [putN ix.toNat,putN ck,txtB ⟨bd.toArray⟩,[cdC cd]] (by simp) (by simp;omega) (by
   simp only[List.flatten_cons,List.flatten_nil,List.append_nil,List.length_append,List.length_singleton];omega)
  have e3:([putN ix.toNat,putN ck,txtB ⟨bd.toArray⟩,[cdC cd]]:List Byt).flatten=putRc ⟨ix,ck,bd,cd⟩:=by simp[putRc]
  rw[e3]at hc;refine Ans.of_run t24 ?_;unfold rcV rcC at hi⊢;simp -implicitDefEqProofs only[c24,r24,go_sem];refine CO.intro (hi _) ?_;rw[hR];simp -implicitDefEqProofs only[go_sem,w1];refine CD.intro (n1 _) ?_;simp -implicitDefEqProofs only[go_sem];refine CD.intro (n2 _) ?_;simp -implicitDefEqProofs only[go_sem,z1s,bc,z18,z0X,AV.isStr];refine CD.intro (n3 _) ?_;simp -implicitDefEqProofs only[go_sem,w2];refine CD.intro (hc _) ?_;simp -implicitDefEqProofs only[go_sem];exact Fini.ret rfl
end
def mkRc (p:Nat×Nat×ByteArray×UInt8):RcM:=⟨(p.1:Nat),p.2.1,p.2.2.1.data.toList,(p.2.2.2.toNat:Nat)⟩
def rcR (n:Nat):Rd RcM:=z0W (seqR (numR 2147483647) (seqR (numR 1099511627776) (seqR (textR n) byteR))) mkRc
def rcS (b:Byt):Nat×Bool→RcM×(Nat×Bool):=z19 (seqSt (runR (numR 2147483647) 0 b) (seqSt (runR (numR 1099511627776) 0 b) (seqSt (runR (textR b.length) ⟨#[]⟩ b) (runR byteR 0 b)))) mkRc
theorem zbC (n:Nat):EndsR (rcR n):=z0E (z0J (ends_num _) (z0J (ends_num _) (z0J (z1a n) ends_byte))) _
theorem za5 (b:Byt):StepsR b (rcR b.length) (rcS b) :=
 z0q (z0i (z0a b _ _) (z0i (z0a b _ _) (z0i (z0a b _ _) (z0a b _ _) (z1a _)) (ends_num _)) (ends_num _)) _
def okRc (o:Option RcM):Option RcM:=o.bind fun r=>if rcIs r then some r else none
def rdRc (b:Byt):Option RcM:=okRc (wholeO (rcR b.length b))
def noRcV:AV:=.agg [I 0,UN 0,.nils,I 0]
def rcW (o:Option RcM):AV:=match o with
 |some x=>.tup [rcV x,Bo true]
 |none=>.tup [noRcV,Bo false]
theorem bel_rcV (n:Nat) (r:RcM):Bel n (rcV r):=.agg _ fun i hi=>by
 have:∀y∈rcC r,Bel n y:=by
  intro y hy;unfold rcC at hy;simp only[List.mem_cons,List.not_mem_nil,or_false]at hy;rcases hy with rfl|rfl|rfl|rfl
  all_goals first|exact .pl _|exact z1y _ _
 exact this _ (List.getElem_mem hi)
theorem zbD (n:Nat) (o:Option RcM):Bel n (rcW o):=by
 unfold rcW
 cases o with
 |some x=>exact z1Q (bel_rcV _ _)
 |none =>
  refine z1Q (.agg _ fun i hi=>?_)
  have:∀y∈([I 0,UN 0,.nils,I 0]:List AV),Bel n y:=by
   intro y hy;simp only[List.mem_cons,List.not_mem_nil,or_false]at hy;rcases hy with rfl|rfl|rfl|rfl
   all_goals first|exact .pl _|exact .nils
  exact this _ (List.getElem_mem hi)
theorem zbE {n:Nat} (hn:n<2^64) (b:Byt) (q:Nat×Bool):(runR (textR n) ⟨#[]⟩ b q).1.size≤n:=by
 unfold runR;split
 · exact Nat.zero_le _
 · split
   · exact Nat.zero_le _
   · rename_i p hp;exact((z0S hn).bwd _ p.1 p.2 hp).1
abbrev BzR:Ob:=.box [I 0,UN 0,.nils,I 0]
section
variable (σ:St)
theorem z4F (b:Byt) (hb:b.length≤50000):Ans Tryd.prog 15 [.sl 1 (byv b)] σ (rcW (rdRc b)) σ:=by
 have u0:=zbD σ.length (rdRc b);unfold rdRc okRc at u0⊢;rw[z3q (za5 b) (zbC _)]at u0⊢
 have hS:rcS b (0,false)=(mkRc ((runR (numR 2147483647) 0 b (0,false)).1,(runR (numR 1099511627776) 0 b (runR (numR 2147483647) 0 b (0,false)).2).1,
   (runR (textR b.length) ⟨#[]⟩ b (runR (numR 1099511627776) 0 b (runR (numR 2147483647) 0 b (0,false)).2).2).1,
   (runR byteR 0 b (runR (textR b.length) ⟨#[]⟩ b (runR (numR 1099511627776) 0 b (runR (numR 2147483647) 0 b (0,false)).2).2).2).1),
   (runR byteR 0 b (runR (textR b.length) ⟨#[]⟩ b (runR (numR 1099511627776) 0 b (runR (numR 2147483647) 0 b (0,false)).2).2).2).2):=rfl
 rw[hS]at u0⊢;have k1:=z1g (σ++[BzR,rob b (0,false)]) (σ.length+1) b (0,false) 2147483647 (by decide) (g1 _ _ _ _) (Inb0 b) hb
 have i1:=z09 (numR 2147483647) 0 b (0,false) (Inb0 b);have q0:=z1A (most:=2147483647) b (0,false);rw[s1]at k1;generalize runR (numR 2147483647) 0 b (0,false)=w at k1 i1 q0 u0⊢;obtain⟨u,q1⟩:=w;simp only at k1 i1 q0 u0⊢;have k2:=z1g (σ++[BzR,rob b q1]) (σ.length+1) b q1 1099511627776 (by decide) (g1 _ _ _ _) i1 hb
 have i2:=z09 (numR 1099511627776) 0 b q1 i1;rw[s1]at k2;generalize runR (numR 1099511627776) 0 b q1=w at k2 i2 u0⊢;obtain⟨ck,q2⟩:=w;simp only at k2 i2 u0⊢;have k3:=z1I (σ++[BzR,rob b q2]) (σ.length+1) b q2 b.length (by omega) (g1 _ _ _ _) i2 hb
 have i3:=z09 (textR b.length) ⟨#[]⟩ b q2 i2;have j0:=zbE (n:=b.length) (by omega) b q2
 rw[s1]at k3;generalize runR (textR b.length) ⟨#[]⟩ b q2=w at k3 i3 j0 u0⊢;obtain⟨s,q3⟩:=w;simp only at k3 i3 j0 u0⊢;have k4:=z0B (σ++[BzR,rob b q3]) (σ.length+1) b q3 (g1 _ _ _ _) i3 hb;have i4:=z09 byteR 0 b q3 i3;rw[s1]at k4;generalize runR byteR 0 b q3=w at k4 i4 u0⊢;obtain⟨c,a,bad⟩:=w;simp only at k4 i4 u0⊢;have ke:=z1z (σ++[BzR,rob b (a,bad)]) (σ.length+1) b (a,bad) (g1 _ _ _ _);have ki:=z6Z (σ++[BzR,rob b (a,bad)]) (mkRc (u,ck,s,c)) (by unfold mkRc;simp only;rw[z16];omega)
 have w1:IntKind.i64.wrap (u:Int)=(u:Int):=wrapI (by omega)
 have wc:IntKind.i64.wrap (c.toNat:Int)=(c.toNat:Int):=wrapI (by have:=c.toNat_lt;omega)
 have e1:(((a:Nat):Int) != (b.length:Nat))= !decide (a=b.length):=by
  rw[bne];congr 1
  rw[Bool.eq_iff_iff];simp only[beq_iff_eq,decide_eq_true_eq];omega
 refine Ans.of_run' t15 (fun y0 _=>?_)
 simp -implicitDefEqProofs only[c15,r15,go_sem];refine CO.intro (z2E _ b) ?_;simp -implicitDefEqProofs only[go_sem,List.append_assoc,List.length_append];refine CO.intro k1 ?_;simp -implicitDefEqProofs only[go_sem,w1];refine CO.intro k2 ?_;simp -implicitDefEqProofs only[go_sem,z05];refine CO.intro k3 ?_;simp -implicitDefEqProofs only[go_sem,z4r];refine CO.intro k4 ?_;simp -implicitDefEqProofs only[go_sem,bc,wc];refine CO.intro ke ?_;have hz:rcV (mkRc (u,ck,s,c))=.agg [I (u:Nat),UN ck,.sl 1 (byv s.data.toList),I (c.toNat:Nat)]:=rfl;rw[hz]at ki;unfold rcW noRcV at u0⊢
 cases bad with
 |true =>
  simp -implicitDefEqProofs only[go_sem,g0,s0];exact tr_ (σ':=σ) (ex:=[_,_]) rfl u0 y0
 |false =>
  by_cases he:a=b.length
  · rw[decide_eq_true he]at e1 u0⊢
    cases hR:rcIs (mkRc (u,ck,s,c)) with
    |true =>
     rw[hR]at ki;simp -implicitDefEqProofs only[go_sem,z05,e1,Bool.not_true];refine CO.intro ki ?_;simp only[Bool.not_false,Bool.true_and,if_true,Option.bind_some,hR,hz]at u0⊢;simp -implicitDefEqProofs only[go_sem,g0,s0];exact tr_ (σ':=σ) (ex:=[_,_]) rfl u0 y0
    |false =>
     rw[hR]at ki;simp -implicitDefEqProofs only[go_sem,z05,e1,Bool.not_true];refine CO.intro ki ?_;simp only[Bool.not_false,Bool.true_and,if_true,Option.bind_some,hR,Bool.false_eq_true,if_false]at u0⊢;simp -implicitDefEqProofs only[go_sem,g0,s0];exact tr_ (σ':=σ) (ex:=[_,_]) rfl u0 y0
  · rw[decide_eq_false he]at e1 u0⊢;simp -implicitDefEqProofs only[go_sem,z05,e1,Bool.not_false,g0,s0];exact tr_ (σ':=σ) (ex:=[_,_]) rfl u0 y0
end
end Go.Proofs.YteakobbdgehlgaaDoor
namespace Go.Ab
open Go.ChangeShapes Go.WideShapes
end Go.Ab
namespace Go.Proofs.YteakobbdgehlgaaDoor
open Go Go.Ab Go.Cod Go.ChangeShapes Go.WideShapes Go.ChangeAt Go.RowKit
theorem toList_inj {a b:ByteArray} (h:a.toList=b.toList):a=b:=by
 rw[ByteArray.toList_eq,ByteArray.toList_eq]at h;cases a;cases b;simpa using h
section
variable (σ:St)
end
structure RqSz (r:ReM):Prop where
 val:r.val<2^64∧bitsF r.val=r.val
 bd:r.lo<2^64∧r.hi<2^64
 ru:r.ru.lo<2^64∧r.ru.hi<2^64
def eqLb (x y:Lab):Bool:=x.1.toList==y.1.toList&&(x.2.toList==y.2.toList&&true)
def sameL (A B:List Lab):Bool:=decide (A.length=B.length)&&(List.range A.length).all fun i=>eqLb (A.getD i noLb) (B.getD i noLb)
structure SzA (r:ReM):Prop where
 val:r.val<2^64
 bd:r.lo<2^64∧r.hi<2^64
 ru:r.ru.lo<2^64∧r.ru.hi<2^64
theorem RqSz.a {x:ReM} (h:RqSz x):SzA x:=⟨h.val.1,h.bd,h.ru⟩
theorem z6n {α:Type} {o:Option (α×Byt)} {x:α} (h:wholeO o=some x):o=some (x,[]):=by
 unfold wholeO at h;split at h
 · simp only[Option.some.injEq]at h;rw[h]
 · cases h
structure RcOk (n:Nat) (r:RcM):Prop where
 i0:0≤r.ix
 i1:r.ix≤2147483647
 ck:r.ck≤1099511627776
 bd:r.bd.length≤n
 c0:0≤r.cd
 c1:r.cd<256
def toRc (r:RcM):Nat×Nat×ByteArray×UInt8:=(r.ix.toNat,r.ck,⟨r.bd.toArray⟩,cdC r.cd)
theorem zbF {n:Nat} (hn:n<2^64):Fits (rcR n) putRc (RcOk n):=by
 refine dress_fits (z17 (z1H (by decide)) (z17 (z1H (by decide)) (z17 (z0S hn) byte_fits))) (g:=toRc) ?_ ?_
 · rintro⟨a,b,s,c⟩ ⟨h1,h2,h3,_⟩;have h1:a≤2147483647:=h1;have h3:s.size≤n:=h3;have hc:=c.toNat_lt;refine⟨⟨Int.natCast_nonneg _,by show((a:Nat):Int)≤2147483647;omega,h2,by show s.data.toList.length≤n;rw[z16];exact h3,Int.natCast_nonneg _,by show((c.toNat:Nat):Int)<256;omega⟩,?_⟩
   show putN a++(putN b++(txtB ⟨s.data.toList.toArray⟩++[c.toNat.toUInt8]))=_;rw[z83,toUInt8_toNat]
 · rintro⟨i,k,b,c⟩ ⟨h0,h1,h2,h3,h4,h5⟩;simp only at h0 h1 h2 h3 h4 h5;obtain⟨i,rfl⟩:=Int.eq_ofNat_of_zero_le h0;obtain⟨c,rfl⟩:=Int.eq_ofNat_of_zero_le h4;refine⟨⟨by show i≤2147483647;omega,h2,by show(⟨b.toArray⟩:ByteArray).size≤n;rw[z2u];exact h3,trivial⟩,?_⟩
   show(⟨(i:Nat),k,b.toArray.toList,((c.toUInt8.toNat:Nat):Int)⟩:RcM)=_;rw[toNat_toUInt8 (by omega)]
theorem za6 {b:Byt} {x:RcM} (hl:b.length<2^64) (h:rdRc b=some x):b=putRc x∧rcIs x=true:=by
 unfold rdRc okRc at h
 cases hw:wholeO (rcR b.length b) with
 |none=>rw[hw]at h;cases h
 |some y =>
  rw[hw]at h;simp only[Option.bind_some]at h;split at h
  · rename_i hi;simp only[Option.some.injEq]at h;subst h;have:=((zbF hl).bwd b y [] (z6n hw)).2;rw[List.append_nil]at this;exact⟨this,hi⟩
  · cases h
end Go.Proofs.YteakobbdgehlgaaDoor
namespace Go.Proofs.YteakobbdgehlgaaDoor.Sha
open Go Go.Ab Go.Cod
theorem bytesRc_le (r:RcM) (hb:r.bd.length≤40000):(z0r r).length≤50000:=by
 unfold z0r;split
 · rename_i h;have h1:=z6Y h;have h2:(putN r.ix.toNat).length≤10:=z0Y (by omega)
   have h3:(putN r.ck).length≤10:=z0Y (by omega)
   have h4:=z9L ⟨r.bd.toArray⟩ (by rw[z2u];omega)
   rw[z2u]at h4;unfold putRc;simp only[List.length_append,List.length_cons,List.length_nil];omega
 · exact Nat.zero_le _
section
variable (σ:St)
theorem z6o (h r:List UInt8) (hh:h.length≤50000) (hr:r.length≤50000):Ans Tryd.prog 33 [.sl 1 [.sl 1 (bv [1]),.sl 1 (bv h),.sl 1 (bv r)]] σ (.sl 1 (bv (([[1],h,r]:List (List UInt8)).flatten))) σ :=
 z4D σ [[1],h,r] (by simp) (by simp) (by simp;omega)
end
def ownU (o:Int):Nat:=(IntKind.u64.wrap o).toNat
theorem ownU_eq (o:Int):IntKind.u64.wrap o=((ownU o:Nat):Int):=by
 unfold ownU;have:0≤IntKind.u64.wrap o:=by simp only[IntKind.wrap,IntKind.bits,IntKind.signed];simp;omega
 omega
def genB (o:Int):List UInt8:=0::wrdB (ownU o)
def linkB (h r:List UInt8):List UInt8:=([[1],h,r]:List (List UInt8)).flatten
theorem z1d (h r:List UInt8):(linkB h r).length=1+h.length+r.length:=by unfold linkB;simp;omega
structure ChM where
 most:Int
 L:List RcM
 head:List UInt8
def heldM (m:Int):Int:=if 200<(if 0>m then 0 else m) then 200 else(if 0>m then 0 else m)
def rowC (q:Nat) (L:List RcM):AV:=if L.isEmpty then .nils else .osl q L.length
def boxC (q:Nat) (c:ChM):Ob:=.box (I c.most::rowC q c.L::bv c.head)
section
variable (σ:St)
theorem genesis_ans (o:Int):Ans Tryd.prog 9 [I o] σ (.sl 1 (bv (genB o))) σ:=by
 have hu:=ownU_eq o;have hp:∀s,Ans Tryd.prog 20 [UN (ownU o)] s (.sl 1 (bv (wrdB (ownU o)))) s:=fun s=>z6f s (ownU o)
 have hl:=z1e (wrdB (ownU o));have hw:=wrdB_len (ownU o);have e:AV.pl (.int .u8 0)::bv (wrdB (ownU o))=bv (genB o):=rfl;have k1:((1:Nat)+8≤2^32)=True:=eq_true (by decide)
 refine Ans.of_run' t9 (fun u0 _=>?_)
 simp -implicitDefEqProofs only[c9,r9,go_sem,hu];refine CO.intro (hp _) ?_;have y0:(bv (genB o)).length=9:=rfl;simp -implicitDefEqProofs only[go_sem,z84,hl,hw,k1,G0,S0,List.cons_append,List.nil_append,e,y0];exact Fini.trim2 (σ':=σ) (ex:=[_]) rfl rfl (Nat.le_refl _) (z66 _ _) u0
theorem link_ans (h r:List UInt8) (hh:h.length=32) (hr:r.length≤50000):Ans Tryd.prog 23 [.agg (bv h),.sl 1 (bv r)] σ (.sl 1 (bv (linkB h r))) σ:=by
 have hl:=z1e h;have ha:=bv_all h;have y0:List.take 32 (bv h)=bv h:=List.take_of_length_le (by rw[hl,hh];exact Nat.le_refl _)
 have hc:∀s,Ans Tryd.prog 33 [.sl 1 [.sl 1 (bv [1]),.sl 1 (bv h),.sl 1 (bv r)]] s (.sl 1 (bv (linkB h r))) s:=fun s=>z6o s h r (by omega) (by omega)
 have h1:bv [1]=[.pl (.int .u8 1)]:=rfl;rw[h1]at hc;have u0:=z1e (linkB h r);generalize linkB h r=X at hc u0⊢;refine Ans.of_run' t23 (fun q0 _=>?_)
 simp -implicitDefEqProofs only[c23,r23,go_sem,hl,hh,ha,y0];refine CO.intro (hc _) ?_;simp -implicitDefEqProofs only[go_sem,u0];exact Fini.ret rfl
end
theorem z2v {σ:St} {k:Nat} {v:List Value}:gloA σ k=some v→∀ex,gloA (σ++ex) k=some v:=by
 induction σ with
 |nil=>intro h;cases h
 |cons o s ih =>
  intro h ex
  cases o with
  |glo g vs =>
   simp only[List.cons_append,gloA]at h⊢;by_cases hg:g=k
   · rw[if_pos hg]at h⊢;exact h
   · rw[if_neg hg]at h⊢;exact ih h ex
  |_=>simp only[List.cons_append,gloA]at h⊢;exact ih h ex
section
variable (σ:St)
end
theorem bel_rcV (n:Nat) (r:RcM):Bel n (rcV r):=.agg _ fun i hi=>by
 have hm:(rcC r)[i]'hi∈rcC r:=List.getElem_mem hi;generalize (rcC r)[i]'hi=x at hm;unfold rcC at hm;simp only[List.mem_cons,List.not_mem_nil,or_false]at hm;rcases hm with rfl|rfl|rfl|rfl
 · exact .pl _
 · exact .pl _
 · exact z66 _ _
 · exact .pl _
section
variable (σ:St)
end
def oneR (i:Nat):RcM:=⟨i,i,[1],0⟩
def oneL (i:Nat):List RcM:=(List.range i).map oneR
def headF (o:Int):Nat→List UInt8
 |0=>shaB (genB o)
 |i+1=>shaB (linkB (headF o i) (z0r (oneR i)))
def chF (o m:Int) (i:Nat):ChM:=⟨heldM m,oneL i,headF o i⟩
def txtR (r:RcM):List UInt8:=txtB ⟨(z0r r).toArray⟩
def expB (L:List RcM):List UInt8:=putN L.length++(L.map txtR).flatten
section
variable (σ:St)
end
def glo0:Ob:=.glo 0 kV
def glo1:Ob:=.glo 1 kV
def lay (m:Int):Nat→St
 |0=>[glo0,glo1,boxC 0 (chF 1 m 0)]
 |j+1=>[glo0,glo1,boxC 4 (chF 1 m (j+1)),.box (rcC (oneR 0)),.row 4 ((oneL (j+1)).map rcV)]
section
variable (σ:St)
end
theorem eqCells_bv:∀(n:Nat) (a b:List UInt8),a.length=n→b.length=n→eqCells (List.replicate n .int) (bv a) (bv b)=some (a==b)
 |0,[],[],_,_=>rfl
 |n+1,p::ps,q::qs,h,h'=>by
  have e:(((p.toNat:Nat):Int)==((q.toNat:Nat):Int))=(p==q):=by
   rw[Bool.eq_iff_iff];simp only[beq_iff_eq];constructor
   · intro h;exact UInt8.toNat_inj.mp (by omega)
   · intro h;rw[h]
  have ih:=eqCells_bv n ps qs (by simpa using h) (by simpa using h')
  unfold bv at ih⊢;rw[List.replicate_succ,List.map_cons,List.map_cons,eqCells,ih];simp only[z1C,if_true,e];rfl
section
variable (σ:St)
end
end Go.Proofs.YteakobbdgehlgaaDoor.Sha
namespace Go.Proofs.YteakobbdgehlgaaDoor
open Go Go.Ab Go.Cod
def noR0:RcM:=⟨0,0,[],0⟩
def lastC (L:List RcM):Nat:=(L.getD (L.length-1) noR0).ck
def goE (m:Nat) (t0:Byt):Nat→Option (List RcM×Byt)
 |0=>some ([],t0)
 |n+1=>(goE m t0 n).bind fun p=>(textR m p.2).bind fun s=>(rdRc s.1.data.toList).bind fun x=>if x.ix=(n:Int)∧lastC p.1≤x.ck then some (p.1++[x],s.2) else none
def rdE (b:Byt):Option (List RcM):=(numR 200 b).bind fun p=>(goE b.length p.2 p.1).bind fun q=>if q.2=[] then some q.1 else none
theorem z70 {m:Nat} {t:Byt} {i:Nat} (h:goE m t i=none):∀{n:Nat},i≤n→goE m t n=none
 |0,hn=>by have h0:i=0:=by omega
           subst h0;exact h
 |n+1,hn=>by
  rcases Nat.lt_or_eq_of_le hn with h1|rfl
  · rw[goE,z70 h (by omega:i≤n)];rfl
  · exact h
theorem z51 {m:Nat} {t:Byt}:∀{n:Nat} {p:List RcM×Byt},goE m t n=some p→p.1.length=n
 |0,p,h=>by simp only[goE,Option.some.injEq]at h;subst h;rfl
 |n+1,p,h=>by
  rw[goE]at h
  cases h1:goE m t n with
  |none=>rw[h1]at h;cases h
  |some p1 =>
   rw[h1]at h;simp only[Option.bind_some]at h
   cases h2:textR m p1.2 with
   |none=>rw[h2]at h;cases h
   |some s =>
    rw[h2]at h;simp only[Option.bind_some]at h
    cases h3:rdRc s.1.data.toList with
    |none=>rw[h3]at h;cases h
    |some x =>
     rw[h3]at h;simp only[Option.bind_some]at h;split at h
     · cases h;simp[z51 h1]
     · cases h
theorem z8T {m:Nat} {t:Byt} (hm:m<2^64):∀{n:Nat} {p:List RcM×Byt},goE m t n=some p→∃w,t=w++p.2
 |0,p,h=>by simp only[goE,Option.some.injEq]at h;subst h;exact⟨[],rfl⟩
 |n+1,p,h=>by
  rw[goE]at h
  cases h1:goE m t n with
  |none=>rw[h1]at h;cases h
  |some p1 =>
   obtain⟨w,hw⟩:=z8T hm h1;rw[h1]at h;simp only[Option.bind_some]at h
   cases h2:textR m p1.2 with
   |none=>rw[h2]at h;cases h
   |some s =>
    obtain⟨w2,u0⟩:=z1a m p1.2 s.1 s.2 h2;rw[h2]at h;simp only[Option.bind_some]at h
    cases h3:rdRc s.1.data.toList with
    |none=>rw[h3]at h;cases h
    |some x =>
     rw[h3]at h;simp only[Option.bind_some]at h;split at h
     · cases h;exact⟨w++w2,by rw[hw,u0,List.append_assoc]⟩
     · cases h
def expW (o:Option (List RcM)):AV:=match o with
 |some L=>.tup [.sl 4 (L.map rcV),Bo true]
 |none=>.tup [.nils,Bo false]
theorem z71 (n:Nat) (o:Option (List RcM)):Bel n (expW o):=by
 unfold expW
 cases o with
 |none=>exact z1Q .nils
 |some L =>
  refine z1Q (.sl 4 _ fun i hi=>?_)
  rw[List.getElem_map];exact bel_rcV _ _
open Sha (txtR expB shaB z0H genB linkB z1d)
attribute [local irreducible] Sha.shaB
def OkL (L:List RcM):Prop:=∀i (h:i<L.length),rcIs L[i]=true∧L[i].ix=(i:Int)∧lastC (L.take i)≤L[i].ck
theorem zbG:OkL []:=fun i h=>absurd h (Nat.not_lt_zero _)
theorem za7 {L:List RcM} {x:RcM} (h:OkL L) (h1:rcIs x=true) (h2:x.ix=(L.length:Int)) (h3:lastC L≤x.ck):OkL (L++[x]):=by
 intro i hi;by_cases hlt:i<L.length
 · obtain⟨a,b,c⟩:=h i hlt;rw[List.getElem_append_left hlt,List.take_append_of_le_length (by omega)]
   exact⟨a,b,c⟩
 · have u0:i=L.length:=by simp at hi;omega
   subst u0;rw[List.getElem_append_right (Nat.le_refl _),List.take_left];simp only[Nat.sub_self,List.getElem_cons_zero];exact⟨h1,h2,h3⟩
theorem z72 {x:RcM} (h:rcIs x=true):txtR x=txtB ⟨(putRc x).toArray⟩:=by unfold txtR z0r;rw[if_pos h]
theorem z8U {m:Nat} {t:Byt} (hm:m<2^64):∀{n:Nat} {p:List RcM×Byt},goE m t n=some p→t=(p.1.map txtR).flatten++p.2∧OkL p.1
 |0,p,h=>by simp only[goE,Option.some.injEq]at h;subst h;exact⟨rfl,zbG⟩
 |n+1,p,h=>by
  rw[goE]at h
  cases h1:goE m t n with
  |none=>rw[h1]at h;cases h
  |some p1 =>
   obtain⟨ht,y0⟩:=z8U hm h1;have hlen:=z51 h1;rw[h1]at h;simp only[Option.bind_some]at h
   cases h2:textR m p1.2 with
   |none=>rw[h2]at h;cases h
   |some s =>
    obtain⟨hs1,q0⟩:=(z0S hm).bwd _ _ _ h2;rw[h2]at h;simp only[Option.bind_some]at h
    cases h3:rdRc s.1.data.toList with
    |none=>rw[h3]at h;cases h
    |some x =>
     obtain⟨hx1,u0⟩:=za6 (by rw[z16];omega) h3
     rw[h3]at h;simp only[Option.bind_some]at h;split at h
     · rename_i hc;cases h;refine⟨?_,za7 y0 u0 (by rw[hlen];exact hc.1) hc.2⟩
       have e:txtR x=txtB s.1:=by rw[z72 u0,←hx1,z83]
       rw[List.map_append,List.flatten_append,List.append_assoc,List.map_singleton,List.flatten_singleton,e,←q0];exact ht
     · cases h
theorem z2g {b:Byt} {L:List RcM} (hb:b.length<2^64) (h:rdE b=some L):b=expB L∧OkL L∧L.length≤200:=by
 unfold rdE at h
 cases h1:numR 200 b with
 |none=>rw[h1]at h;cases h
 |some p =>
  obtain⟨n,t⟩:=p;obtain⟨hn,y0⟩:=(z1H (most:=200) (by decide)).bwd _ _ _ h1
  rw[h1]at h;simp only[Option.bind_some]at h
  cases h2:goE b.length t n with
  |none=>rw[h2]at h;cases h
  |some q =>
   obtain⟨ht,u0⟩:=z8U hb h2;have hlen:=z51 h2;rw[h2]at h;simp only[Option.bind_some]at h;split at h
   · rename_i hq;cases h;refine⟨?_,u0,by omega⟩
     unfold expB;rw[hq,List.append_nil]at ht;rw[hlen,←ht];exact y0
   · cases h
theorem za8 {L:List RcM} {x:RcM} (h:x∈L):(txtR x).length≤((L.map txtR).flatten).length:=by
 induction L with
 |nil=>cases h
 |cons y L ih =>
  simp only[List.map_cons,List.flatten_cons,List.length_append];rcases List.mem_cons.1 h with rfl|h
  · omega
  · have:=ih h;omega
def hdL (o:Int) (L:List RcM):List UInt8:=L.foldl (fun h r=>shaB (linkB h (z0r r))) (shaB (genB o))
theorem z2w (o:Int) (L:List RcM) (x:RcM):hdL o (L++[x])=shaB (linkB (hdL o L) (z0r x)):=by unfold hdL;rw[List.foldl_append];rfl
theorem z3j (o:Int) (L:List RcM):(hdL o L).length=32:=by
 rcases List.eq_nil_or_concat L with rfl|⟨M,x,rfl⟩
 · exact z0H _
 · rw[List.concat_eq_append,z2w];exact z0H _
def imB (o:Int) (L:List RcM):List Byt:=genB o::(List.range L.length).map fun i=>linkB (hdL o (L.take i)) (z0r (L.getD i noR0))
theorem z2I (o:Int) (L:List RcM):(imB o L).length=L.length+1:=by unfold imB;simp
theorem z38 (o:Int) (L:List RcM) (x:RcM):imB o (L++[x])=imB o L++[linkB (hdL o L) (z0r x)]:=by
 unfold imB;rw[List.length_append,List.length_singleton,List.range_succ,List.map_append,List.map_singleton,List.cons_append,List.take_left,List.getD_eq_getElem?_getD,List.getElem?_append_right (Nat.le_refl _),Nat.sub_self];congr 2
 refine List.map_congr_left fun i hi=>?_
 have hi:=List.mem_range.1 hi;rw[List.take_append_of_le_length (by omega),List.getD_eq_getElem?_getD,List.getElem?_append_left hi,List.getD_eq_getElem?_getD]
theorem zcP (o:Int) (L:List RcM) (i:Nat) (hi:i<L.length):(imB o L).getD (i+1) []=linkB (hdL o (L.take i)) (z0r (L.getD i noR0)):=by
 unfold imB;rw[List.getD_cons_succ,List.getD_eq_getElem?_getD,List.getElem?_map,List.getElem?_range hi];rfl
theorem z8V (o:Int) (L:List RcM) (i:Nat) (hi:i≤L.length):shaB ((imB o L).getD i [])=hdL o (L.take i):=by
 cases i with
 |zero=>rfl
 |succ i =>
  rw[zcP o L i (by omega),List.take_succ_eq_append_getElem (by omega),z2w]
  congr 3
  rw[List.getD_eq_getElem?_getD,List.getElem?_eq_getElem (by omega)];rfl
open Sha (txtR expB shaB z0H genB linkB z1d ownU)
def inI64 (a:Int):Prop:=-9223372036854775808≤a∧a<9223372036854775808
theorem za9 {a b:Int} (ha:inI64 a) (hb:inI64 b) (h:genB a=genB b):a=b:=by
 unfold inI64 at ha hb;have h:wrdB (ownU a)=wrdB (ownU b):=by unfold genB at h;exact(List.cons.inj h).2
 have la:ownU a<2^64:=by unfold ownU;simp only[IntKind.wrap,IntKind.bits,IntKind.signed];simp;omega
 have lb:ownU b<2^64:=by unfold ownU;simp only[IntKind.wrap,IntKind.bits,IntKind.signed];simp;omega
 have h1:=word_fits.fwd (ownU a) [] la;have h2:=word_fits.fwd (ownU b) [] lb;rw[h,h2]at h1;have h3:ownU b=ownU a:=by injection h1 with h1;exact(Prod.mk.inj h1).1
 have ea:=Sha.ownU_eq a;have eb:=Sha.ownU_eq b;rw[h3,←ea]at eb;simp only[IntKind.wrap,IntKind.bits,IntKind.signed]at eb;simp at eb;omega
theorem z8W {h k x y:Byt} (hh:h.length=32) (hk:k.length=32) (e:linkB h x=linkB k y):h=k∧x=y:=by
 unfold linkB at e;simp only[List.flatten_cons,List.flatten_nil,List.append_nil]at e;exact List.append_inj (List.append_cancel_left e) (by omega)
theorem z3I (o:Int) (h x:Byt):genB o≠linkB h x:=by
 unfold genB linkB;simp only[List.flatten_cons,List.flatten_nil,List.append_nil,List.cons_append];intro e;have:=(List.cons.inj e).1;exact absurd this (by decide)
def unl:List Byt→List Byt→Option (Byt×Byt)
 |x::X,y::Y=>if x=y then unl X Y else some (x,y)
 |_,_=>none
def imR (o:Int) (L:List RcM):List Byt:=(imB o L).reverse
theorem z52 (o:Int):imR o []=[genB o]:=rfl
theorem z3J (o:Int) (L:List RcM) (x:RcM):imR o (L++[x])=linkB (hdL o L) (z0r x)::imR o L:=by
 unfold imR;rw[z38,List.reverse_append];rfl
def UnlOk (o p:Int) (L M:List RcM):Option (Byt×Byt)→Prop
 |none=>genB o=genB p∧L.map z0r=M.map z0r
 |some (x,y)=>x≠y∧shaB x=shaB y∧x∈imB o L∧y∈imB p M
theorem zcQ (o p:Int):∀(n:Nat) (L M:List RcM),L.length=n→hdL o L=hdL p M→UnlOk o p L M (unl (imR o L) (imR p M)):=by
 have h0:∀o:Int,hdL o []=shaB (genB o):=fun _=>rfl
 have m0:∀o:Int,genB o∈imB o []:=fun o=>by unfold imB;simp
 have m1:∀(o:Int) (L:List RcM) (x:RcM),linkB (hdL o L) (z0r x)∈imB o (L++[x]):=fun o L x=>by rw[z38];simp
 intro n
 induction n with
 |zero =>
  intro L M hL hh;rw[List.length_eq_zero_iff.1 hL]at hh⊢;rcases List.eq_nil_or_concat M with rfl|⟨M',y,rfl⟩
  · rw[z52,z52];unfold unl;split
    · rename_i e;exact⟨e,rfl⟩
    · rename_i e;exact⟨e,hh,m0 o,m0 p⟩
  · rw[List.concat_eq_append]at hh⊢;rw[z52,z3J];unfold unl;rw[if_neg (z3I _ _ _)];rw[z2w,h0]at hh;exact⟨z3I _ _ _,hh,m0 o,m1 _ _ _⟩
 |succ n ih =>
  intro L M hL hh;rcases List.eq_nil_or_concat L with rfl|⟨L',x,rfl⟩
  · cases hL
  rw[List.concat_eq_append]at hL hh⊢;rcases List.eq_nil_or_concat M with rfl|⟨M',y,rfl⟩
  · rw[z52,z3J];unfold unl;rw[if_neg (fun e=>z3I _ _ _ e.symm)]
    rw[z2w,h0]at hh;exact⟨fun e=>z3I _ _ _ e.symm,hh,m1 _ _ _,m0 p⟩
  rw[List.concat_eq_append]at hh⊢;rw[z3J,z3J];unfold unl;split
  · rename_i e;obtain⟨e1,e2⟩:=z8W (z3j _ _) (z3j _ _) e;have hr:=ih L' M' (by simpa using hL) e1
    cases hu:unl (imR o L') (imR p M') with
    |none =>
     rw[hu]at hr;obtain⟨r1,r2⟩:=hr;exact⟨r1,by rw[List.map_append,List.map_append,r2,List.map_singleton,List.map_singleton,e2]⟩
    |some q =>
     rw[hu]at hr;obtain⟨r1,r2,r3,r4⟩:=hr;exact⟨r1,r2,by rw[z38];exact List.mem_append_left _ r3,by rw[z38];exact List.mem_append_left _ r4⟩
  · rename_i e;rw[z2w,z2w]at hh;exact⟨e,hh,m1 _ _ _,m1 _ _ _⟩
theorem zbH {L M:List RcM} (h:L.map z0r=M.map z0r):expB L=expB M:=by
 have hl:L.length=M.length:=by simpa using congrArg List.length h
 have e:∀L:List RcM,L.map txtR=(L.map z0r).map fun b=>txtB ⟨b.toArray⟩:=fun L=>by rw[List.map_map];rfl
 unfold expB;rw[e,e,h,hl]
def extO (o:Int) (a:Byt) (p:Int) (c:Byt):Option (Byt×Byt):=match rdE a,rdE c with
 |some L,some M=>if hdL o L=hdL p M∧¬(o=p∧a=c) then unl (imR o L) (imR p M) else none
 |_,_=>none
def sees2 (o:Int) (a:Byt) (p:Int) (c:Byt):Prop:=∃L M,rdE a=some L∧rdE c=some M∧hdL o L=hdL p M∧¬(o=p∧a=c)
theorem z73 {o p:Int} {a c:Byt} (h:¬sees2 o a p c):extO o a p c=none:=by
 unfold extO
 cases h1:rdE a with
 |none=>rfl
 |some L =>
  cases h2:rdE c with
  |none=>rfl
  |some M=>exact if_neg fun h3=>h ⟨L,M,h1,h2,h3⟩
theorem z74 {o p:Int} {a c:Byt} (ho:inI64 o) (hp:inI64 p) (ha:a.length<2^64) (hc:c.length<2^64) {L M:List RcM} (h1:rdE a=some L) (h2:rdE c=some M)
  (h3:hdL o L=hdL p M) (h4:¬(o=p∧a=c)):∃x y,extO o a p c=some (x,y)∧unl (imR o L) (imR p M)=some (x,y)∧x≠y∧shaB x=shaB y∧x∈imB o L∧y∈imB p M:=by
 have hu:=zcQ o p L.length L M rfl h3
 have he:extO o a p c=unl (imR o L) (imR p M):=by
  unfold extO;rw[h1,h2];exact if_pos ⟨h3,h4⟩
 rw[he]
 cases h5:unl (imR o L) (imR p M) with
 |none =>
  rw[h5]at hu;obtain⟨r1,r2⟩:=hu;exact absurd ⟨za9 ho hp r1,by rw[(z2g ha h1).1,(z2g hc h2).1,zbH r2]⟩ h4
 |some q =>
  rw[h5]at hu;exact⟨q.1,q.2,rfl,rfl,hu⟩
theorem z4d (L:List RcM):(L.map rcV).length=L.length:=List.length_map ..
theorem z5K {L:List RcM} {i:Nat} (h:L.length=i+1):(L.map rcV)[i]?=some (rcV (L.getD i noR0))∧lastC L=(L.getD i noR0).ck:=by
 refine⟨?_,?_⟩
 · rw[List.getElem?_map,List.getD_eq_getElem?_getD,List.getElem?_eq_getElem (by omega)];rfl
 · unfold lastC;rw[h];rfl
theorem zaa (u r:Byt):(u++r).drop ((u++r).length-r.length)=r:=by rw[List.length_append,Nat.add_sub_cancel,List.drop_left]
abbrev EnvE (b:Byt) (p i n:Nat):Env:=mkE 70 [(0,.sl 1 (byv b)),(4,.ptr p 0),(5,.osl (p+1) i),(15,I n),(16,I i)]
theorem z53 (σ:St) (b:Byt) (hb:b.length≤50000):Ans Tryd.prog 7 [.sl 1 (byv b)] σ (expW (rdE b)) σ:=by
 have o0:Inb b (0,false):=Nat.zero_le _;have y1:=z71 σ.length (rdE b);have j0:Bel σ.length (expW none):=z71 σ.length none;refine Ans.of_run' t7 (fun u0 _=>?_)
 simp -implicitDefEqProofs only[c7,r7,go_sem];refine CO.intro (z2E σ b) ?_;simp -implicitDefEqProofs only[go_sem,List.append_assoc,List.length_append];have hn:=z1g (σ++[rob b (0,false),.row 4 []]) σ.length b (0,false) 200 (by decide) (g0 _ _ _) o0 hb
 rw[s0]at hn
 cases h1:numR 200 b with
 |none =>
  have e0:rdE b=none:=by unfold rdE;rw[h1];rfl
  rw[e0];rw[z0p (show numR 200 (b.drop 0)=none from h1)]at hn
  refine CO.intro hn ?_;simp -implicitDefEqProofs only[go_sem];refine Go.Ab.L.count 0 (fun i=>mkE 70 [(0,.sl 1 (byv b)),(4,.ptr σ.length 0),(5,.osl (σ.length+1) 0),(15,I 0),(16,I 0)]) (fun _=>σ++[rob b (0,true),.row 4 []]) ?_ ?_ rfl rfl
  · intro i hi;omega
  · intro J;have h3:=z1z (σ++[rob b (0,true),.row 4 []]) σ.length b (0,true) (g0 _ _ _);simp -implicitDefEqProofs only[mkE,go_sem];refine CO.intro h3 ?_;simp -implicitDefEqProofs only[go_sem];exact Fini.trim2 (σ':=σ) (ex:=[_,_]) rfl rfl (Nat.le_refl _) j0 u0
 |some p =>
  obtain⟨n,t⟩:=p;have j1:=(z1H (most:=200) (by decide)).bwd _ _ _ h1
  obtain⟨hn2,u1⟩:=j1;obtain⟨hdr,-,hle⟩:=(ends_num 200).drop (b:=b) (a:=0) (by omega) h1
  rw[z0k (show numR 200 (b.drop 0)=some (n,t) from h1)]at hn
  refine CO.intro hn ?_;have r1:IntKind.i64.wrap (n:Int)=(n:Int):=wrapI (by omega)
  simp -implicitDefEqProofs only[go_sem,r1];have hlt:b.length=(putN n).length+t.length:=by rw[←List.length_append,←u1]
  refine Go.Ab.L.intro (α:={ p:Nat×List RcM×Byt // p.1≤n∧goE b.length t p.1=some (p.2.1,p.2.2) }) (fun p=>n-p.1.1)
   (fun p=>EnvE b σ.length p.1.1 n) (fun p=>σ++[rob b (b.length-p.1.2.2.length,false),.row 4 (p.1.2.1.map rcV)]) ?_ ⟨(0,[],t),Nat.zero_le _,rfl⟩ rfl rfl
  rintro⟨⟨i,L,r⟩,hi,hg⟩ J hJ;simp only at hi hg hJ⊢;have hlen:=z51 hg;simp only at hlen;obtain⟨w,hw⟩:=z8T (by omega) hg
  simp only at hw;have q1:b=(putN n++w)++r:=by rw[List.append_assoc,←hw,←u1]
  have hbl:b.length=(putN n++w).length+r.length:=by rw[←List.length_append,←q1]
  have x1:b.drop (b.length-r.length)=r:=by
   have:=zaa (putN n++w) r;rw[←q1]at this;exact this
  have m1:Inb b (b.length-r.length,false):=Nat.sub_le _ _;by_cases hlt2:i<n
  case neg =>
   have f0:i=n:=by omega
   subst f0;have d0:decide ((i:Int)<(i:Int))=false:=decide_eq_false (by omega)
   have h3:=z1z (σ++[rob b (b.length-r.length,false),.row 4 (L.map rcV)]) σ.length b (b.length-r.length,false) (g0 _ _ _);have n0:=z4d L;simp -implicitDefEqProofs only[mkE,go_sem,d0];refine CO.intro h3 ?_;by_cases hr:r=[]
   · have e1:(((b.length-r.length:Nat):Int) != (b.length:Nat))=false:=by rw[hr];simp
     have e0:rdE b=some L:=by unfold rdE;rw[h1];simp only[Option.bind_some];rw[hg];simp only[Option.bind_some];rw[if_pos hr]
     rw[e0]at y1⊢;simp -implicitDefEqProofs only[go_sem,z05,e1,g1,s1,n0,hlen];exact Fini.trim2 (σ':=σ) (ex:=[_,_]) rfl rfl (Nat.le_refl _) y1 u0
   · have hr2:0<r.length:=List.length_pos_iff.2 hr
     have e1:(((b.length-r.length:Nat):Int) != (b.length:Nat))=true:=by
      rw[bne,Bool.not_eq_true',beq_eq_false_iff_ne];omega
     have e0:rdE b=none:=by unfold rdE;rw[h1];simp only[Option.bind_some];rw[hg];simp only[Option.bind_some];rw[if_neg hr]
     rw[e0];simp -implicitDefEqProofs only[go_sem,z05,e1];exact Fini.trim2 (σ':=σ) (ex:=[_,_]) rfl rfl (Nat.le_refl _) j0 u0
  have d0:decide ((i:Int)<(n:Int))=true:=decide_eq_true (by omega)
  have y0:goE b.length t (i+1)=none→rdE b=none:=fun h=>by unfold rdE;rw[h1];simp only[Option.bind_some];rw[z70 h (by omega:i+1≤n)];rfl
  have k0:=z1I (σ++[rob b (b.length-r.length,false),.row 4 (L.map rcV)]) σ.length b (b.length-r.length,false) b.length (by omega) (g0 _ _ _) m1 hb
  rw[s0]at k0
  cases h2:textR b.length r with
  |none =>
   rw[z0p (by rw[x1];exact h2)]at k0
   have r0:=z4F (σ++[rob b (b.length-r.length,true),.row 4 (L.map rcV)]) [] (by decide)
   rw[show rdRc []=none by kernel_rfl]at r0
   rw[y0 (by rw[goE,hg];simp only[Option.bind_some];rw[h2];rfl)]
   simp -implicitDefEqProofs only[mkE,go_sem,d0,z05];refine CO.intro k0 ?_;have hz:z29 ⟨#[]⟩=byv []:=rfl;simp -implicitDefEqProofs only[go_sem,hz];refine CO.intro r0 ?_;unfold rcW noRcV;simp -implicitDefEqProofs only[go_sem];exact Fini.trim2 (σ':=σ) (ex:=[_,_]) rfl rfl (Nat.le_refl _) j0 u0
  |some sp =>
   obtain⟨s,r2⟩:=sp;have hsz:s.size≤b.length:=((z0S (most:=b.length) (by omega)).bwd _ _ _ h2).1
   rw[z0k (by rw[x1];exact h2)]at k0
   have r0:=z4F (σ++[rob b (b.length-r2.length,false),.row 4 (L.map rcV)]) s.data.toList (by rw[z16];omega)
   simp -implicitDefEqProofs only[mkE,go_sem,d0,z05];refine CO.intro k0 ?_;simp -implicitDefEqProofs only[go_sem,z4r];refine CO.intro r0 ?_
   cases h3:rdRc s.data.toList with
   |none =>
    rw[y0 (by rw[goE,hg];simp only[Option.bind_some];rw[h2];simp only[Option.bind_some];rw[h3];rfl)]
    unfold rcW noRcV;simp -implicitDefEqProofs only[go_sem];exact Fini.trim2 (σ':=σ) (ex:=[_,_]) rfl rfl (Nat.le_refl _) j0 u0
   |some x =>
    have q0:goE b.length t (i+1)=if x.ix=(i:Int)∧lastC L≤x.ck then some (L++[x],r2) else none:=by
     rw[goE,hg];simp only[Option.bind_some];rw[h2];simp only[Option.bind_some];rw[h3];rfl
    have t1:rcV x=.agg [I x.ix,UN x.ck,.sl 1 (byv x.bd),I x.cd]:=rfl;unfold rcW;simp only;rw[t1];by_cases hix:x.ix=(i:Int)
    case neg =>
     have e1:(x.ix != (i:Int))=true:=by rw[bne,Bool.not_eq_true',beq_eq_false_iff_ne];exact hix
     rw[y0 (by rw[q0,if_neg (fun h=>hix h.1)])]
     simp -implicitDefEqProofs only[go_sem,e1];exact Fini.trim2 (σ':=σ) (ex:=[_,_]) rfl rfl (Nat.le_refl _) j0 u0
    have e1:(x.ix != (i:Int))=false:=by rw[hix,bne,beq_self_eq_true];rfl
    have n0:=z4d L;have wi:IntKind.i64.wrap ((i:Int)+1)=((i+1:Nat):Int):=wrap_succ (i:=i) (by omega)
    have m0:i+1≤4294967296:=by omega
    have k1:L.map rcV++[.agg [I x.ix,UN x.ck,.sl 1 (byv x.bd),I x.cd]]=(L++[x]).map rcV:=by rw[List.map_append];rfl
    by_cases hck:lastC L≤x.ck
    case neg =>
     rw[y0 (by rw[q0,if_neg (fun h=>hck h.2)])]
     cases i with
     |zero =>
      have:lastC L=0:=by rw[List.length_eq_zero_iff.1 hlen];rfl
      omega
     |succ k =>
      have d1:decide ((0:Int)<((k+1:Nat):Int))=true:=decide_eq_true (by omega)
      have ws:IntKind.i64.wrap (((k+1:Nat):Int)-1)=(k:Int):=by rw[show((k+1:Nat):Int)-1=(k:Int) by omega];exact wrapI (by omega)
      obtain⟨hx1,n1⟩:=z5K hlen;have h0:((k:Int)<((k+1:Nat):Int))=True:=eq_true (by omega)
      have l0:rcV (L.getD k noR0)=.agg [I (L.getD k noR0).ix,UN (L.getD k noR0).ck,.sl 1 (byv (L.getD k noR0).bd),I (L.getD k noR0).cd]:=rfl;rw[l0]at hx1;have e2:decide ((x.ck:Int)<((L.getD k noR0).ck:Int))=true:=decide_eq_true (by omega)
      simp -implicitDefEqProofs only[go_sem,e1,d1,ws,h0,g1,n0,hlen,hx1,e2];exact Fini.trim2 (σ':=σ) (ex:=[_,_]) rfl rfl (Nat.le_refl _) j0 u0
    have t0:=hJ ⟨(i+1,L++[x],r2),by simp only;omega,by simp only;rw[q0,if_pos ⟨hix,hck⟩]⟩ (by simp only;omega)
    simp only at t0;rw[←k1]at t0
    cases i with
    |zero =>
     have d1:decide ((0:Int)<((0:Nat):Int))=false:=rfl;simp -implicitDefEqProofs only[go_sem,e1,d1,g1,s1,n0,hlen,m0,List.length_singleton,wi];exact t0
    |succ k =>
     have d1:decide ((0:Int)<((k+1:Nat):Int))=true:=decide_eq_true (by omega)
     have ws:IntKind.i64.wrap (((k+1:Nat):Int)-1)=(k:Int):=by rw[show((k+1:Nat):Int)-1=(k:Int) by omega];exact wrapI (by omega)
     obtain⟨hx1,n1⟩:=z5K hlen;have h0:((k:Int)<((k+1:Nat):Int))=True:=eq_true (by omega)
     have l0:rcV (L.getD k noR0)=.agg [I (L.getD k noR0).ix,UN (L.getD k noR0).ck,.sl 1 (byv (L.getD k noR0).bd),I (L.getD k noR0).cd]:=rfl;rw[l0]at hx1;have e2:decide ((x.ck:Int)<((L.getD k noR0).ck:Int))=false:=decide_eq_false (by omega)
     simp -implicitDefEqProofs only[go_sem,e1,d1,ws,h0,g1,s1,n0,hlen,hx1,e2,m0,List.length_singleton,wi];exact t0
theorem zab {L:List RcM} {i:Nat} (h:i<L.length):(L.map rcV)[i]?=some (.agg [I L[i].ix,UN L[i].ck,.sl 1 (byv L[i].bd),I L[i].cd]):=by
 rw[List.getElem?_map,List.getElem?_eq_getElem h];rfl
end Go.Proofs.YteakobbdgehlgaaDoor
