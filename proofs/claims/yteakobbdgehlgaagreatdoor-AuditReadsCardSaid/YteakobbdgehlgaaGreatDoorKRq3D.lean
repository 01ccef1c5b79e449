/- A block put into a state, by the document. No condition. -/
import Derived.Test.YteakobbdgehlgaaGreatDoorKShB1D
import Derived.Test.YteakobbdgehlgaaGreatDoorKShA1D
set_option linter.unusedSimpArgs false
set_option linter.unusedVariables false
set_option linter.unusedSectionVars false
namespace Go.Proofs.YteakobbdgehlgaaGreatDoor.Sha
open Go Go.Ab Go.Cod
set_option maxRecDepth 100000
section
variable (σ:St)
set_option maxHeartbeats 4000000 in
theorem za9 (h:S8) (b:List UInt8) (hb:b.length=64) (hG:∀ex,gloA (σ++ex) 1=some kV):Ans Tryz.prog 74 [.agg (s8v h),.agg (bv b)] σ (.agg (wv (z3S h b))) σ:=by
 have hl:=z0N b;have ha:=bv_all b;have htk:List.take 64 (bv b)=bv b:=List.take_of_length_le (by rw[hl];omega)
 have hz:([.pl (.int .u32 0),.pl (.int .u32 0),.pl (.int .u32 0),.pl (.int .u32 0),.pl (.int .u32 0),.pl (.int .u32 0),.pl (.int .u32 0),.pl (.int .u32 0),.pl (.int .u32 0),.pl (.int .u32 0),.pl (.int .u32 0),.pl (.int .u32 0),.pl (.int .u32 0),.pl (.int .u32 0),.pl (.int .u32 0),.pl (.int .u32 0),.pl (.int .u32 0),.pl (.int .u32 0),.pl (.int .u32 0),.pl (.int .u32 0),.pl (.int .u32 0),.pl (.int .u32 0),.pl (.int .u32 0),.pl (.int .u32 0),.pl (.int .u32 0),.pl (.int .u32 0),.pl (.int .u32 0),.pl (.int .u32 0),.pl (.int .u32 0),.pl (.int .u32 0),.pl (.int .u32 0),.pl (.int .u32 0),.pl (.int .u32 0),.pl (.int .u32 0),.pl (.int .u32 0),.pl (.int .u32 0),.pl (.int .u32 0),.pl (.int .u32 0),.pl (.int .u32 0),.pl (.int .u32 0),.pl (.int .u32 0),.pl (.int .u32 0),.pl (.int .u32 0),.pl (.int .u32 0),.pl (.int .u32 0),.pl (.int .u32 0),.pl (.int .u32 0),.pl (.int .u32 0),.pl (.int .u32 0),.pl (.int .u32 0),.pl (.int .u32 0),.pl (.int .u32 0),.pl (.int .u32 0),.pl (.int .u32 0),.pl (.int .u32 0),.pl (.int .u32 0),.pl (.int .u32 0),.pl (.int .u32 0),.pl (.int .u32 0),.pl (.int .u32 0),.pl (.int .u32 0),.pl (.int .u32 0),.pl (.int .u32 0),.pl (.int .u32 0)]:List AV)=wv (z0d b 0):=rfl;have hh8:s8v h=wv h.l:=rfl;have hA:(s8v h).all AV.one=true:=rfl;refine Ans.of_run' t74 (fun hbel _=>?_)
 simp -implicitDefEqProofs only[c74,r74,go_sem,hl,hb,ha,hA,List.append_assoc,List.cons_append,List.nil_append,List.length_append,List.length_cons,List.length_nil];rw[hz];clear hz;refine Go.Ab.L.count 64 (fun i=>mkE 189 [(2,.rp (s8v h)),(3,.rp (bv b)),(4,.ptr σ.length 0),(5,.ptr (σ.length+1) 0),(6,I i)]) (fun i=>σ++[.box [.pl (.int .u32 0),.pl (.int .u32 0),.pl (.int .u32 0),.pl (.int .u32 0),.pl (.int .u32 0),.pl (.int .u32 0),.pl (.int .u32 0),.pl (.int .u32 0)],.box (wv (z0d b i))]) ?_ ?_ rfl rfl
 · intro i hi J hJ;have hd0:decide ((i:Int)<64)=true:=decide_eq_true (by omega)
   have l4:((i:Int)<((64:Nat):Int))=True:=eq_true (by omega)
   have w1:=z1y b i;have l5:(i≤63)=True:=eq_true (by omega)
   have hp:=fun x=>z7e (w:=z0d b i) (i:=i) (by omega) x
   have p0:∀n:Nat,((0:Int)≤(n:Int))=True:=fun n=>eq_true (Int.natCast_nonneg _)
   have wi:IntKind.i64.wrap ((i:Int)+1)=((i+1:Nat):Int):=by rw[←z0O (n:=i+1) (by omega)];congr 1
   have hw:z0d b (i+1)=(z0d b i).set i (nextW b (z0d b i) i):=rfl;by_cases h16:i<16
   · have hd1:decide ((i:Int)<16)=true:=decide_eq_true (by omega)
     have e1:IntKind.i64.wrap (4*(i:Int))=((4*i:Nat):Int):=by rw[←z0O (n:=4*i) (by omega)];congr 1
     have e2:∀k:Nat,k<4→IntKind.i64.wrap (((4*i:Nat):Int)+(k:Int))=((4*i+k:Nat):Int):=fun k hk=>by rw[←z0O (n:=4*i+k) (by omega)];congr 1
     have f1:=e2 1 (by decide)
     have f2:=e2 2 (by decide)
     have f3:=e2 3 (by decide)
     have l0:(((4*i:Nat):Int)<((64:Nat):Int))=True:=eq_true (by omega)
     have l1:(((4*i+1:Nat):Int)<((64:Nat):Int))=True:=eq_true (by omega)
     have l2:(((4*i+2:Nat):Int)<((64:Nat):Int))=True:=eq_true (by omega)
     have l3:(((4*i+3:Nat):Int)<((64:Nat):Int))=True:=eq_true (by omega)
     have hh:∀k,k<64→(List.drop k (bv b)).head?=some (.pl (.int .u8 (((gB b k).toNat:Nat):Int))):=fun k hk=>by have:=zaJ (b:=b) (i:=k) (by omega);rwa [Nat.mul_one]at this
     have h0:=hh (4*i) (by omega)
     have h1:=hh (4*i+1) (by omega)
     have h2:=hh (4*i+2) (by omega)
     have h3:=hh (4*i+3) (by omega)
     have k1:((1:Nat):Int)=1:=rfl;have k2:((2:Nat):Int)=2:=rfl;have k3:((3:Nat):Int)=3:=rfl;rw[k1]at f1;rw[k2]at f2;rw[k3]at f3;have hn:nextW b (z0d b i) i=word4 (gB b (4*i)) (gB b (4*i+1)) (gB b (4*i+2)) (gB b (4*i+3)):=by unfold nextW;rw[if_pos h16]
     have v1:=V_shl (b32 (gB b (4*i))) 24 (by decide)
     have v2:=V_shl (b32 (gB b (4*i+1))) 16 (by decide)
     have v3:=V_shl (b32 (gB b (4*i+2))) 8 (by decide)
     have t24:Int.toNat 24=24:=rfl;have t16:Int.toNat 16=16:=rfl;have t8:Int.toNat 8=8:=rfl;simp -implicitDefEqProofs only[mkE,go_sem,t24,t16,t8,wi,e1,l5,hp,l4,w1,z1U,G1,S1,v1,v2,v3,Nat.mul_one,h0,h1,h2,h3,f1,f2,f3,hd0,hd1,l0,l1,l2,l3,p0,Int.toNat_natCast,z8H,V_or];unfold word4 at hn;rw[hw,hn]at hJ;exact hJ
   · have hd1:decide ((i:Int)<16)=false:=decide_eq_false (by omega)
     have e:∀m:Nat,m≤i→IntKind.i64.wrap ((i:Int)-(m:Int))=((i-m:Nat):Int):=fun m hm=>by rw[←z0O (n:=i-m) (by omega)];congr 1;omega
     have f1:=e 15 (by omega)
     have f2:=e 2 (by omega)
     have f3:=e 16 (by omega)
     have f4:=e 7 (by omega)
     have k1:((15:Nat):Int)=15:=rfl;have k2:((2:Nat):Int)=2:=rfl;have k3:((16:Nat):Int)=16:=rfl;have k4:((7:Nat):Int)=7:=rfl;rw[k1]at f1;rw[k2]at f2;rw[k3]at f3;rw[k4]at f4;have l:∀m:Nat,(((i-m:Nat):Int)<((64:Nat):Int))=True:=fun m=>eq_true (by omega)
     have hh:∀m:Nat,(List.drop (i-m) (wv (z0d b i))).head?=some (V32 (gW (z0d b i) (i-m))):=fun m=>by rw[List.head?_drop,z3z (by omega)]
     have hn:nextW b (z0d b i) i=gW (z0d b i) (i-16)+sg0 (gW (z0d b i) (i-15))+gW (z0d b i) (i-7)+sg1 (gW (z0d b i) (i-2)):=by unfold nextW;rw[if_neg (by omega)]
     rw[hw,hn]at hJ;unfold sg0 sg1 at hJ;have q7:∀(A:BitVec 32) s,Ans Tryz.prog 100 [V32 A,.pl (.int .u64 7)] s (V32 (ror A 7)) s:=fun A s=>turned_ans s A 7 (by decide) (by decide)
     have q18:∀(A:BitVec 32) s,Ans Tryz.prog 100 [V32 A,.pl (.int .u64 18)] s (V32 (ror A 18)) s:=fun A s=>turned_ans s A 18 (by decide) (by decide)
     have q17:∀(A:BitVec 32) s,Ans Tryz.prog 100 [V32 A,.pl (.int .u64 17)] s (V32 (ror A 17)) s:=fun A s=>turned_ans s A 17 (by decide) (by decide)
     have q19:∀(A:BitVec 32) s,Ans Tryz.prog 100 [V32 A,.pl (.int .u64 19)] s (V32 (ror A 19)) s:=fun A s=>turned_ans s A 19 (by decide) (by decide)
     have t3:Int.toNat 3=3:=rfl;have t10:Int.toNat 10=10:=rfl;have v3:=fun A=>V_shr A 3 (by decide)
     have v10:=fun A=>V_shr A 10 (by decide)
     simp -implicitDefEqProofs only[mkE,go_sem,hd0,hd1,f1,f2,f3,f4,l,p0,G1,S1,w1,z1U,hh,Nat.mul_one,Int.toNat_natCast,l4,l5,hp,wi];refine CO.intro (q7 _ _) ?_;simp -implicitDefEqProofs only[go_sem];refine CO.intro (q18 _ _) ?_;simp -implicitDefEqProofs only[go_sem,V_xor,t3,v3];refine CO.intro (q17 _ _) ?_;simp -implicitDefEqProofs only[go_sem];refine CO.intro (q19 _ _) ?_;simp -implicitDefEqProofs only[go_sem,V_xor,t10,v10,f3,f4,l,p0,G1,S1,w1,z1U,hh,Nat.mul_one,Int.toNat_natCast,l4,l5,hp,wi,V_add];exact hJ
 · intro J0;have hd0:decide (((64:Nat):Int)<64)=false:=rfl;have wl:=z1y b 64;have hr:z3S h b=addTo h.l (rounds (z0d b 64) h 64).l 8:=rfl;rw[hr];generalize z0d b 64=w at wl;have wa:=z7d w;simp -implicitDefEqProofs only[mkE,go_sem,hd0,z4i,z3T,z6z,List.append_assoc,List.cons_append,List.nil_append,List.length_append,List.length_cons,List.length_nil,G2,S2,List.drop_succ_cons,List.drop_zero,List.drop_nil,List.append_nil];refine Go.Ab.L.count 64 (fun i=>mkE 189 [(2,.rp (s8v h)),(4,.ptr σ.length 0),(5,.ptr (σ.length+1) 0),(11,.ptr (σ.length+2) 0),(12,I i)]) (fun i=>σ++[.box [.pl (.int .u32 0),.pl (.int .u32 0),.pl (.int .u32 0),.pl (.int .u32 0),.pl (.int .u32 0),.pl (.int .u32 0),.pl (.int .u32 0),.pl (.int .u32 0)],.box (wv w),.box (s8v (rounds w h i))]) ?_ ?_ rfl rfl
   · intro i hi J hJ;have hd:decide ((i:Int)<64)=true:=decide_eq_true (by omega)
     generalize hs:rounds w h i=s;have hw:rounds w h (i+1)=rnd (kW i) (gW w i) (rounds w h i):=rfl;rw[hw,hs]at hJ;have l0:((0:Int)<((8:Nat):Int))=True:=eq_true (by decide)
     have n0:Int.toNat 0=0:=rfl;have l1:((1:Int)<((8:Nat):Int))=True:=eq_true (by decide)
     have n1:Int.toNat 1=1:=rfl;have l2:((2:Int)<((8:Nat):Int))=True:=eq_true (by decide)
     have n2:Int.toNat 2=2:=rfl;have l3:((3:Int)<((8:Nat):Int))=True:=eq_true (by decide)
     have n3:Int.toNat 3=3:=rfl;have l4:((4:Int)<((8:Nat):Int))=True:=eq_true (by decide)
     have n4:Int.toNat 4=4:=rfl;have l5:((5:Int)<((8:Nat):Int))=True:=eq_true (by decide)
     have n5:Int.toNat 5=5:=rfl;have l6:((6:Int)<((8:Nat):Int))=True:=eq_true (by decide)
     have n6:Int.toNat 6=6:=rfl;have l7:((7:Int)<((8:Nat):Int))=True:=eq_true (by decide)
     have n7:Int.toNat 7=7:=rfl;have q6:∀(A:BitVec 32) s,Ans Tryz.prog 100 [V32 A,.pl (.int .u64 6)] s (V32 (ror A 6)) s:=fun A s=>turned_ans s A 6 (by decide) (by decide)
     have q11:∀(A:BitVec 32) s,Ans Tryz.prog 100 [V32 A,.pl (.int .u64 11)] s (V32 (ror A 11)) s:=fun A s=>turned_ans s A 11 (by decide) (by decide)
     have q25:∀(A:BitVec 32) s,Ans Tryz.prog 100 [V32 A,.pl (.int .u64 25)] s (V32 (ror A 25)) s:=fun A s=>turned_ans s A 25 (by decide) (by decide)
     have q2:∀(A:BitVec 32) s,Ans Tryz.prog 100 [V32 A,.pl (.int .u64 2)] s (V32 (ror A 2)) s:=fun A s=>turned_ans s A 2 (by decide) (by decide)
     have q13:∀(A:BitVec 32) s,Ans Tryz.prog 100 [V32 A,.pl (.int .u64 13)] s (V32 (ror A 13)) s:=fun A s=>turned_ans s A 13 (by decide) (by decide)
     have q22:∀(A:BitVec 32) s,Ans Tryz.prog 100 [V32 A,.pl (.int .u64 22)] s (V32 (ror A 22)) s:=fun A s=>turned_ans s A 22 (by decide) (by decide)
     have hm:(if IntKind.u32.signed=true then(-1:Int) else IntKind.u32.max)=4294967295:=rfl
     have hK:=fun ex=>hG ex
     have hkv:=zaK hi;have l64:((i:Int)<((64:Nat):Int))=True:=eq_true (by omega)
     have p0:((0:Int)≤(i:Int))=True:=eq_true (Int.natCast_nonneg _);have hwi:(List.drop i (wv w)).head?=some (V32 (gW w i)):=by rw[List.head?_drop,z3z (by omega)]
     have wi:IntKind.i64.wrap ((i:Int)+1)=((i+1:Nat):Int):=by rw[←z0O (n:=i+1) (by omega)];congr 1
     unfold s8v;simp -implicitDefEqProofs only[mkE,go_sem,hd,G1,S1,G2,S2,l0,l1,l2,l3,l4,l5,l6,l7,n0,n1,n2,n3,n4,n5,n6,n7,Nat.mul_one,List.drop_succ_cons,List.drop_zero,List.head?_cons];refine CD.intro (q6 _ _) ?_;simp -implicitDefEqProofs only[go_sem];refine CD.intro (q11 _ _) ?_;simp -implicitDefEqProofs only[go_sem,V_xor];refine CD.intro (q25 _ _) ?_;simp -implicitDefEqProofs only[go_sem,V_xor,V_and,hm,V_not,V_add,G1,S1,G2,S2,l0,l1,l2,l3,l4,l5,l6,l7,n0,n1,n2,n3,n4,n5,n6,n7,Nat.mul_one,List.drop_succ_cons,List.drop_zero,List.head?_cons,l64,p0,hwi,hK,hkv,Int.toNat_natCast];refine CD.intro (q2 _ _) ?_;simp -implicitDefEqProofs only[go_sem];refine CD.intro (q13 _ _) ?_;simp -implicitDefEqProofs only[go_sem,V_xor];refine CD.intro (q22 _ _) ?_;simp -implicitDefEqProofs only[go_sem,V_xor,V_and,hm,V_not,V_add,G1,S1,G2,S2,l0,l1,l2,l3,l4,l5,l6,l7,n0,n1,n2,n3,n4,n5,n6,n7,Nat.mul_one,List.drop_succ_cons,List.drop_zero,List.head?_cons,l64,p0,wi,Int.toNat_natCast];unfold rnd t1W t2W s8v at hJ;exact hJ
   · intro J1;have hd1:decide (((64:Nat):Int)<64)=false:=rfl;generalize rounds w h 64=x;have hx8:s8v x=wv (addTo h.l x.l 0):=rfl;simp -implicitDefEqProofs only[mkE,go_sem,hd1];rw[hx8];refine Go.Ab.L.count 8 (fun j=>mkE 189 [(2,.rp (s8v h)),(4,.ptr σ.length 0),(11,.ptr (σ.length+2) 0),(17,I j)]) (fun j=>σ++[.box [.pl (.int .u32 0),.pl (.int .u32 0),.pl (.int .u32 0),.pl (.int .u32 0),.pl (.int .u32 0),.pl (.int .u32 0),.pl (.int .u32 0),.pl (.int .u32 0)],.box (wv w),.box (wv (addTo h.l x.l j))]) ?_ ?_ rfl rfl
     · intro j hj J hJ;have hd:decide ((j:Int)<8)=true:=decide_eq_true (by omega)
       have l8:((j:Int)<((8:Nat):Int))=True:=eq_true (by omega)
       have p0:((0:Int)≤(j:Int))=True:=eq_true (Int.natCast_nonneg _);have w1:=z2T h.l x.l rfl j;have h1:(List.drop j (wv (addTo h.l x.l j))).head?=some (V32 (gW (addTo h.l x.l j) j)):=by rw[List.head?_drop,z3z (by omega)]
       have h2:(List.drop j (wv h.l)).head?=some (V32 (gW h.l j)):=by rw[List.head?_drop,z3z (by show j<8;exact hj)]
       have li:(j≤7)=True:=eq_true (by omega)
       have hp:=fun y=>z7e (w:=addTo h.l x.l j) (i:=j) (by omega) y
       have wi:IntKind.i64.wrap ((j:Int)+1)=((j+1:Nat):Int):=by rw[←z0O (n:=j+1) (by omega)];congr 1
       have hw:addTo h.l x.l (j+1)=(addTo h.l x.l j).set j (gW (addTo h.l x.l j) j+gW h.l j):=rfl;rw[hw]at hJ;rw[hh8]at hJ⊢;simp -implicitDefEqProofs only[mkE,go_sem,hd,l8,p0,G1,S1,G2,S2,w1,z1U,h1,h2,Nat.mul_one,Int.toNat_natCast,V_add,li,hp,wi];exact hJ
     · intro J;have hd:decide (((8:Nat):Int)<8)=false:=rfl;have w1:=z2T h.l x.l rfl 8;have a1:=z7d (addTo h.l x.l 8);have k1:=z87 w1;have ab:=z8J σ.length (addTo h.l x.l 8);simp -implicitDefEqProofs only[mkE,go_sem,hd,G0,S0,G1,S1,G2,S2,w1,z1U,a1,k1,List.append_nil,List.drop_succ_cons,List.drop_zero,List.drop_nil];exact Fini.trim2 (σ':=σ) (ex:=[_,_,_]) (by simp -implicitDefEqProofs only[go_sem,resA,z01,rvA,oneOf,G0,w1,z1U,k1]<;>rfl) rfl (Nat.le_refl _) ab hbel
end
def zer64:List UInt8:=List.replicate 64 0
def blk (p:List UInt8) (i:Nat):List UInt8:=(p.drop (64*i)).take 64
def leftB (p:List UInt8) (i:Nat):St:=(List.range i).map fun k=>.box (bv (blk p k))
theorem z7F (p:List UInt8) (i:Nat):(leftB p i).length=i:=by simp[leftB]
theorem zaa (p:List UInt8) (i:Nat):leftB p i++[.box (bv (blk p i))]=leftB p (i+1):=by unfold leftB;rw[List.range_succ,List.map_append];rfl
section
variable (σ:St)
theorem GN (A B x:Ob) (L ex:St) (n:Nat) (h:L.length=n):(σ++A::B::(L++x::ex))[σ.length+(n+1+1)]?=some x:=by
 rw[List.getElem?_append_right (by omega),show σ.length+(n+1+1)-σ.length=n+2 by omega,List.getElem?_cons_succ,List.getElem?_cons_succ,List.getElem?_append_right (by omega),show n-L.length=0 by omega]
 rfl
theorem SN (A B x y:Ob) (L ex:St) (n:Nat) (h:L.length=n):(σ++A::B::(L++x::ex)).set (σ.length+(n+1+1)) y=σ++A::B::(L++y::ex):=by
 rw[List.set_append_right _ _ (by omega),show σ.length+(n+1+1)-σ.length=n+2 by omega,List.set_cons_succ,List.set_cons_succ,List.set_append_right _ _ (by omega),show n-L.length=0 by omega]
 rfl
set_option maxHeartbeats 4000000 in
theorem dsha_ans (b:List UInt8) (hb:b.length≤100000) (hG:∀ex,gloA (σ++ex) 1=some kV):Ans Tryz.prog 42 [.sl 1 (bv b)] σ (.agg (bv (shaB b))) σ:=by
 have hp:=fun s=>zd0 s b hb
 have hf:=fun s=>zbw s
 have h64:=z8O b
 have hple:(padB b).length≤200000:=by
  have:=z3H b.length;unfold padB;simp only[List.length_append,List.length_cons,List.length_replicate,wrdB_len];omega
 unfold shaB;have hpl:(padB b).length=64*((padB b).length/64):=by omega
 generalize padB b=p at hp h64 hpl hple;generalize hn:p.length/64=n at hpl;have hr:=fun ex h bl (hbl:bl.length=64)=>za9 (σ++ex) h bl hbl (fun ex2=>by rw[List.append_assoc];exact hG _)
 have hzz:([.pl (.int .u8 0),.pl (.int .u8 0),.pl (.int .u8 0),.pl (.int .u8 0),.pl (.int .u8 0),.pl (.int .u8 0),.pl (.int .u8 0),.pl (.int .u8 0),.pl (.int .u8 0),.pl (.int .u8 0),.pl (.int .u8 0),.pl (.int .u8 0),.pl (.int .u8 0),.pl (.int .u8 0),.pl (.int .u8 0),.pl (.int .u8 0),.pl (.int .u8 0),.pl (.int .u8 0),.pl (.int .u8 0),.pl (.int .u8 0),.pl (.int .u8 0),.pl (.int .u8 0),.pl (.int .u8 0),.pl (.int .u8 0),.pl (.int .u8 0),.pl (.int .u8 0),.pl (.int .u8 0),.pl (.int .u8 0),.pl (.int .u8 0),.pl (.int .u8 0),.pl (.int .u8 0),.pl (.int .u8 0)]:List AV)=bv zer32:=rfl;refine Ans.of_run' t42 (fun hbel _=>?_)
 simp -implicitDefEqProofs only[c42,r42,go_sem,List.append_assoc,List.cons_append,List.nil_append,List.length_append,List.length_cons,List.length_nil,G0,S0,G1,S1];refine CO.intro (hp _) ?_;simp -implicitDefEqProofs only[go_sem];refine CO.intro (hf _) ?_;simp -implicitDefEqProofs only[go_sem,List.append_assoc,List.cons_append,List.nil_append,List.length_append,List.length_cons,List.length_nil,G0,S0,G1,S1,z4i,z6z,List.drop_succ_cons,List.drop_zero,List.drop_nil,List.append_nil];refine Go.Ab.L.count n (fun i=>mkE 47 [(2,.ptr σ.length 0),(3,.sl 1 (bv p)),(4,.ptr (σ.length+1) 0),(5,I ((64*i:Nat):Int))]) (fun i=>σ++(.box (bv zer32)::.box (s8v (z2E p i))::leftB p i)) ?_ ?_ rfl rfl
 · intro i hi J hJ;have a1:IntKind.i64.wrap (((64*i:Nat):Int)+64)=((64*(i+1):Nat):Int):=by simp only[IntKind.wrap,IntKind.bits,IntKind.signed];simp;omega
   have hlb:=z0N p;have hd:decide (((64*(i+1):Nat):Int)≤(p.length:Nat))=true:=decide_eq_true (by omega)
   have hll:=z7F p i;have hbl:(blk p i).length=64:=by unfold blk;rw[List.length_take,List.length_drop];omega
   have hbv:=z0N (blk p i);have hall:=bv_all (blk p i);have hdt:List.drop (64*i) (List.take (64*(i+1)) (bv p))=bv (blk p i):=by rw[List.drop_take,zaR,zaQ];unfold blk;congr 2;omega
   have hle:(((64*i:Nat):Int)≤((64*(i+1):Nat):Int)∧((64*(i+1):Nat):Int)≤(p.length:Nat))=True:=eq_true ⟨by omega,by omega⟩
   have p0:∀n:Nat,((0:Int)≤(n:Int))=True:=fun n=>eq_true (Int.natCast_nonneg _)
   have hz64:([.pl (.int .u8 0),.pl (.int .u8 0),.pl (.int .u8 0),.pl (.int .u8 0),.pl (.int .u8 0),.pl (.int .u8 0),.pl (.int .u8 0),.pl (.int .u8 0),.pl (.int .u8 0),.pl (.int .u8 0),.pl (.int .u8 0),.pl (.int .u8 0),.pl (.int .u8 0),.pl (.int .u8 0),.pl (.int .u8 0),.pl (.int .u8 0),.pl (.int .u8 0),.pl (.int .u8 0),.pl (.int .u8 0),.pl (.int .u8 0),.pl (.int .u8 0),.pl (.int .u8 0),.pl (.int .u8 0),.pl (.int .u8 0),.pl (.int .u8 0),.pl (.int .u8 0),.pl (.int .u8 0),.pl (.int .u8 0),.pl (.int .u8 0),.pl (.int .u8 0),.pl (.int .u8 0),.pl (.int .u8 0),.pl (.int .u8 0),.pl (.int .u8 0),.pl (.int .u8 0),.pl (.int .u8 0),.pl (.int .u8 0),.pl (.int .u8 0),.pl (.int .u8 0),.pl (.int .u8 0),.pl (.int .u8 0),.pl (.int .u8 0),.pl (.int .u8 0),.pl (.int .u8 0),.pl (.int .u8 0),.pl (.int .u8 0),.pl (.int .u8 0),.pl (.int .u8 0),.pl (.int .u8 0),.pl (.int .u8 0),.pl (.int .u8 0),.pl (.int .u8 0),.pl (.int .u8 0),.pl (.int .u8 0),.pl (.int .u8 0),.pl (.int .u8 0),.pl (.int .u8 0),.pl (.int .u8 0),.pl (.int .u8 0),.pl (.int .u8 0),.pl (.int .u8 0),.pl (.int .u8 0),.pl (.int .u8 0),.pl (.int .u8 0)]:List AV)=bv zer64:=rfl;have hzl:(bv zer64).length=64:=rfl;have hz1:List.take 0 (bv zer64)=[]:=rfl;have hz2:List.drop 64 (bv zer64)=[]:=rfl;have tk2:List.take 64 (bv (blk p i))=bv (blk p i):=List.take_of_length_le (by rw[hbv,hbl];exact Nat.le_refl _)
   have hmin:Nat.min 64 64=64:=rfl;have gn:=fun A B x L ex h=>GN σ A B x L ex i h
   have sn:=fun A B x y L ex h=>SN σ A B x y L ex i h
   have hst:z2E p (i+1)=toS (z3S (z2E p i) (blk p i)):=rfl;have hre:=fun ex=>hr ex (z2E p i) _ hbl
   have t8:=toS_l (z61 (z2E p i) (blk p i));rw[t8]at hre;rw[hst,←zaa]at hJ;simp -implicitDefEqProofs only[mkE,go_sem,a1,hlb,hd,List.append_assoc,List.cons_append,List.nil_append,List.length_append,List.length_cons,List.length_nil,hll];rw[hz64];simp -implicitDefEqProofs only[go_sem,hzl,hll,gn,sn,hdt,hle,p0,Int.toNat_natCast,hbv,hbl,hall,z3l,tk2,hmin,hz1,hz2,List.append_nil,List.nil_append,G1,S1,z4i,z3T];refine CO.intro (hre _) ?_;simp -implicitDefEqProofs only[go_sem,a1,G1,S1,z4i,z3T,z6z,z8Q,List.append_nil];exact hJ
 · intro J0;have a1:IntKind.i64.wrap (((64*n:Nat):Int)+64)=((64*n+64:Nat):Int):=by simp only[IntKind.wrap,IntKind.bits,IntKind.signed];simp;omega
   have hlb:=z0N p;have hd0:decide (((64*n+64:Nat):Int)≤(p.length:Nat))=false:=decide_eq_false (by omega)
   have hll:=z7F p n;have gn:=fun A B x L ex h=>GN σ A B x L ex n h
   have sn:=fun A B x y L ex h=>SN σ A B x y L ex n h
   generalize z2E p n=H;simp -implicitDefEqProofs only[mkE,go_sem,a1,hlb,hd0,List.append_assoc,List.cons_append,List.nil_append,List.length_append,List.length_cons,List.length_nil,hll];refine Go.Ab.L.count 32 (fun i=>mkE 47 [(2,.ptr σ.length 0),(4,.ptr (σ.length+1) 0),(7,.ptr (σ.length+(n+1+1)) 0),(8,I i)]) (fun i=>σ++(.box (bv zer32)::.box (s8v H)::(leftB p n++[.box (bv (outTo H i))]))) ?_ ?_ rfl rfl
   · intro i hi J hJ;have hd:decide ((i:Int)<32)=true:=decide_eq_true (by omega)
     have q1:((i:Int)).tdiv 4=((i/4:Nat):Int):=rfl;have q2:((i:Int)).tmod 4=((i%4:Nat):Int):=rfl;have q3:IntKind.i64.wrap (8*((i%4:Nat):Int))=((8*(i%4):Nat):Int):=by rw[←z0O (n:=8*(i%4)) (by omega)];congr 1
     have q4:IntKind.i64.wrap (24-((8*(i%4):Nat):Int))=((24-8*(i%4):Nat):Int):=by rw[←z0O (n:=24-8*(i%4)) (by omega)];congr 1;omega
     have q5:IntKind.i64.wrap ((i/4:Nat):Int)=((i/4:Nat):Int):=z0O (by omega)
     have q6:IntKind.u64.wrap ((24-8*(i%4):Nat):Int)=((24-8*(i%4):Nat):Int):=by simp only[IntKind.wrap,IntKind.bits,IntKind.signed];simp;omega
     have p0:∀n:Nat,((0:Int)≤(n:Int))=True:=fun n=>eq_true (Int.natCast_nonneg _)
     have l8:(((i/4:Nat):Int)<((8:Nat):Int))=True:=eq_true (by omega)
     have l32:((i:Int)<((32:Nat):Int))=True:=eq_true (by omega)
     have hh:(List.drop (i/4) (s8v H)).head?=some (V32 (gW H.l (i/4))):=by rw[show s8v H=wv H.l from rfl,List.head?_drop,z3z (by show i/4<8;omega)]
     have v1:=V_shr (gW H.l (i/4)) (24-8*(i%4)) (by omega)
     have v2:=z8I (gW H.l (i/4) >>> (24-8*(i%4)));have wi:IntKind.i64.wrap ((i:Int)+1)=((i+1:Nat):Int):=by rw[←z0O (n:=i+1) (by omega)];congr 1
     have w1:=z2U H i;have w2:=z0N (outTo H i);have li:(i≤31)=True:=eq_true (by omega)
     have hp:=zdT (b:=outTo H i) (i:=i) (by omega)
     have hw:outTo H (i+1)=(outTo H i).set i (byteS H i):=rfl;rw[hw]at hJ;unfold byteS at hJ;simp -implicitDefEqProofs only[mkE,go_sem,hd,q1,q2,q3,q4,q5,q6,p0,l8,l32,hh,v1,v2,wi,w1,w2,li,hp,hll,gn,sn,G1,S1,Nat.mul_one,Int.toNat_natCast];exact hJ
   · intro J;have hd:decide (((32:Nat):Int)<32)=false:=rfl;have w1:=z2U H 32;have w2:=z0N (outTo H 32);have w3:(bv zer32).length=32:=rfl;have a1:=bv_all (outTo H 32);have k1:List.take 32 (bv (outTo H 32))=bv (outTo H 32):=List.take_of_length_le (by rw[w2,w1];exact Nat.le_refl _)
     have k2:List.drop 32 (bv zer32)=[]:=rfl;simp -implicitDefEqProofs only[mkE,go_sem,hd,G0,S0,G1,S1,hll,gn,sn,w1,w2,w3,a1,k1,k2,List.append_nil];exact Fini.trim2 (σ':=σ) (by simp -implicitDefEqProofs only[go_sem,resA,z01,rvA,oneOf,G0,w1,w2,k1]<;>rfl) rfl (Nat.le_refl _) (bel_bva _ _) hbel
end
end Go.Proofs.YteakobbdgehlgaaGreatDoor.Sha
namespace Go.Proofs.YteakobbdgehlgaaGreatDoor
open Go Go.Ab Go.Cod
set_option maxRecDepth 100000
abbrev noLb:Lab:=(⟨#[]⟩,⟨#[]⟩)
def valB (v:ByteArray):Bool:=decide (1≤v.size)&&decide (v.size≤24)
def labOk (L:List Lab) (i:Nat):Bool:=nameB (L.getD i noLb).1&&(valB (L.getD i noLb).2&& !(decide (0<i)&&leS (L.getD i noLb).1 (L.getD (i-1) noLb).1))
def setB (L:List Lab):Bool:=decide (1≤L.length)&&(decide (L.length≤6)&&(List.range L.length).all (labOk L))
theorem lvs_D (L:List Lab) (i:Nat) (h:i<L.length):(lvs L)[i]?=some (.agg [Sx (L.getD i noLb).1,Sx (L.getD i noLb).2]):=by
 have:=zeA L i h;rw[this,List.getD_eq_getElem?_getD,List.getElem?_eq_getElem h];rfl
theorem z6K (n:Nat) (a b:ByteArray):∀y∈([Sx a,Sx b]:List AV),Bel n y:=by
 intro y hy;simp only[List.mem_cons,List.not_mem_nil,or_false]at hy;rcases hy with rfl|rfl<;>exact .pl _
theorem z0z (n:Nat) (L:List Lab):Bel n (.sl 2 (lvs L)):=by
 refine .sl 2 _ fun i hi=>?_
 have:∀y∈lvs L,Bel n y:=by
  intro y hy;simp only[lvs,List.mem_map]at hy;obtain⟨x,_,rfl⟩:=hy;exact .agg _ fun i hi=>z6K n x.1 x.2 _ (List.getElem_mem hi)
 exact this _ (List.getElem_mem hi)
theorem z9i (n:Nat) (L:List Lab):Bel n (.sl 2 (lvs L))=True:=eq_true (z0z n L)
theorem BL_lb (n:Nat) (a b:ByteArray):Bel n (.agg [Sx a,Sx b])=True:=eq_true (.agg _ fun i hi=>z6K n a b _ (List.getElem_mem hi))
theorem BL_r2 (n:Nat) (a b:ByteArray):Bel n (.rp [Sx a,Sx b])=True:=eq_true (.rp _ fun i hi=>z6K n a b _ (List.getElem_mem hi))
theorem BL_r1 (n:Nat) (b:ByteArray):Bel n (.rp [Sx b])=True:=eq_true (.rp _ fun i hi=>by
 have:i=0:=by simp at hi;omega
 subst this;exact .pl _)
section
variable (σ:St)
theorem zeO (v:ByteArray):Ans Tryz.prog 158 [Sx v] σ (Bo (valB v)) σ:=by
 have d1:decide ((1:Int)≤(v.size:Nat))=decide (1≤v.size):=intle 1 v.size;have d2:decide (((v.size:Nat):Int)≤24)=decide (v.size≤24):=intle v.size 24;refine Ans.of_run t158 ?_;unfold valB
 cases h:decide (1≤v.size) with
 |false =>
  simp -implicitDefEqProofs only[c158,r158,go_sem,d1,h];exact Fini.ret rfl
 |true =>
  simp -implicitDefEqProofs only[c158,r158,go_sem,d1,d2,h];exact Fini.ret rfl
theorem z2a (L:List Lab):Ans Tryz.prog 147 [.sl 2 (lvs L)] σ (Bo (setB L)) σ:=by
 have e1:decide ((L.length:Int)<1)= !decide (1≤L.length):=by
  by_cases h:1≤L.length
  · rw[decide_eq_true h,decide_eq_false (by omega)];rfl
  · rw[decide_eq_false h,decide_eq_true (by omega)];rfl
 have e2:decide ((6:Int)<L.length)= !decide (L.length≤6):=by
  by_cases h:L.length≤6
  · rw[decide_eq_true h,decide_eq_false (by omega)];rfl
  · rw[decide_eq_false h,decide_eq_true (by omega)];rfl
 refine Ans.of_run' t147 (fun hbel hba=>?_)
 have le1:(σ.length≤σ.length+1)=True:=eq_true (by omega)
 have hb0:(∀o∈σ,BelO σ.length o)=True:=eq_true hbel;have htk:∀x:Ob,(σ++[x]).take σ.length=σ:=fun x=>List.take_left' rfl
 unfold setB
 cases h1:decide (1≤L.length) with
 |false =>
  simp -implicitDefEqProofs only[c147,r147,go_sem,z1z,e1,h1];exact Fini.ret rfl
 |true =>
 cases h2:decide (L.length≤6) with
 |false =>
  simp -implicitDefEqProofs only[c147,r147,go_sem,z1z,e1,e2,h1,h2];exact Fini.ret rfl
 |true =>
 have hl6:L.length≤6:=of_decide_eq_true h2;simp -implicitDefEqProofs only[c147,r147,go_sem,z1z,e1,e2,h1,h2];refine Go.Ab.L.scan L.length (labOk L) (fun i=>mkE 46 [(0,.sl 2 (lvs L)),(13,.sl 2 (lvs L)),(14,I L.length),(15,I i)]) (fun _=>σ) ?_ ?_ rfl rfl
 · intro i hi hp J hJ;have hx:=lvs_D L i hi;have hF:labOk L i=false→(List.range L.length).all (labOk L)=false:=fun h=>List.all_eq_false.2 ⟨i,List.mem_range.2 hi,by rw[h];decide⟩
   have hin:=wrap_succ (i:=i) (by omega)
   have d0:decide ((0:Int)<i)=decide (0<i):=by rw[Bool.eq_iff_iff];simp
   have hO:labOk L i=(nameB (L.getD i noLb).1&&(valB (L.getD i noLb).2&& !(decide (0<i)&&leS (L.getD i noLb).1 (L.getD (i-1) noLb).1))):=rfl;rw[hO]at hJ hF;generalize L.getD i noLb=x at hJ hF hx;obtain⟨nm,v⟩:=x;simp only at hJ hF hx;have n1:=fun s=>z5k s nm
   have n2:=fun s=>zeO s v
   simp -implicitDefEqProofs only[mkE,go_sem,z06,z1z,z0F hi,dec_lt hi,hx,g0,s0]
   first|refine CD.intro (n1 _) ?_|refine CS.intro n1 ?_
   cases hb1:nameB nm with
   |false =>
    rw[hb1]at hF;rw[hF rfl];simp -implicitDefEqProofs only[go_sem,z06,g0,s0,le1,B_pl,B_any,z62,B_tup,B_osl,B_ptr,B_sl0,z9i,BL_lb,BL_r2,BL_r1,htk,Nat.add_zero,hb0,List.length_append];exact Fini.ret rfl
   |true =>
    rw[hb1]at hF hJ;simp -implicitDefEqProofs only[go_sem,z06,g0,s0]
    first|refine CD.intro (n2 _) ?_|refine CS.intro n2 ?_
    cases hb2:valB v with
    |false =>
     rw[hb2]at hF;rw[hF rfl];simp -implicitDefEqProofs only[go_sem,z06,g0,s0,le1,B_pl,B_any,z62,B_tup,B_osl,B_ptr,B_sl0,z9i,BL_lb,BL_r2,BL_r1,htk,Nat.add_zero,hb0,List.length_append];exact Fini.ret rfl
    |true =>
     rw[hb2]at hF hJ;by_cases hz:i=0
     · subst hz;have hgo:=hJ rfl;have w01:IntKind.i64.wrap 1=1:=rfl;simp -implicitDefEqProofs only[go_sem,z06,d0,hin,w01,g0,s0,le1,B_pl,B_any,z62,B_tup,B_osl,B_ptr,B_sl0,z9i,BL_lb,BL_r2,BL_r1,htk,Nat.add_zero,hb0,List.length_append,Int.natCast_zero];exact hgo
     · have hpos:decide (0<i)=true:=decide_eq_true (by omega)
       have hx1:=lvs_D L (i-1) (by omega)
       have w1:IntKind.i64.wrap ((i:Int)-1)=((i-1:Nat):Int):=by rw[wrapN (by omega) (by omega)];omega
       have hlt1:(((i-1:Nat):Int)<L.length)=True:=by simp;omega
       rw[hpos]at hJ hF;generalize L.getD (i-1) noLb=x1 at hJ hF hx1;obtain⟨nm1,v1⟩:=x1;simp only at hJ hF hx1;have hle:(Op.bytesLess nm.toList nm1.toList||nm.toList==nm1.toList)=leS nm nm1:=rfl;simp -implicitDefEqProofs only[go_sem,z06,d0,hpos,w1,z1z,hlt1,hx1,hle,g0,s0,hin,g0,s0,le1,B_pl,B_any,z62,B_tup,B_osl,B_ptr,B_sl0,z9i,BL_lb,BL_r2,BL_r1,htk,Nat.add_zero,hb0,List.length_append]
       cases h7:leS nm nm1 with
       |true =>
        rw[h7]at hF;rw[hF rfl];simp -implicitDefEqProofs only[go_sem];exact Fini.ret rfl
       |false =>
        rw[h7]at hJ;have hgo:=hJ rfl;simp -implicitDefEqProofs only[go_sem,hin];exact hgo
 · intro hp J;have hd:decide ((L.length:Int)<L.length)=false:=by simp
   simp -implicitDefEqProofs only[mkE,go_sem,z1z,hd];refine Fini.ret' rfl (z16 ?_);exact(List.all_eq_true.2 fun i hi=>hp i (List.mem_range.1 hi)).symm
end
def labR:Rd Lab:=seqR (textR 12) (textR 24)
def setR:Rd (List Lab):=onlyR (rowR 6 labR) setB
def putLb (x:Lab):Byt:=txtB x.1++txtB x.2
def zfP (L:List Lab):Byt:=z4g putLb L
theorem lab_fits:Fits labR putLb (fun x=>x.1.size≤12∧x.2.size≤24):=z1V (z0T (by decide)) (z0T (by decide))
theorem zd1:EndsR labR:=lab_fits.ends
theorem zbx {L:List Lab} (h:setB L=true):L.length≤6∧∀x∈L,x.1.size≤12∧x.2.size≤24:=by
 unfold setB at h;simp only[Bool.and_eq_true,decide_eq_true_eq]at h;refine⟨h.2.1,fun x hx=>?_⟩
 obtain⟨i,hi,rfl⟩:=List.getElem_of_mem hx;have h2:=List.all_eq_true.1 h.2.2 i (List.mem_range.2 hi);unfold labOk valB at h2;simp only[Bool.and_eq_true,decide_eq_true_eq]at h2;have e:L.getD i noLb=L[i]:=by rw[List.getD_eq_getElem?_getD,List.getElem?_eq_getElem hi];rfl
 rw[e]at h2;exact⟨z6j h2.1,h2.2.1.2⟩
theorem set_fits:Fits setR zfP (fun L=>setB L=true) :=
 (z3k (z6w (by decide) lab_fits) setB).weaken fun L=>⟨fun h=>h.2,fun h=>⟨zbx h,h⟩⟩
theorem ends_set:EndsR setR:=set_fits.ends
def labS (b:Byt):Nat×Bool→Lab×(Nat×Bool):=seqSt (runR (textR 12) ⟨#[]⟩ b) (runR (textR 24) ⟨#[]⟩ b)
theorem z5B (b:Byt):StepsR b labR (labS b):=z0u (z0h b _ _) (z0h b _ _) (z0I 12)
def setS (b:Byt):Nat×Bool→List Lab×(Nat×Bool):=z0L (rowSt 6 b (labS b)) setB
theorem zby (b:Byt):StepsR b setR (setS b):=z1d (z5b (z5B b) zd1 6) _
theorem z7G (L:List Lab) (x:Lab):lvs L++[lv x]=lvs (L++[x]):=by simp[lvs]
abbrev lsV (L:List Lab):AV:=.sl 2 (lvs L)
theorem zab (σ:St) (b:Byt) (hb:b.length≤50000):Ans Tryz.prog 128 [.sl 1 (byv b)] σ (readV (setR b) b lsV .nils) σ:=by
 have hS:=(zby b).top;refine Ans.of_run' t128 (fun hbel _=>?_)
 simp -implicitDefEqProofs only[c128,r128,go_sem];refine CO.intro (new_ans σ b) ?_;simp -implicitDefEqProofs only[go_sem,List.append_assoc,List.length_append];generalize hq1:runR (numR 6) 0 b (0,false)=q1;have hin0:Inb b (0,false):=Nat.zero_le _;have hn:=z22 (σ++[rob b (0,false),.row 2 []]) σ.length b (0,false) 6 (by decide) (g0 _ _ _) hin0 hb
 rw[hq1,s0]at hn;refine CO.intro hn ?_;have hn5:q1.1≤6:=by rw[←hq1];exact z2x b _
 have hin1:Inb b q1.2:=by rw[←hq1];exact z0f _ _ _ _ hin0
 simp -implicitDefEqProofs only[go_sem];refine Go.Ab.L.count q1.1 (fun i=>mkE 37 [(5,.ptr σ.length 0),(6,.osl (σ.length+1) i),(12,UN q1.1),(13,UN i)]) (fun i=>σ++[rob b (itSt (labS b) q1.2 i).2,.row 2 (lvs (itSt (labS b) q1.2 i).1)]) ?_ ?_ rfl rfl
 · intro i hi J hJ;have hitI:=z2k (z5B b).inb q1.2 hin1 i;have hlen:=z34 (labS b) q1.2 i;simp only[itSt]at hJ;generalize itSt (labS b) q1.2 i=c at hJ hitI hlen⊢;obtain⟨l,q⟩:=c;simp only at hJ hitI hlen⊢;have d0:decide ((i:Int)<q1.1)=true:=dec_lt hi;have w0:=z1u (n:=i+1) (by omega)
   have e0:((i:Int)+1)=((i+1:Nat):Int):=rfl;unfold labS seqSt at hJ;simp only at hJ;simp -implicitDefEqProofs only[mkE,go_sem,d0];have h2:=z2F (σ++[rob b q,.row 2 (lvs l)]) σ.length b q 12 (by decide) (g0 _ _ _) hitI hb
   have hi3:=z0f (textR 12) ⟨#[]⟩ b q hitI;generalize runR (textR 12) ⟨#[]⟩ b q=r2 at h2 hi3 hJ;rw[s0]at h2;refine CO.intro h2 ?_;have h3:=z2F (σ++[rob b r2.2,.row 2 (lvs l)]) σ.length b r2.2 24 (by decide) (g0 _ _ _) hi3 hb
   generalize runR (textR 24) ⟨#[]⟩ b r2.2=r3 at h3 hJ;rw[s0]at h3;simp -implicitDefEqProofs only[go_sem];refine CO.intro h3 ?_;have hl:(lvs l).length=i:=by rw[z1z,hlen]
   have hle:i+1≤4294967296:=by omega
   have hsn:=z7G l (r2.1,r3.1);simp -implicitDefEqProofs only[go_sem,g1,s1,hl,hle,List.length_singleton,e0,w0];rw[←hsn]at hJ;exact hJ
 · intro J;have hitI:=z2k (z5B b).inb q1.2 hin1 q1.1;have hlen:=z34 (labS b) q1.2 q1.1
   have hL:setS b (0,false)=((itSt (labS b) q1.2 q1.1).1,took (itSt (labS b) q1.2 q1.1).2 0 (setB (itSt (labS b) q1.2 q1.1).1)):=by
    unfold setS z0L rowSt;rw[hq1]
   rw[hL]at hS;generalize itSt (labS b) q1.2 q1.1=c at hS hitI hlen⊢;obtain⟨l,q⟩:=c;simp only at hS hitI hlen⊢;have hl:(lvs l).length=q1.1:=by rw[z1z,hlen]
   have d0:decide ((q1.1:Int)<q1.1)=false:=by simp
   simp -implicitDefEqProofs only[mkE,go_sem,d0,g1,s1,hl];refine CO.intro (z2a _ l) ?_;have h2:=z0b (σ++[rob b q,.dead]) σ.length b q (setB l) (g0 _ _ _) hitI hb;rw[s0]at h2;simp -implicitDefEqProofs only[go_sem];refine CO.intro h2 ?_;have h3:=z2s (σ++[rob b (took q 0 (setB l)),.dead]) σ.length b (took q 0 (setB l)) (g0 _ _ _);simp -implicitDefEqProofs only[go_sem];refine CO.intro h3 ?_;have hbm:Bel σ.length (.sl 2 (lvs l)):=z0z _ _
   cases hr:setR b with
   |none =>
    have hb2:=hS.2 hr;rw[hb2];simp -implicitDefEqProofs only[go_sem];exact Fini.trim2 (σ':=σ) rfl rfl (Nat.le_refl _) (by unfold readV;exact z0a .nils) hbel
   |some p =>
    obtain⟨M,t⟩:=p;have hb2:=hS.1 M t hr;simp only[Prod.mk.injEq]at hb2;obtain⟨rfl,hb2⟩:=hb2;rw[hb2];simp -implicitDefEqProofs only[go_sem];refine Fini.trim2 (σ':=σ) rfl rfl (Nat.le_refl _) ?_ hbel;unfold readV;exact z0a hbm
theorem z7H (σ:St) (b:Byt) (hb:b.length≤50000):Ans Tryz.prog 128 [.sl 1 (byv b)] σ (readV (setR b) b lsV (lsV [])) σ:=by
 refine(zab σ b hb).subR ?_;unfold readV
 cases setR b with
 |none=>exact .tup (.cons (.nils 2) (.refl _))
 |some p=>exact .refl _
section
variable (σ:St) (p:Nat) (b:Byt) (q:Nat×Bool)
theorem zfQ (h:σ[p]?=some (rob b q)) (hq:Inb b q) (hb:b.length≤50000):Ans Tryz.prog 127 [.ptr p 0,.fn 128 [] []] σ (lsV (runR setR [] b q).1) (σ.set p (rob b (runR setR [] b q).2)):=by
 obtain⟨a,bad⟩:=q;have hq:a≤b.length:=hq;have hl:(b.drop a).length≤50000:=by rw[List.length_drop];omega
 cases hr:setR (b.drop a) with
 |none =>
  have hrd:=z7H σ (b.drop a) hl;rw[z0v hr]at hrd
  have e:runR setR [] b (a,bad)=([],(a,true)):=by
   cases bad
   · exact z0V hr
   · exact z0K _ _ _ _
  have e2:took (a,bad) 0 false=(a,true):=by cases bad<;>rfl
  have ht:=z18 σ p b (a,bad) 0 false h (by simp only;omega)
  rw[e2]at ht;rw[e]
  have:Ans Tryz.prog 127 [.ptr p 0,.fn 128 [] []] σ .nils (σ.set p (rob b (a,true))):=by
   refine Ans.of_run t127 ?_;simp -implicitDefEqProofs only[c127,r127,go_sem];refine CO.intro (z17 σ p b (a,bad) h hq) ?_;simp -implicitDefEqProofs only[go_sem];refine CO.intro hrd ?_;simp -implicitDefEqProofs only[go_sem];refine CO.intro ht ?_;simp -implicitDefEqProofs only[go_sem];exact Fini.ret rfl
  exact this.subR (.nils 2)
 |some x =>
  obtain⟨x,t⟩:=x;have hrd:=z7H σ (b.drop a) hl;rw[z0E hr]at hrd;have hdr:=ends_set.drop hq hr;have ht:=z18 σ p b (a,bad) ((b.drop a).length-t.length) true h (by simp only[List.length_drop];omega)
  cases bad with
  |true =>
   have e2:took (a,true) ((b.drop a).length-t.length) true=(a,true):=rfl;rw[e2]at ht;rw[z0K]
   have:Ans Tryz.prog 127 [.ptr p 0,.fn 128 [] []] σ .nils (σ.set p (rob b (a,true))):=by
    refine Ans.of_run t127 ?_;simp -implicitDefEqProofs only[c127,r127,go_sem];refine CO.intro (z17 σ p b (a,true) h hq) ?_;simp -implicitDefEqProofs only[go_sem];refine CO.intro hrd ?_;simp -implicitDefEqProofs only[go_sem];refine CO.intro ht ?_;simp -implicitDefEqProofs only[go_sem];exact Fini.ret rfl
   exact this.subR (.nils 2)
  |false =>
   have e2:took (a,false) ((b.drop a).length-t.length) true=(b.length-t.length,false):=by
    simp only[took,Bool.false_or,Bool.not_true,Bool.false_eq_true,if_false,List.length_drop];congr 1;omega
   rw[e2]at ht;rw[z0H hr];refine Ans.of_run t127 ?_;simp -implicitDefEqProofs only[c127,r127,go_sem];refine CO.intro (z17 σ p b (a,false) h hq) ?_;simp -implicitDefEqProofs only[go_sem];refine CO.intro hrd ?_;simp -implicitDefEqProofs only[go_sem];refine CO.intro ht ?_;simp -implicitDefEqProofs only[go_sem];exact Fini.ret rfl
theorem zfR (h:σ[p]?=some (rob b q)) (hq:Inb b q) (hb:b.length≤50000):Ans Tryz.prog 125 [.ptr p 0,.fn 126 [] []] σ (ruV (runR ruR noRu b q).1) (σ.set p (rob b (runR ruR noRu b q).2)):=by
 obtain⟨a,bad⟩:=q;have hq:a≤b.length:=hq;have hl:(b.drop a).length≤50000:=by rw[List.length_drop];omega
 have hp:p<σ.length:=(List.getElem?_eq_some_iff.1 h).1;have hz:∀ob,(σ++[ob])[p]?=some (rob b (a,bad)):=fun ob=>by rw[List.getElem?_append_left hp];exact h
 have hst:∀ob X,(σ++[ob]).set p X=σ.set p X++[ob]:=fun ob X=>by rw[List.set_append_left _ _ hp]
 have hlen:∀X,(σ.set p X).length=σ.length:=fun X=>List.length_set
 have gx:∀(X:Ob) (o:Ob) (ex:St),(σ.set p X++o::ex)[σ.length]?=some o:=fun X o ex=>by rw[←hlen X];exact g0 _ _ _
 have sx:∀(X:Ob) (o u:Ob) (ex:St),(σ.set p X++o::ex).set σ.length u=σ.set p X++u::ex:=fun X o u ex=>by rw[←hlen X];exact s0 _ _ _ _
 have gx1:∀(X:Ob) (o o2:Ob) (ex:St),(σ.set p X++o::o2::ex)[σ.length+1]?=some o2:=fun X o o2 ex=>by rw[←hlen X];exact g1 _ _ _ _
 have hbo:∀(hbel:∀o∈σ,BelO σ.length o) (q:Nat×Bool),∀o∈σ.set p (rob b q),BelO (σ.set p (rob b q)).length o:=fun hbel q=>by
  rw[hlen]
  exact z21 hbel (fun c hc=>by
   simp only[List.mem_cons,List.not_mem_nil,or_false]at hc;rcases hc with rfl|rfl|rfl
   · exact z1P _ _
   · exact .pl _
   · exact .pl _)
 cases hr:ruR (b.drop a) with
 |none =>
  have hrd:=fun s=>z6n s (b.drop a) hl
  simp only[z0v hr]at hrd
  have e:runR ruR noRu b (a,bad)=(noRu,(a,true)):=by
   cases bad
   · exact z0V hr
   · exact z0K _ _ _ _
  have e2:took (a,bad) 0 false=(a,true):=by cases bad<;>rfl
  have ht:=fun ob=>z18 (σ++[ob]) p b (a,bad) 0 false (hz ob) (by simp only;omega)
  simp only[e2,hst]at ht;rw[e]
  have:Ans Tryz.prog 125 [.ptr p 0,.fn 126 [] []] σ noRuV (σ.set p (rob b (a,true))):=by
   refine Ans.of_run' t125 (fun hbel _=>?_)
   simp -implicitDefEqProofs only[c125,r125,go_sem];refine CO.intro (z17 _ p b (a,bad) (hz _) hq) ?_;simp -implicitDefEqProofs only[go_sem];refine CO.intro (hrd _) ?_;simp -implicitDefEqProofs only[go_sem,ruV];refine CO.intro (ht _) ?_;simp -implicitDefEqProofs only[go_sem,gx,sx,gx1,List.append_assoc,List.length_append,hlen];exact Fini.trim2 (σ':=σ.set p (rob b (a,true))) (ex:=[_,_]) (by simp -implicitDefEqProofs only[go_sem,resA,z01,rvA,oneOf,gx]<;>rfl) rfl (by rw[hlen];exact Nat.le_refl _) (z1o _) (hbo hbel _)
  exact this.subR z6J
 |some x =>
  obtain⟨x,t⟩:=x;have hrd:=fun s=>z6n s (b.drop a) hl
  simp only[z0E hr]at hrd;have hdr:=ends_ru.drop hq hr;have ht:=fun ob=>z18 (σ++[ob]) p b (a,bad) ((b.drop a).length-t.length) true (hz ob) (by simp only[List.length_drop];omega)
  simp only[hst]at ht
  cases bad with
  |true =>
   have e2:took (a,true) ((b.drop a).length-t.length) true=(a,true):=rfl;rw[e2]at ht;rw[z0K]
   have:Ans Tryz.prog 125 [.ptr p 0,.fn 126 [] []] σ noRuV (σ.set p (rob b (a,true))):=by
    refine Ans.of_run' t125 (fun hbel _=>?_)
    simp -implicitDefEqProofs only[c125,r125,go_sem];refine CO.intro (z17 _ p b (a,true) (hz _) hq) ?_;simp -implicitDefEqProofs only[go_sem];refine CO.intro (hrd _) ?_;simp -implicitDefEqProofs only[go_sem,ruV];refine CO.intro (ht _) ?_;simp -implicitDefEqProofs only[go_sem,gx,sx,gx1,List.append_assoc,List.length_append,hlen];exact Fini.trim2 (σ':=σ.set p (rob b (a,true))) (ex:=[_,_]) (by simp -implicitDefEqProofs only[go_sem,resA,z01,rvA,oneOf,gx]<;>rfl) rfl (by rw[hlen];exact Nat.le_refl _) (z1o _) (hbo hbel _)
   exact this.subR z6J
  |false =>
   have e2:took (a,false) ((b.drop a).length-t.length) true=(b.length-t.length,false):=by
    simp only[took,Bool.false_or,Bool.not_true,Bool.false_eq_true,if_false,List.length_drop];congr 1;omega
   rw[e2]at ht;rw[z0H hr];refine Ans.of_run' t125 (fun hbel _=>?_)
   simp -implicitDefEqProofs only[c125,r125,go_sem];refine CO.intro (z17 _ p b (a,false) (hz _) hq) ?_;simp -implicitDefEqProofs only[go_sem];refine CO.intro (hrd _) ?_;simp -implicitDefEqProofs only[go_sem,ruV];refine CO.intro (ht _) ?_;simp -implicitDefEqProofs only[go_sem,gx,sx,gx1,List.append_assoc,List.length_append,hlen];exact Fini.trim2 (σ':=σ.set p (rob b (b.length-t.length,false))) (ex:=[_]) (by simp -implicitDefEqProofs only[go_sem,resA,z01,rvA,oneOf,gx]<;>rfl) rfl (by rw[hlen];exact Nat.le_refl _) (z5z _ x) (hbo hbel _)
end
structure ReM where
 tok:ByteArray
 op:Int
 id:Int
 txt:ByteArray
 st:Nat
 en:Nat
 sta:Int
 mt:List Mtr
 any:Bool
 lo:Nat
 hi:Nat
 ru:RuM
 ls:List Lab
 val:Nat
def reC (r:ReM):List AV:=[Sx r.tok,I r.op,I r.id,Sx r.txt,UN r.st,UN r.en,I r.sta,mlV r.mt,Bo r.any,Fl r.lo,Fl r.hi,mlV r.ru.src,mlV r.ru.tgt,Bo r.ru.any,Fl r.ru.lo,Fl r.ru.hi,.sl 1 (txs r.ru.eq),lsV r.ls,Fl r.val]
def reV (r:ReM):AV:=.agg (reC r)
def fTab:List Int:=[0,1,3,3,116,117,1,8,128,1,768,1,16,0,1,0,0]
def fOf (op:Int):Int×Bool:=if 1≤op∧op≤17 then(fTab.getD (op.toNat-1) 0,true) else(0,false)
theorem ops17 (op:Int):op=1∨op=2∨op=3∨op=4∨op=5∨op=6∨op=7∨op=8∨op=9∨op=10∨op=11∨op=12∨op=13∨op=14∨op=15∨op=16∨op=17∨(op<1∨17<op):=by omega
theorem z7I {op:Int} (h:op<1∨17<op):fOf op=(0,false):=by unfold fOf;rw[if_neg (by omega)]
theorem neI {op k:Int} (h:op≠k):(op==k)=false:=by simpa using h
def zF (n:Nat):Bool:=((bitsF n:Nat):Int)==0
def noBd (x:Bnd):Bool:=!x.1&&(zF x.2.1&&zF x.2.2)
def emI (n:Nat):Bool:=((n:Nat):Int)==0
def noRl (r:RuM):Bool:=emI r.src.length&&(emI r.tgt.length&&(emI r.eq.length&&noBd (r.any,r.lo,r.hi)))
def tokB (s:ByteArray):Bool:=decide (4≤s.size)&&decide (s.size≤16)
section
variable (σ:St)
theorem z1q (op:Int):Ans Tryz.prog 119 [I op] σ (.tup [I (fOf op).1,Bo (fOf op).2]) σ:=by
 refine Ans.of_run t119 ?_;rcases ops17 op with rfl|rfl|rfl|rfl|rfl|rfl|rfl|rfl|rfl|rfl|rfl|rfl|rfl|rfl|rfl|rfl|rfl|h
 all_goals first
  |(rw[z7I h]
    simp -implicitDefEqProofs only[c119,r119,go_sem,neI (op:=op) (k:=1) (by omega),neI (op:=op) (k:=2) (by omega),neI (op:=op) (k:=3) (by omega),neI (op:=op) (k:=4) (by omega),neI (op:=op) (k:=5) (by omega),neI (op:=op) (k:=6) (by omega),neI (op:=op) (k:=7) (by omega),neI (op:=op) (k:=8) (by omega),neI (op:=op) (k:=9) (by omega),neI (op:=op) (k:=10) (by omega),neI (op:=op) (k:=11) (by omega),neI (op:=op) (k:=12) (by omega),neI (op:=op) (k:=13) (by omega),neI (op:=op) (k:=14) (by omega),neI (op:=op) (k:=15) (by omega),neI (op:=op) (k:=16) (by omega),neI (op:=op) (k:=17) (by omega)]
    exact Fini.ret rfl)
  |(simp -implicitDefEqProofs only[c119,r119,go_sem]
    exact Fini.ret rfl)
theorem z1j (n:Nat):Ans Tryz.prog 162 [Fl n] σ (Bo (zF n)) σ:=by
 refine Ans.of_run t162 ?_;simp -implicitDefEqProofs only[c162,r162,go_sem];refine CO.intro (z4O σ n) ?_;simp -implicitDefEqProofs only[go_sem];exact Fini.ret rfl
theorem z1r (x:Bnd):Ans Tryz.prog 160 [bandV x] σ (Bo (noBd x)) σ:=by
 obtain⟨a,lo,hi⟩:=x;refine Ans.of_run t160 ?_;unfold bandV noBd;simp only
 cases a with
 |true =>
  simp -implicitDefEqProofs only[c160,r160,go_sem];exact Fini.ret rfl
 |false =>
  simp -implicitDefEqProofs only[c160,r160,go_sem];refine CO.intro (z1j σ lo) ?_
  cases zF lo with
  |false =>
   simp -implicitDefEqProofs only[go_sem];exact Fini.ret rfl
  |true =>
   simp -implicitDefEqProofs only[go_sem];refine CO.intro (z1j σ hi) ?_;simp -implicitDefEqProofs only[go_sem];exact Fini.ret rfl
theorem z1D (r:RuM):Ans Tryz.prog 161 [ruV r] σ (Bo (noRl r)) σ:=by
 have hb:=z1r σ (r.any,r.lo,r.hi);refine Ans.of_run t161 ?_;unfold ruV noRl emI;unfold bandV at hb
 cases h1:(((r.src.length:Nat):Int)==0) with
 |false =>
  simp -implicitDefEqProofs only[c161,r161,go_sem,z0s,h1];exact Fini.ret rfl
 |true =>
 cases h2:(((r.tgt.length:Nat):Int)==0) with
 |false =>
  simp -implicitDefEqProofs only[c161,r161,go_sem,z0s,h1,h2];exact Fini.ret rfl
 |true =>
 cases h3:(((r.eq.length:Nat):Int)==0) with
 |false =>
  simp -implicitDefEqProofs only[c161,r161,go_sem,z0s,z1l,h1,h2,h3];exact Fini.ret rfl
 |true =>
  simp -implicitDefEqProofs only[c161,r161,go_sem,z0s,z1l,h1,h2,h3];refine CO.intro hb ?_;simp -implicitDefEqProofs only[go_sem];exact Fini.ret rfl
theorem z3c (s:ByteArray):Ans Tryz.prog 163 [Sx s] σ (Bo (tokB s)) σ:=by
 have d1:decide ((4:Int)≤(s.size:Nat))=decide (4≤s.size):=intle 4 s.size;have d2:decide (((s.size:Nat):Int)≤16)=decide (s.size≤16):=intle s.size 16;refine Ans.of_run t163 ?_;unfold tokB
 cases h:decide (4≤s.size) with
 |false =>
  simp -implicitDefEqProofs only[c163,r163,go_sem,d1,h];exact Fini.ret rfl
 |true =>
  simp -implicitDefEqProofs only[c163,r163,go_sem,d1,d2,h];exact Fini.ret rfl
end
def andI (a b:Int):Int:=IntKind.i64.wrap ((BitVec.ofInt 64 a &&& BitVec.ofInt 64 b).toNat:Int)
def hasF (f k:Int):Bool:=decide (0<andI f k)
def emS (s:ByteArray):Bool:=s.toList==(⟨#[]⟩:ByteArray).toList
def emU (n:Nat):Bool:=(n:Int)==0
def idR (n:Int):Bool:=decide (0≤n)&&decide (n≤2147483647)
def clkB (n:Nat):Bool:=decide ((n:Int)≤1099511627776)
def staR (n:Int):Bool:=decide (0≤n)&&decide (n≤3)
def zeroB (r:ReM) (f:Int):Bool :=
 (hasF f 1||r.id==0)&&((hasF f 2||emS r.txt)&&((hasF f 4||(emU r.st&&emU r.en))&&((hasF f 8||r.sta==0)&&((hasF f 16||emI r.mt.length)&&((hasF f 64||noBd (r.any,r.lo,r.hi))&&((hasF f 128||noRl r.ru)&&((hasF f 256||emI r.ls.length)&&(hasF f 512||zF r.val))))))))
def z0y (r:ReM) (f:Int):Bool :=
 idR r.id&&((!hasF f 2||tokB r.txt)&&(clkB r.st&&(clkB r.en&&(staR r.sta&&(listB r.mt&&((!hasF f 32|| !emI r.mt.length)&&((!hasF f 64||mayB r.any r.lo r.hi)&&((!hasF f 128||ruIs r.ru)&&(!hasF f 256||setB r.ls)))))))))
def mayR (r:ReM):Bool:=(fOf r.op).2&&(zeroB r (fOf r.op).1&&z0y r (fOf r.op).1)
theorem z4A (n:Nat):decide ((0:Int)<n)= !emI n:=by
 unfold emI;rw[Bool.eq_iff_iff];simp only[decide_eq_true_eq,Bool.not_eq_true',beq_eq_false_iff_ne];omega
theorem z8n (op:Int):(fOf op).1∈[0,1,3,116,117,8,128,768,16]:=by
 rcases ops17 op with rfl|rfl|rfl|rfl|rfl|rfl|rfl|rfl|rfl|rfl|rfl|rfl|rfl|rfl|rfl|rfl|rfl|h
 all_goals first|(rw[z7I h];decide)|decide
abbrev aI (f k:Int):Int:=IntKind.i64.wrap (((@HAnd.hAnd (BitVec 64) (BitVec 64) (BitVec 64) (@instHAndOfAndOp (BitVec IntKind.i64.bits) (@BitVec.instAndOp IntKind.i64.bits)) (BitVec.ofInt 64 f) (BitVec.ofInt 64 k)).toNat:Nat):Int)
theorem an_0:aI 0 1=0∧aI 0 2=0∧aI 0 4=0∧aI 0 8=0∧aI 0 16=0∧aI 0 32=0∧aI 0 64=0∧aI 0 128=0∧aI 0 256=0∧aI 0 512=0:=by decide +kernel
theorem hs_0:hasF 0 1=false∧hasF 0 2=false∧hasF 0 4=false∧hasF 0 8=false∧hasF 0 16=false∧hasF 0 32=false∧hasF 0 64=false∧hasF 0 128=false∧hasF 0 256=false∧hasF 0 512=false:=by decide +kernel
theorem an_1:aI 1 1=1∧aI 1 2=0∧aI 1 4=0∧aI 1 8=0∧aI 1 16=0∧aI 1 32=0∧aI 1 64=0∧aI 1 128=0∧aI 1 256=0∧aI 1 512=0:=by decide +kernel
theorem hs_1:hasF 1 1=true∧hasF 1 2=false∧hasF 1 4=false∧hasF 1 8=false∧hasF 1 16=false∧hasF 1 32=false∧hasF 1 64=false∧hasF 1 128=false∧hasF 1 256=false∧hasF 1 512=false:=by decide +kernel
theorem an_3:aI 3 1=1∧aI 3 2=2∧aI 3 4=0∧aI 3 8=0∧aI 3 16=0∧aI 3 32=0∧aI 3 64=0∧aI 3 128=0∧aI 3 256=0∧aI 3 512=0:=by decide +kernel
theorem hs_3:hasF 3 1=true∧hasF 3 2=true∧hasF 3 4=false∧hasF 3 8=false∧hasF 3 16=false∧hasF 3 32=false∧hasF 3 64=false∧hasF 3 128=false∧hasF 3 256=false∧hasF 3 512=false:=by decide +kernel
theorem zfS:aI 116 1=0∧aI 116 2=0∧aI 116 4=4∧aI 116 8=0∧aI 116 16=16∧aI 116 32=32∧aI 116 64=64∧aI 116 128=0∧aI 116 256=0∧aI 116 512=0:=by decide +kernel
theorem zbz:hasF 116 1=false∧hasF 116 2=false∧hasF 116 4=true∧hasF 116 8=false∧hasF 116 16=true∧hasF 116 32=true∧hasF 116 64=true∧hasF 116 128=false∧hasF 116 256=false∧hasF 116 512=false:=by decide +kernel
theorem zfT:aI 117 1=1∧aI 117 2=0∧aI 117 4=4∧aI 117 8=0∧aI 117 16=16∧aI 117 32=32∧aI 117 64=64∧aI 117 128=0∧aI 117 256=0∧aI 117 512=0:=by decide +kernel
theorem zbA:hasF 117 1=true∧hasF 117 2=false∧hasF 117 4=true∧hasF 117 8=false∧hasF 117 16=true∧hasF 117 32=true∧hasF 117 64=true∧hasF 117 128=false∧hasF 117 256=false∧hasF 117 512=false:=by decide +kernel
theorem an_8:aI 8 1=0∧aI 8 2=0∧aI 8 4=0∧aI 8 8=8∧aI 8 16=0∧aI 8 32=0∧aI 8 64=0∧aI 8 128=0∧aI 8 256=0∧aI 8 512=0:=by decide +kernel
theorem hs_8:hasF 8 1=false∧hasF 8 2=false∧hasF 8 4=false∧hasF 8 8=true∧hasF 8 16=false∧hasF 8 32=false∧hasF 8 64=false∧hasF 8 128=false∧hasF 8 256=false∧hasF 8 512=false:=by decide +kernel
theorem zfU:aI 128 1=0∧aI 128 2=0∧aI 128 4=0∧aI 128 8=0∧aI 128 16=0∧aI 128 32=0∧aI 128 64=0∧aI 128 128=128∧aI 128 256=0∧aI 128 512=0:=by decide +kernel
theorem zbB:hasF 128 1=false∧hasF 128 2=false∧hasF 128 4=false∧hasF 128 8=false∧hasF 128 16=false∧hasF 128 32=false∧hasF 128 64=false∧hasF 128 128=true∧hasF 128 256=false∧hasF 128 512=false:=by decide +kernel
theorem zfV:aI 768 1=0∧aI 768 2=0∧aI 768 4=0∧aI 768 8=0∧aI 768 16=0∧aI 768 32=0∧aI 768 64=0∧aI 768 128=0∧aI 768 256=256∧aI 768 512=512:=by decide +kernel
theorem zbC:hasF 768 1=false∧hasF 768 2=false∧hasF 768 4=false∧hasF 768 8=false∧hasF 768 16=false∧hasF 768 32=false∧hasF 768 64=false∧hasF 768 128=false∧hasF 768 256=true∧hasF 768 512=true:=by decide +kernel
theorem an_16:aI 16 1=0∧aI 16 2=0∧aI 16 4=0∧aI 16 8=0∧aI 16 16=16∧aI 16 32=0∧aI 16 64=0∧aI 16 128=0∧aI 16 256=0∧aI 16 512=0:=by decide +kernel
theorem hs_16:hasF 16 1=false∧hasF 16 2=false∧hasF 16 4=false∧hasF 16 8=false∧hasF 16 16=true∧hasF 16 32=false∧hasF 16 64=false∧hasF 16 128=false∧hasF 16 256=false∧hasF 16 512=false:=by decide +kernel
attribute [go_sem] z0s z1z z1l an_0 an_1 an_3 zfS zfT an_8 zfU zfV an_16
section
variable (σ:St)
set_option maxHeartbeats 4000000 in
theorem zfW (r:ReM):Ans Tryz.prog 151 [reV r,I 0] σ (Bo (zeroB r 0)) σ:=by
 obtain⟨tok,op,id,txt,st,en,sta,mt,any,lo,hi,⟨src,tgt,ra,rl,rh,eq⟩,ls,val⟩:=r;have b1:=z1r σ (any,lo,hi);have b2:=z1D σ ⟨src,tgt,ra,rl,rh,eq⟩;have b3:=z1j σ val;unfold bandV at b1;unfold ruV at b2;refine Ans.of_run t151 ?_;unfold reV reC zeroB;simp only[hs_0,Bool.true_or,Bool.false_or,Bool.true_and];unfold emS;unfold emU;unfold emI
 cases h0:(id==0) with
 |false =>
  simp -implicitDefEqProofs only[c151,r151,go_sem,h0];exact Fini.ret rfl
 |true =>
 cases h1:(txt.toList==(⟨#[]⟩:ByteArray).toList) with
 |false =>
  simp -implicitDefEqProofs only[c151,r151,go_sem,h0,h1];exact Fini.ret rfl
 |true =>
 cases h2:(((st:Nat):Int)==0) with
 |false =>
  simp -implicitDefEqProofs only[c151,r151,go_sem,h0,h1,h2];exact Fini.ret rfl
 |true =>
 cases h3:(((en:Nat):Int)==0) with
 |false =>
  simp -implicitDefEqProofs only[c151,r151,go_sem,h0,h1,h2,h3];exact Fini.ret rfl
 |true =>
 cases h4:(sta==0) with
 |false =>
  simp -implicitDefEqProofs only[c151,r151,go_sem,h0,h1,h2,h3,h4];exact Fini.ret rfl
 |true =>
 cases h5:(((mt.length:Nat):Int)==0) with
 |false =>
  simp -implicitDefEqProofs only[c151,r151,go_sem,h0,h1,h2,h3,h4,h5];exact Fini.ret rfl
 |true =>
 simp -implicitDefEqProofs only[c151,r151,go_sem,h0,h1,h2,h3,h4,h5];refine CO.intro b1 ?_
 cases h6:noBd (any,lo,hi) with
 |false =>
  simp -implicitDefEqProofs only[go_sem];exact Fini.ret rfl
 |true =>
 simp -implicitDefEqProofs only[go_sem];refine CO.intro b2 ?_
 cases h7:noRl ⟨src,tgt,ra,rl,rh,eq⟩ with
 |false =>
  simp -implicitDefEqProofs only[go_sem];exact Fini.ret rfl
 |true =>
 cases h8:(((ls.length:Nat):Int)==0) with
 |false =>
  simp -implicitDefEqProofs only[go_sem,h8];exact Fini.ret rfl
 |true =>
 simp -implicitDefEqProofs only[go_sem,h8];refine CO.intro b3 ?_
 cases h9:zF val with
 |false =>
  simp -implicitDefEqProofs only[go_sem];exact Fini.ret rfl
 |true =>
 simp -implicitDefEqProofs only[go_sem];exact Fini.ret rfl
set_option maxHeartbeats 4000000 in
theorem zeP (r:ReM):Ans Tryz.prog 152 [reV r,I 0] σ (Bo (z0y r 0)) σ:=by
 obtain⟨tok,op,id,txt,st,en,sta,mt,any,lo,hi,⟨src,tgt,ra,rl,rh,eq⟩,ls,val⟩:=r;have b0:=z3c σ txt;have b1:=z1O σ mt;have b2:=z23 σ any lo hi;have b3:=z29 σ ⟨src,tgt,ra,rl,rh,eq⟩;have b4:=z2a σ ls;unfold ruV at b3;refine Ans.of_run t152 ?_;unfold reV reC z0y idR staR clkB;simp only[hs_0,Bool.not_true,Bool.not_false,Bool.true_or,Bool.false_or,Bool.true_and,Bool.and_assoc]
 cases h0:decide (0≤id) with
 |false =>
  simp -implicitDefEqProofs only[c152,r152,go_sem,h0];exact Fini.ret rfl
 |true =>
 cases h1:decide (id≤2147483647) with
 |false =>
  simp -implicitDefEqProofs only[c152,r152,go_sem,h0,h1];exact Fini.ret rfl
 |true =>
 cases h2:decide (((st:Nat):Int)≤1099511627776) with
 |false =>
  simp -implicitDefEqProofs only[c152,r152,go_sem,h0,h1,h2];exact Fini.ret rfl
 |true =>
 cases h3:decide (((en:Nat):Int)≤1099511627776) with
 |false =>
  simp -implicitDefEqProofs only[c152,r152,go_sem,h0,h1,h2,h3];exact Fini.ret rfl
 |true =>
 cases h4:decide (0≤sta) with
 |false =>
  simp -implicitDefEqProofs only[c152,r152,go_sem,h0,h1,h2,h3,h4];exact Fini.ret rfl
 |true =>
 cases h5:decide (sta≤3) with
 |false =>
  simp -implicitDefEqProofs only[c152,r152,go_sem,h0,h1,h2,h3,h4,h5];exact Fini.ret rfl
 |true =>
 simp -implicitDefEqProofs only[c152,r152,go_sem,h0,h1,h2,h3,h4,h5];refine CO.intro b1 ?_
 cases h6:listB mt with
 |false =>
  simp -implicitDefEqProofs only[go_sem,];exact Fini.ret rfl
 |true =>
 simp -implicitDefEqProofs only[go_sem];exact Fini.ret rfl
set_option maxHeartbeats 4000000 in
theorem zfX (r:ReM):Ans Tryz.prog 151 [reV r,I 1] σ (Bo (zeroB r 1)) σ:=by
 obtain⟨tok,op,id,txt,st,en,sta,mt,any,lo,hi,⟨src,tgt,ra,rl,rh,eq⟩,ls,val⟩:=r;have b1:=z1r σ (any,lo,hi);have b2:=z1D σ ⟨src,tgt,ra,rl,rh,eq⟩;have b3:=z1j σ val;unfold bandV at b1;unfold ruV at b2;refine Ans.of_run t151 ?_;unfold reV reC zeroB;simp only[hs_1,Bool.true_or,Bool.false_or,Bool.true_and];unfold emS;unfold emU;unfold emI
 cases h0:(txt.toList==(⟨#[]⟩:ByteArray).toList) with
 |false =>
  simp -implicitDefEqProofs only[c151,r151,go_sem,h0];exact Fini.ret rfl
 |true =>
 cases h1:(((st:Nat):Int)==0) with
 |false =>
  simp -implicitDefEqProofs only[c151,r151,go_sem,h0,h1];exact Fini.ret rfl
 |true =>
 cases h2:(((en:Nat):Int)==0) with
 |false =>
  simp -implicitDefEqProofs only[c151,r151,go_sem,h0,h1,h2];exact Fini.ret rfl
 |true =>
 cases h3:(sta==0) with
 |false =>
  simp -implicitDefEqProofs only[c151,r151,go_sem,h0,h1,h2,h3];exact Fini.ret rfl
 |true =>
 cases h4:(((mt.length:Nat):Int)==0) with
 |false =>
  simp -implicitDefEqProofs only[c151,r151,go_sem,h0,h1,h2,h3,h4];exact Fini.ret rfl
 |true =>
 simp -implicitDefEqProofs only[c151,r151,go_sem,h0,h1,h2,h3,h4];refine CO.intro b1 ?_
 cases h5:noBd (any,lo,hi) with
 |false =>
  simp -implicitDefEqProofs only[go_sem];exact Fini.ret rfl
 |true =>
 simp -implicitDefEqProofs only[go_sem];refine CO.intro b2 ?_
 cases h6:noRl ⟨src,tgt,ra,rl,rh,eq⟩ with
 |false =>
  simp -implicitDefEqProofs only[go_sem];exact Fini.ret rfl
 |true =>
 cases h7:(((ls.length:Nat):Int)==0) with
 |false =>
  simp -implicitDefEqProofs only[go_sem,h7];exact Fini.ret rfl
 |true =>
 simp -implicitDefEqProofs only[go_sem,h7];refine CO.intro b3 ?_
 cases h8:zF val with
 |false =>
  simp -implicitDefEqProofs only[go_sem];exact Fini.ret rfl
 |true =>
 simp -implicitDefEqProofs only[go_sem];exact Fini.ret rfl
set_option maxHeartbeats 4000000 in
theorem zeQ (r:ReM):Ans Tryz.prog 152 [reV r,I 1] σ (Bo (z0y r 1)) σ:=by
 obtain⟨tok,op,id,txt,st,en,sta,mt,any,lo,hi,⟨src,tgt,ra,rl,rh,eq⟩,ls,val⟩:=r;have b0:=z3c σ txt;have b1:=z1O σ mt;have b2:=z23 σ any lo hi;have b3:=z29 σ ⟨src,tgt,ra,rl,rh,eq⟩;have b4:=z2a σ ls;unfold ruV at b3;refine Ans.of_run t152 ?_;unfold reV reC z0y idR staR clkB;simp only[hs_1,Bool.not_true,Bool.not_false,Bool.true_or,Bool.false_or,Bool.true_and,Bool.and_assoc]
 cases h0:decide (0≤id) with
 |false =>
  simp -implicitDefEqProofs only[c152,r152,go_sem,h0];exact Fini.ret rfl
 |true =>
 cases h1:decide (id≤2147483647) with
 |false =>
  simp -implicitDefEqProofs only[c152,r152,go_sem,h0,h1];exact Fini.ret rfl
 |true =>
 cases h2:decide (((st:Nat):Int)≤1099511627776) with
 |false =>
  simp -implicitDefEqProofs only[c152,r152,go_sem,h0,h1,h2];exact Fini.ret rfl
 |true =>
 cases h3:decide (((en:Nat):Int)≤1099511627776) with
 |false =>
  simp -implicitDefEqProofs only[c152,r152,go_sem,h0,h1,h2,h3];exact Fini.ret rfl
 |true =>
 cases h4:decide (0≤sta) with
 |false =>
  simp -implicitDefEqProofs only[c152,r152,go_sem,h0,h1,h2,h3,h4];exact Fini.ret rfl
 |true =>
 cases h5:decide (sta≤3) with
 |false =>
  simp -implicitDefEqProofs only[c152,r152,go_sem,h0,h1,h2,h3,h4,h5];exact Fini.ret rfl
 |true =>
 simp -implicitDefEqProofs only[c152,r152,go_sem,h0,h1,h2,h3,h4,h5];refine CO.intro b1 ?_
 cases h6:listB mt with
 |false =>
  simp -implicitDefEqProofs only[go_sem,];exact Fini.ret rfl
 |true =>
 simp -implicitDefEqProofs only[go_sem];exact Fini.ret rfl
set_option maxHeartbeats 4000000 in
theorem zfY (r:ReM):Ans Tryz.prog 151 [reV r,I 3] σ (Bo (zeroB r 3)) σ:=by
 obtain⟨tok,op,id,txt,st,en,sta,mt,any,lo,hi,⟨src,tgt,ra,rl,rh,eq⟩,ls,val⟩:=r;have b1:=z1r σ (any,lo,hi);have b2:=z1D σ ⟨src,tgt,ra,rl,rh,eq⟩;have b3:=z1j σ val;unfold bandV at b1;unfold ruV at b2;refine Ans.of_run t151 ?_;unfold reV reC zeroB;simp only[hs_3,Bool.true_or,Bool.false_or,Bool.true_and];unfold emU;unfold emI
 cases h0:(((st:Nat):Int)==0) with
 |false =>
  simp -implicitDefEqProofs only[c151,r151,go_sem,h0];exact Fini.ret rfl
 |true =>
 cases h1:(((en:Nat):Int)==0) with
 |false =>
  simp -implicitDefEqProofs only[c151,r151,go_sem,h0,h1];exact Fini.ret rfl
 |true =>
 cases h2:(sta==0) with
 |false =>
  simp -implicitDefEqProofs only[c151,r151,go_sem,h0,h1,h2];exact Fini.ret rfl
 |true =>
 cases h3:(((mt.length:Nat):Int)==0) with
 |false =>
  simp -implicitDefEqProofs only[c151,r151,go_sem,h0,h1,h2,h3];exact Fini.ret rfl
 |true =>
 simp -implicitDefEqProofs only[c151,r151,go_sem,h0,h1,h2,h3];refine CO.intro b1 ?_
 cases h4:noBd (any,lo,hi) with
 |false =>
  simp -implicitDefEqProofs only[go_sem];exact Fini.ret rfl
 |true =>
 simp -implicitDefEqProofs only[go_sem];refine CO.intro b2 ?_
 cases h5:noRl ⟨src,tgt,ra,rl,rh,eq⟩ with
 |false =>
  simp -implicitDefEqProofs only[go_sem];exact Fini.ret rfl
 |true =>
 cases h6:(((ls.length:Nat):Int)==0) with
 |false =>
  simp -implicitDefEqProofs only[go_sem,h6];exact Fini.ret rfl
 |true =>
 simp -implicitDefEqProofs only[go_sem,h6];refine CO.intro b3 ?_
 cases h7:zF val with
 |false =>
  simp -implicitDefEqProofs only[go_sem];exact Fini.ret rfl
 |true =>
 simp -implicitDefEqProofs only[go_sem];exact Fini.ret rfl
set_option maxHeartbeats 4000000 in
theorem zeR (r:ReM):Ans Tryz.prog 152 [reV r,I 3] σ (Bo (z0y r 3)) σ:=by
 obtain⟨tok,op,id,txt,st,en,sta,mt,any,lo,hi,⟨src,tgt,ra,rl,rh,eq⟩,ls,val⟩:=r;have b0:=z3c σ txt;have b1:=z1O σ mt;have b2:=z23 σ any lo hi;have b3:=z29 σ ⟨src,tgt,ra,rl,rh,eq⟩;have b4:=z2a σ ls;unfold ruV at b3;refine Ans.of_run t152 ?_;unfold reV reC z0y idR staR clkB;simp only[hs_3,Bool.not_true,Bool.not_false,Bool.true_or,Bool.false_or,Bool.true_and,Bool.and_assoc]
 cases h0:decide (0≤id) with
 |false =>
  simp -implicitDefEqProofs only[c152,r152,go_sem,h0];exact Fini.ret rfl
 |true =>
 cases h1:decide (id≤2147483647) with
 |false =>
  simp -implicitDefEqProofs only[c152,r152,go_sem,h0,h1];exact Fini.ret rfl
 |true =>
 simp -implicitDefEqProofs only[c152,r152,go_sem,h0,h1];refine CO.intro b0 ?_
 cases h2:tokB txt with
 |false =>
  simp -implicitDefEqProofs only[go_sem,];exact Fini.ret rfl
 |true =>
 cases h3:decide (((st:Nat):Int)≤1099511627776) with
 |false =>
  simp -implicitDefEqProofs only[go_sem,h3];exact Fini.ret rfl
 |true =>
 cases h4:decide (((en:Nat):Int)≤1099511627776) with
 |false =>
  simp -implicitDefEqProofs only[go_sem,h3,h4];exact Fini.ret rfl
 |true =>
 cases h5:decide (0≤sta) with
 |false =>
  simp -implicitDefEqProofs only[go_sem,h3,h4,h5];exact Fini.ret rfl
 |true =>
 cases h6:decide (sta≤3) with
 |false =>
  simp -implicitDefEqProofs only[go_sem,h3,h4,h5,h6];exact Fini.ret rfl
 |true =>
 simp -implicitDefEqProofs only[go_sem,h3,h4,h5,h6];refine CO.intro b1 ?_
 cases h7:listB mt with
 |false =>
  simp -implicitDefEqProofs only[go_sem,];exact Fini.ret rfl
 |true =>
 simp -implicitDefEqProofs only[go_sem];exact Fini.ret rfl
end
section
variable (σ:St)
set_option maxHeartbeats 4000000 in
theorem zd2 (r:ReM):Ans Tryz.prog 151 [reV r,I 116] σ (Bo (zeroB r 116)) σ:=by
 obtain⟨tok,op,id,txt,st,en,sta,mt,any,lo,hi,⟨src,tgt,ra,rl,rh,eq⟩,ls,val⟩:=r;have b1:=z1r σ (any,lo,hi);have b2:=z1D σ ⟨src,tgt,ra,rl,rh,eq⟩;have b3:=z1j σ val;unfold bandV at b1;unfold ruV at b2;refine Ans.of_run t151 ?_;unfold reV reC zeroB;simp only[zbz,Bool.true_or,Bool.false_or,Bool.true_and];unfold emS;unfold emI
 cases h0:(id==0) with
 |false =>
  simp -implicitDefEqProofs only[c151,r151,go_sem,h0];exact Fini.ret rfl
 |true =>
 cases h1:(txt.toList==(⟨#[]⟩:ByteArray).toList) with
 |false =>
  simp -implicitDefEqProofs only[c151,r151,go_sem,h0,h1];exact Fini.ret rfl
 |true =>
 cases h2:(sta==0) with
 |false =>
  simp -implicitDefEqProofs only[c151,r151,go_sem,h0,h1,h2];exact Fini.ret rfl
 |true =>
 simp -implicitDefEqProofs only[c151,r151,go_sem,h0,h1,h2];refine CO.intro b2 ?_
 cases h3:noRl ⟨src,tgt,ra,rl,rh,eq⟩ with
 |false =>
  simp -implicitDefEqProofs only[go_sem];exact Fini.ret rfl
 |true =>
 cases h4:(((ls.length:Nat):Int)==0) with
 |false =>
  simp -implicitDefEqProofs only[go_sem,h4];exact Fini.ret rfl
 |true =>
 simp -implicitDefEqProofs only[go_sem,h4];refine CO.intro b3 ?_
 cases h5:zF val with
 |false =>
  simp -implicitDefEqProofs only[go_sem];exact Fini.ret rfl
 |true =>
 simp -implicitDefEqProofs only[go_sem];exact Fini.ret rfl
set_option maxHeartbeats 4000000 in
theorem zbD (r:ReM):Ans Tryz.prog 152 [reV r,I 116] σ (Bo (z0y r 116)) σ:=by
 obtain⟨tok,op,id,txt,st,en,sta,mt,any,lo,hi,⟨src,tgt,ra,rl,rh,eq⟩,ls,val⟩:=r;have b0:=z3c σ txt;have b1:=z1O σ mt;have b2:=z23 σ any lo hi;have b3:=z29 σ ⟨src,tgt,ra,rl,rh,eq⟩;have b4:=z2a σ ls;unfold ruV at b3;refine Ans.of_run t152 ?_;unfold reV reC z0y idR staR clkB;simp only[zbz,Bool.not_true,Bool.not_false,Bool.true_or,Bool.false_or,Bool.true_and,Bool.and_assoc]
 cases h0:decide (0≤id) with
 |false =>
  simp -implicitDefEqProofs only[c152,r152,go_sem,h0];exact Fini.ret rfl
 |true =>
 cases h1:decide (id≤2147483647) with
 |false =>
  simp -implicitDefEqProofs only[c152,r152,go_sem,h0,h1];exact Fini.ret rfl
 |true =>
 cases h2:decide (((st:Nat):Int)≤1099511627776) with
 |false =>
  simp -implicitDefEqProofs only[c152,r152,go_sem,h0,h1,h2];exact Fini.ret rfl
 |true =>
 cases h3:decide (((en:Nat):Int)≤1099511627776) with
 |false =>
  simp -implicitDefEqProofs only[c152,r152,go_sem,h0,h1,h2,h3];exact Fini.ret rfl
 |true =>
 cases h4:decide (0≤sta) with
 |false =>
  simp -implicitDefEqProofs only[c152,r152,go_sem,h0,h1,h2,h3,h4];exact Fini.ret rfl
 |true =>
 cases h5:decide (sta≤3) with
 |false =>
  simp -implicitDefEqProofs only[c152,r152,go_sem,h0,h1,h2,h3,h4,h5];exact Fini.ret rfl
 |true =>
 simp -implicitDefEqProofs only[c152,r152,go_sem,h0,h1,h2,h3,h4,h5];refine CO.intro b1 ?_
 cases h6:listB mt with
 |false =>
  simp -implicitDefEqProofs only[go_sem,];exact Fini.ret rfl
 |true =>
 have hl:=z4A mt.length
 cases h7:(!emI mt.length) with
 |false =>
  rw[h7]at hl;simp -implicitDefEqProofs only[go_sem,hl];exact Fini.ret rfl
 |true =>
 rw[h7]at hl;simp -implicitDefEqProofs only[go_sem,hl];refine CO.intro b2 ?_
 cases h8:mayB any lo hi with
 |false =>
  simp -implicitDefEqProofs only[go_sem,];exact Fini.ret rfl
 |true =>
 simp -implicitDefEqProofs only[go_sem];exact Fini.ret rfl
set_option maxHeartbeats 4000000 in
theorem zd3 (r:ReM):Ans Tryz.prog 151 [reV r,I 117] σ (Bo (zeroB r 117)) σ:=by
 obtain⟨tok,op,id,txt,st,en,sta,mt,any,lo,hi,⟨src,tgt,ra,rl,rh,eq⟩,ls,val⟩:=r;have b1:=z1r σ (any,lo,hi);have b2:=z1D σ ⟨src,tgt,ra,rl,rh,eq⟩;have b3:=z1j σ val;unfold bandV at b1;unfold ruV at b2;refine Ans.of_run t151 ?_;unfold reV reC zeroB;simp only[zbA,Bool.true_or,Bool.false_or,Bool.true_and];unfold emS;unfold emI
 cases h0:(txt.toList==(⟨#[]⟩:ByteArray).toList) with
 |false =>
  simp -implicitDefEqProofs only[c151,r151,go_sem,h0];exact Fini.ret rfl
 |true =>
 cases h1:(sta==0) with
 |false =>
  simp -implicitDefEqProofs only[c151,r151,go_sem,h0,h1];exact Fini.ret rfl
 |true =>
 simp -implicitDefEqProofs only[c151,r151,go_sem,h0,h1];refine CO.intro b2 ?_
 cases h2:noRl ⟨src,tgt,ra,rl,rh,eq⟩ with
 |false =>
  simp -implicitDefEqProofs only[go_sem];exact Fini.ret rfl
 |true =>
 cases h3:(((ls.length:Nat):Int)==0) with
 |false =>
  simp -implicitDefEqProofs only[go_sem,h3];exact Fini.ret rfl
 |true =>
 simp -implicitDefEqProofs only[go_sem,h3];refine CO.intro b3 ?_
 cases h4:zF val with
 |false =>
  simp -implicitDefEqProofs only[go_sem];exact Fini.ret rfl
 |true =>
 simp -implicitDefEqProofs only[go_sem];exact Fini.ret rfl
set_option maxHeartbeats 4000000 in
theorem zbE (r:ReM):Ans Tryz.prog 152 [reV r,I 117] σ (Bo (z0y r 117)) σ:=by
 obtain⟨tok,op,id,txt,st,en,sta,mt,any,lo,hi,⟨src,tgt,ra,rl,rh,eq⟩,ls,val⟩:=r;have b0:=z3c σ txt;have b1:=z1O σ mt;have b2:=z23 σ any lo hi;have b3:=z29 σ ⟨src,tgt,ra,rl,rh,eq⟩;have b4:=z2a σ ls;unfold ruV at b3;refine Ans.of_run t152 ?_;unfold reV reC z0y idR staR clkB;simp only[zbA,Bool.not_true,Bool.not_false,Bool.true_or,Bool.false_or,Bool.true_and,Bool.and_assoc]
 cases h0:decide (0≤id) with
 |false =>
  simp -implicitDefEqProofs only[c152,r152,go_sem,h0];exact Fini.ret rfl
 |true =>
 cases h1:decide (id≤2147483647) with
 |false =>
  simp -implicitDefEqProofs only[c152,r152,go_sem,h0,h1];exact Fini.ret rfl
 |true =>
 cases h2:decide (((st:Nat):Int)≤1099511627776) with
 |false =>
  simp -implicitDefEqProofs only[c152,r152,go_sem,h0,h1,h2];exact Fini.ret rfl
 |true =>
 cases h3:decide (((en:Nat):Int)≤1099511627776) with
 |false =>
  simp -implicitDefEqProofs only[c152,r152,go_sem,h0,h1,h2,h3];exact Fini.ret rfl
 |true =>
 cases h4:decide (0≤sta) with
 |false =>
  simp -implicitDefEqProofs only[c152,r152,go_sem,h0,h1,h2,h3,h4];exact Fini.ret rfl
 |true =>
 cases h5:decide (sta≤3) with
 |false =>
  simp -implicitDefEqProofs only[c152,r152,go_sem,h0,h1,h2,h3,h4,h5];exact Fini.ret rfl
 |true =>
 simp -implicitDefEqProofs only[c152,r152,go_sem,h0,h1,h2,h3,h4,h5];refine CO.intro b1 ?_
 cases h6:listB mt with
 |false =>
  simp -implicitDefEqProofs only[go_sem,];exact Fini.ret rfl
 |true =>
 have hl:=z4A mt.length
 cases h7:(!emI mt.length) with
 |false =>
  rw[h7]at hl;simp -implicitDefEqProofs only[go_sem,hl];exact Fini.ret rfl
 |true =>
 rw[h7]at hl;simp -implicitDefEqProofs only[go_sem,hl];refine CO.intro b2 ?_
 cases h8:mayB any lo hi with
 |false =>
  simp -implicitDefEqProofs only[go_sem,];exact Fini.ret rfl
 |true =>
 simp -implicitDefEqProofs only[go_sem];exact Fini.ret rfl
end
section
variable (σ:St)
set_option maxHeartbeats 4000000 in
theorem zfZ (r:ReM):Ans Tryz.prog 151 [reV r,I 8] σ (Bo (zeroB r 8)) σ:=by
 obtain⟨tok,op,id,txt,st,en,sta,mt,any,lo,hi,⟨src,tgt,ra,rl,rh,eq⟩,ls,val⟩:=r;have b1:=z1r σ (any,lo,hi);have b2:=z1D σ ⟨src,tgt,ra,rl,rh,eq⟩;have b3:=z1j σ val;unfold bandV at b1;unfold ruV at b2;refine Ans.of_run t151 ?_;unfold reV reC zeroB;simp only[hs_8,Bool.true_or,Bool.false_or,Bool.true_and];unfold emS;unfold emU;unfold emI
 cases h0:(id==0) with
 |false =>
  simp -implicitDefEqProofs only[c151,r151,go_sem,h0];exact Fini.ret rfl
 |true =>
 cases h1:(txt.toList==(⟨#[]⟩:ByteArray).toList) with
 |false =>
  simp -implicitDefEqProofs only[c151,r151,go_sem,h0,h1];exact Fini.ret rfl
 |true =>
 cases h2:(((st:Nat):Int)==0) with
 |false =>
  simp -implicitDefEqProofs only[c151,r151,go_sem,h0,h1,h2];exact Fini.ret rfl
 |true =>
 cases h3:(((en:Nat):Int)==0) with
 |false =>
  simp -implicitDefEqProofs only[c151,r151,go_sem,h0,h1,h2,h3];exact Fini.ret rfl
 |true =>
 cases h4:(((mt.length:Nat):Int)==0) with
 |false =>
  simp -implicitDefEqProofs only[c151,r151,go_sem,h0,h1,h2,h3,h4];exact Fini.ret rfl
 |true =>
 simp -implicitDefEqProofs only[c151,r151,go_sem,h0,h1,h2,h3,h4];refine CO.intro b1 ?_
 cases h5:noBd (any,lo,hi) with
 |false =>
  simp -implicitDefEqProofs only[go_sem];exact Fini.ret rfl
 |true =>
 simp -implicitDefEqProofs only[go_sem];refine CO.intro b2 ?_
 cases h6:noRl ⟨src,tgt,ra,rl,rh,eq⟩ with
 |false =>
  simp -implicitDefEqProofs only[go_sem];exact Fini.ret rfl
 |true =>
 cases h7:(((ls.length:Nat):Int)==0) with
 |false =>
  simp -implicitDefEqProofs only[go_sem,h7];exact Fini.ret rfl
 |true =>
 simp -implicitDefEqProofs only[go_sem,h7];refine CO.intro b3 ?_
 cases h8:zF val with
 |false =>
  simp -implicitDefEqProofs only[go_sem];exact Fini.ret rfl
 |true =>
 simp -implicitDefEqProofs only[go_sem];exact Fini.ret rfl
set_option maxHeartbeats 4000000 in
theorem zeS (r:ReM):Ans Tryz.prog 152 [reV r,I 8] σ (Bo (z0y r 8)) σ:=by
 obtain⟨tok,op,id,txt,st,en,sta,mt,any,lo,hi,⟨src,tgt,ra,rl,rh,eq⟩,ls,val⟩:=r;have b0:=z3c σ txt;have b1:=z1O σ mt;have b2:=z23 σ any lo hi;have b3:=z29 σ ⟨src,tgt,ra,rl,rh,eq⟩;have b4:=z2a σ ls;unfold ruV at b3;refine Ans.of_run t152 ?_;unfold reV reC z0y idR staR clkB;simp only[hs_8,Bool.not_true,Bool.not_false,Bool.true_or,Bool.false_or,Bool.true_and,Bool.and_assoc]
 cases h0:decide (0≤id) with
 |false =>
  simp -implicitDefEqProofs only[c152,r152,go_sem,h0];exact Fini.ret rfl
 |true =>
 cases h1:decide (id≤2147483647) with
 |false =>
  simp -implicitDefEqProofs only[c152,r152,go_sem,h0,h1];exact Fini.ret rfl
 |true =>
 cases h2:decide (((st:Nat):Int)≤1099511627776) with
 |false =>
  simp -implicitDefEqProofs only[c152,r152,go_sem,h0,h1,h2];exact Fini.ret rfl
 |true =>
 cases h3:decide (((en:Nat):Int)≤1099511627776) with
 |false =>
  simp -implicitDefEqProofs only[c152,r152,go_sem,h0,h1,h2,h3];exact Fini.ret rfl
 |true =>
 cases h4:decide (0≤sta) with
 |false =>
  simp -implicitDefEqProofs only[c152,r152,go_sem,h0,h1,h2,h3,h4];exact Fini.ret rfl
 |true =>
 cases h5:decide (sta≤3) with
 |false =>
  simp -implicitDefEqProofs only[c152,r152,go_sem,h0,h1,h2,h3,h4,h5];exact Fini.ret rfl
 |true =>
 simp -implicitDefEqProofs only[c152,r152,go_sem,h0,h1,h2,h3,h4,h5];refine CO.intro b1 ?_
 cases h6:listB mt with
 |false =>
  simp -implicitDefEqProofs only[go_sem,];exact Fini.ret rfl
 |true =>
 simp -implicitDefEqProofs only[go_sem];exact Fini.ret rfl
set_option maxHeartbeats 4000000 in
theorem zd4 (r:ReM):Ans Tryz.prog 151 [reV r,I 128] σ (Bo (zeroB r 128)) σ:=by
 obtain⟨tok,op,id,txt,st,en,sta,mt,any,lo,hi,⟨src,tgt,ra,rl,rh,eq⟩,ls,val⟩:=r;have b1:=z1r σ (any,lo,hi);have b2:=z1D σ ⟨src,tgt,ra,rl,rh,eq⟩;have b3:=z1j σ val;unfold bandV at b1;unfold ruV at b2;refine Ans.of_run t151 ?_;unfold reV reC zeroB;simp only[zbB,Bool.true_or,Bool.false_or,Bool.true_and];unfold emS;unfold emU;unfold emI
 cases h0:(id==0) with
 |false =>
  simp -implicitDefEqProofs only[c151,r151,go_sem,h0];exact Fini.ret rfl
 |true =>
 cases h1:(txt.toList==(⟨#[]⟩:ByteArray).toList) with
 |false =>
  simp -implicitDefEqProofs only[c151,r151,go_sem,h0,h1];exact Fini.ret rfl
 |true =>
 cases h2:(((st:Nat):Int)==0) with
 |false =>
  simp -implicitDefEqProofs only[c151,r151,go_sem,h0,h1,h2];exact Fini.ret rfl
 |true =>
 cases h3:(((en:Nat):Int)==0) with
 |false =>
  simp -implicitDefEqProofs only[c151,r151,go_sem,h0,h1,h2,h3];exact Fini.ret rfl
 |true =>
 cases h4:(sta==0) with
 |false =>
  simp -implicitDefEqProofs only[c151,r151,go_sem,h0,h1,h2,h3,h4];exact Fini.ret rfl
 |true =>
 cases h5:(((mt.length:Nat):Int)==0) with
 |false =>
  simp -implicitDefEqProofs only[c151,r151,go_sem,h0,h1,h2,h3,h4,h5];exact Fini.ret rfl
 |true =>
 simp -implicitDefEqProofs only[c151,r151,go_sem,h0,h1,h2,h3,h4,h5];refine CO.intro b1 ?_
 cases h6:noBd (any,lo,hi) with
 |false =>
  simp -implicitDefEqProofs only[go_sem];exact Fini.ret rfl
 |true =>
 cases h7:(((ls.length:Nat):Int)==0) with
 |false =>
  simp -implicitDefEqProofs only[go_sem,h7];exact Fini.ret rfl
 |true =>
 simp -implicitDefEqProofs only[go_sem,h7];refine CO.intro b3 ?_
 cases h8:zF val with
 |false =>
  simp -implicitDefEqProofs only[go_sem];exact Fini.ret rfl
 |true =>
 simp -implicitDefEqProofs only[go_sem];exact Fini.ret rfl
set_option maxHeartbeats 4000000 in
theorem zbF (r:ReM):Ans Tryz.prog 152 [reV r,I 128] σ (Bo (z0y r 128)) σ:=by
 obtain⟨tok,op,id,txt,st,en,sta,mt,any,lo,hi,⟨src,tgt,ra,rl,rh,eq⟩,ls,val⟩:=r;have b0:=z3c σ txt;have b1:=z1O σ mt;have b2:=z23 σ any lo hi;have b3:=z29 σ ⟨src,tgt,ra,rl,rh,eq⟩;have b4:=z2a σ ls;unfold ruV at b3;refine Ans.of_run t152 ?_;unfold reV reC z0y idR staR clkB;simp only[zbB,Bool.not_true,Bool.not_false,Bool.true_or,Bool.false_or,Bool.true_and,Bool.and_assoc]
 cases h0:decide (0≤id) with
 |false =>
  simp -implicitDefEqProofs only[c152,r152,go_sem,h0];exact Fini.ret rfl
 |true =>
 cases h1:decide (id≤2147483647) with
 |false =>
  simp -implicitDefEqProofs only[c152,r152,go_sem,h0,h1];exact Fini.ret rfl
 |true =>
 cases h2:decide (((st:Nat):Int)≤1099511627776) with
 |false =>
  simp -implicitDefEqProofs only[c152,r152,go_sem,h0,h1,h2];exact Fini.ret rfl
 |true =>
 cases h3:decide (((en:Nat):Int)≤1099511627776) with
 |false =>
  simp -implicitDefEqProofs only[c152,r152,go_sem,h0,h1,h2,h3];exact Fini.ret rfl
 |true =>
 cases h4:decide (0≤sta) with
 |false =>
  simp -implicitDefEqProofs only[c152,r152,go_sem,h0,h1,h2,h3,h4];exact Fini.ret rfl
 |true =>
 cases h5:decide (sta≤3) with
 |false =>
  simp -implicitDefEqProofs only[c152,r152,go_sem,h0,h1,h2,h3,h4,h5];exact Fini.ret rfl
 |true =>
 simp -implicitDefEqProofs only[c152,r152,go_sem,h0,h1,h2,h3,h4,h5];refine CO.intro b1 ?_
 cases h6:listB mt with
 |false =>
  simp -implicitDefEqProofs only[go_sem,];exact Fini.ret rfl
 |true =>
 simp -implicitDefEqProofs only[go_sem];refine CO.intro b3 ?_
 cases h7:ruIs ⟨src,tgt,ra,rl,rh,eq⟩ with
 |false =>
  simp -implicitDefEqProofs only[go_sem,];exact Fini.ret rfl
 |true =>
 simp -implicitDefEqProofs only[go_sem];exact Fini.ret rfl
end
section
variable (σ:St)
set_option maxHeartbeats 4000000 in
theorem zd5 (r:ReM):Ans Tryz.prog 151 [reV r,I 768] σ (Bo (zeroB r 768)) σ:=by
 obtain⟨tok,op,id,txt,st,en,sta,mt,any,lo,hi,⟨src,tgt,ra,rl,rh,eq⟩,ls,val⟩:=r;have b1:=z1r σ (any,lo,hi);have b2:=z1D σ ⟨src,tgt,ra,rl,rh,eq⟩;have b3:=z1j σ val;unfold bandV at b1;unfold ruV at b2;refine Ans.of_run t151 ?_;unfold reV reC zeroB;simp only[zbC,Bool.true_or,Bool.false_or,Bool.true_and];unfold emS;unfold emU;unfold emI
 cases h0:(id==0) with
 |false =>
  simp -implicitDefEqProofs only[c151,r151,go_sem,h0];exact Fini.ret rfl
 |true =>
 cases h1:(txt.toList==(⟨#[]⟩:ByteArray).toList) with
 |false =>
  simp -implicitDefEqProofs only[c151,r151,go_sem,h0,h1];exact Fini.ret rfl
 |true =>
 cases h2:(((st:Nat):Int)==0) with
 |false =>
  simp -implicitDefEqProofs only[c151,r151,go_sem,h0,h1,h2];exact Fini.ret rfl
 |true =>
 cases h3:(((en:Nat):Int)==0) with
 |false =>
  simp -implicitDefEqProofs only[c151,r151,go_sem,h0,h1,h2,h3];exact Fini.ret rfl
 |true =>
 cases h4:(sta==0) with
 |false =>
  simp -implicitDefEqProofs only[c151,r151,go_sem,h0,h1,h2,h3,h4];exact Fini.ret rfl
 |true =>
 cases h5:(((mt.length:Nat):Int)==0) with
 |false =>
  simp -implicitDefEqProofs only[c151,r151,go_sem,h0,h1,h2,h3,h4,h5];exact Fini.ret rfl
 |true =>
 simp -implicitDefEqProofs only[c151,r151,go_sem,h0,h1,h2,h3,h4,h5];refine CO.intro b1 ?_
 cases h6:noBd (any,lo,hi) with
 |false =>
  simp -implicitDefEqProofs only[go_sem];exact Fini.ret rfl
 |true =>
 simp -implicitDefEqProofs only[go_sem];refine CO.intro b2 ?_
 cases h7:noRl ⟨src,tgt,ra,rl,rh,eq⟩ with
 |false =>
  simp -implicitDefEqProofs only[go_sem];exact Fini.ret rfl
 |true =>
 simp -implicitDefEqProofs only[go_sem];exact Fini.ret rfl
set_option maxHeartbeats 4000000 in
theorem zbG (r:ReM):Ans Tryz.prog 152 [reV r,I 768] σ (Bo (z0y r 768)) σ:=by
 obtain⟨tok,op,id,txt,st,en,sta,mt,any,lo,hi,⟨src,tgt,ra,rl,rh,eq⟩,ls,val⟩:=r;have b0:=z3c σ txt;have b1:=z1O σ mt;have b2:=z23 σ any lo hi;have b3:=z29 σ ⟨src,tgt,ra,rl,rh,eq⟩;have b4:=z2a σ ls;unfold ruV at b3;refine Ans.of_run t152 ?_;unfold reV reC z0y idR staR clkB;simp only[zbC,Bool.not_true,Bool.not_false,Bool.true_or,Bool.false_or,Bool.true_and,Bool.and_assoc]
 cases h0:decide (0≤id) with
 |false =>
  simp -implicitDefEqProofs only[c152,r152,go_sem,h0];exact Fini.ret rfl
 |true =>
 cases h1:decide (id≤2147483647) with
 |false =>
  simp -implicitDefEqProofs only[c152,r152,go_sem,h0,h1];exact Fini.ret rfl
 |true =>
 cases h2:decide (((st:Nat):Int)≤1099511627776) with
 |false =>
  simp -implicitDefEqProofs only[c152,r152,go_sem,h0,h1,h2];exact Fini.ret rfl
 |true =>
 cases h3:decide (((en:Nat):Int)≤1099511627776) with
 |false =>
  simp -implicitDefEqProofs only[c152,r152,go_sem,h0,h1,h2,h3];exact Fini.ret rfl
 |true =>
 cases h4:decide (0≤sta) with
 |false =>
  simp -implicitDefEqProofs only[c152,r152,go_sem,h0,h1,h2,h3,h4];exact Fini.ret rfl
 |true =>
 cases h5:decide (sta≤3) with
 |false =>
  simp -implicitDefEqProofs only[c152,r152,go_sem,h0,h1,h2,h3,h4,h5];exact Fini.ret rfl
 |true =>
 simp -implicitDefEqProofs only[c152,r152,go_sem,h0,h1,h2,h3,h4,h5];refine CO.intro b1 ?_
 cases h6:listB mt with
 |false =>
  simp -implicitDefEqProofs only[go_sem,];exact Fini.ret rfl
 |true =>
 simp -implicitDefEqProofs only[go_sem];refine CO.intro b4 ?_
 cases h7:setB ls with
 |false =>
  simp -implicitDefEqProofs only[go_sem,];exact Fini.ret rfl
 |true =>
 simp -implicitDefEqProofs only[go_sem];exact Fini.ret rfl
set_option maxHeartbeats 4000000 in
theorem zeT (r:ReM):Ans Tryz.prog 151 [reV r,I 16] σ (Bo (zeroB r 16)) σ:=by
 obtain⟨tok,op,id,txt,st,en,sta,mt,any,lo,hi,⟨src,tgt,ra,rl,rh,eq⟩,ls,val⟩:=r;have b1:=z1r σ (any,lo,hi);have b2:=z1D σ ⟨src,tgt,ra,rl,rh,eq⟩;have b3:=z1j σ val;unfold bandV at b1;unfold ruV at b2;refine Ans.of_run t151 ?_;unfold reV reC zeroB;simp only[hs_16,Bool.true_or,Bool.false_or,Bool.true_and];unfold emS;unfold emU;unfold emI
 cases h0:(id==0) with
 |false =>
  simp -implicitDefEqProofs only[c151,r151,go_sem,h0];exact Fini.ret rfl
 |true =>
 cases h1:(txt.toList==(⟨#[]⟩:ByteArray).toList) with
 |false =>
  simp -implicitDefEqProofs only[c151,r151,go_sem,h0,h1];exact Fini.ret rfl
 |true =>
 cases h2:(((st:Nat):Int)==0) with
 |false =>
  simp -implicitDefEqProofs only[c151,r151,go_sem,h0,h1,h2];exact Fini.ret rfl
 |true =>
 cases h3:(((en:Nat):Int)==0) with
 |false =>
  simp -implicitDefEqProofs only[c151,r151,go_sem,h0,h1,h2,h3];exact Fini.ret rfl
 |true =>
 cases h4:(sta==0) with
 |false =>
  simp -implicitDefEqProofs only[c151,r151,go_sem,h0,h1,h2,h3,h4];exact Fini.ret rfl
 |true =>
 simp -implicitDefEqProofs only[c151,r151,go_sem,h0,h1,h2,h3,h4];refine CO.intro b1 ?_
 cases h5:noBd (any,lo,hi) with
 |false =>
  simp -implicitDefEqProofs only[go_sem];exact Fini.ret rfl
 |true =>
 simp -implicitDefEqProofs only[go_sem];refine CO.intro b2 ?_
 cases h6:noRl ⟨src,tgt,ra,rl,rh,eq⟩ with
 |false =>
  simp -implicitDefEqProofs only[go_sem];exact Fini.ret rfl
 |true =>
 cases h7:(((ls.length:Nat):Int)==0) with
 |false =>
  simp -implicitDefEqProofs only[go_sem,h7];exact Fini.ret rfl
 |true =>
 simp -implicitDefEqProofs only[go_sem,h7];refine CO.intro b3 ?_
 cases h8:zF val with
 |false =>
  simp -implicitDefEqProofs only[go_sem];exact Fini.ret rfl
 |true =>
 simp -implicitDefEqProofs only[go_sem];exact Fini.ret rfl
set_option maxHeartbeats 4000000 in
theorem zd6 (r:ReM):Ans Tryz.prog 152 [reV r,I 16] σ (Bo (z0y r 16)) σ:=by
 obtain⟨tok,op,id,txt,st,en,sta,mt,any,lo,hi,⟨src,tgt,ra,rl,rh,eq⟩,ls,val⟩:=r;have b0:=z3c σ txt;have b1:=z1O σ mt;have b2:=z23 σ any lo hi;have b3:=z29 σ ⟨src,tgt,ra,rl,rh,eq⟩;have b4:=z2a σ ls;unfold ruV at b3;refine Ans.of_run t152 ?_;unfold reV reC z0y idR staR clkB;simp only[hs_16,Bool.not_true,Bool.not_false,Bool.true_or,Bool.false_or,Bool.true_and,Bool.and_assoc]
 cases h0:decide (0≤id) with
 |false =>
  simp -implicitDefEqProofs only[c152,r152,go_sem,h0];exact Fini.ret rfl
 |true =>
 cases h1:decide (id≤2147483647) with
 |false =>
  simp -implicitDefEqProofs only[c152,r152,go_sem,h0,h1];exact Fini.ret rfl
 |true =>
 cases h2:decide (((st:Nat):Int)≤1099511627776) with
 |false =>
  simp -implicitDefEqProofs only[c152,r152,go_sem,h0,h1,h2];exact Fini.ret rfl
 |true =>
 cases h3:decide (((en:Nat):Int)≤1099511627776) with
 |false =>
  simp -implicitDefEqProofs only[c152,r152,go_sem,h0,h1,h2,h3];exact Fini.ret rfl
 |true =>
 cases h4:decide (0≤sta) with
 |false =>
  simp -implicitDefEqProofs only[c152,r152,go_sem,h0,h1,h2,h3,h4];exact Fini.ret rfl
 |true =>
 cases h5:decide (sta≤3) with
 |false =>
  simp -implicitDefEqProofs only[c152,r152,go_sem,h0,h1,h2,h3,h4,h5];exact Fini.ret rfl
 |true =>
 simp -implicitDefEqProofs only[c152,r152,go_sem,h0,h1,h2,h3,h4,h5];refine CO.intro b1 ?_
 cases h6:listB mt with
 |false =>
  simp -implicitDefEqProofs only[go_sem,];exact Fini.ret rfl
 |true =>
 simp -implicitDefEqProofs only[go_sem];exact Fini.ret rfl
end
section
variable (σ:St)
theorem zbH (r:ReM) (op:Int):Ans Tryz.prog 151 [reV r,I (fOf op).1] σ (Bo (zeroB r (fOf op).1)) σ:=by
 have h:=z8n op;generalize (fOf op).1=f at h;simp only[List.mem_cons,List.not_mem_nil,or_false]at h;rcases h with rfl|rfl|rfl|rfl|rfl|rfl|rfl|rfl|rfl
 · exact zfW σ r
 · exact zfX σ r
 · exact zfY σ r
 · exact zd2 σ r
 · exact zd3 σ r
 · exact zfZ σ r
 · exact zd4 σ r
 · exact zd5 σ r
 · exact zeT σ r
theorem zac (r:ReM) (op:Int):Ans Tryz.prog 152 [reV r,I (fOf op).1] σ (Bo (z0y r (fOf op).1)) σ:=by
 have h:=z8n op;generalize (fOf op).1=f at h;simp only[List.mem_cons,List.not_mem_nil,or_false]at h;rcases h with rfl|rfl|rfl|rfl|rfl|rfl|rfl|rfl|rfl
 · exact zeP σ r
 · exact zeQ σ r
 · exact zeR σ r
 · exact zbD σ r
 · exact zbE σ r
 · exact zeS σ r
 · exact zbF σ r
 · exact zbG σ r
 · exact zd6 σ r
theorem z2l (r:ReM):Ans Tryz.prog 131 [reV r] σ (Bo (mayR r)) σ:=by
 have h1:=z1q σ r.op;have h2:=zbH σ r r.op;have h3:=zac σ r r.op;refine Ans.of_run t131 ?_;unfold mayR;unfold reV reC at *;simp -implicitDefEqProofs only[c131,r131,go_sem];refine CO.intro h1 ?_
 cases(fOf r.op).2 with
 |false =>
  simp -implicitDefEqProofs only[go_sem];exact Fini.ret rfl
 |true =>
  simp -implicitDefEqProofs only[go_sem];refine CO.intro h2 ?_
  cases zeroB r (fOf r.op).1 with
  |false =>
   simp -implicitDefEqProofs only[go_sem];exact Fini.ret rfl
  |true =>
   simp -implicitDefEqProofs only[go_sem];refine CO.intro h3 ?_;simp -implicitDefEqProofs only[go_sem];exact Fini.ret rfl
end
end Go.Proofs.YteakobbdgehlgaaGreatDoor
