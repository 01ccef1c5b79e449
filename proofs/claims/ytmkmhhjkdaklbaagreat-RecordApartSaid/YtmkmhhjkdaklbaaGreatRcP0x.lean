/- What a row's closed facts ask of the program alone: reckoned once. No condition. -/
import Derived.Test.YtmkmhhjkdaklbaaGreatRows
import Derived.Test.YtmkmhhjkdaklbaaGreatAbArgx
import Derived.Test.YtmkmhhjkdaklbaaGreatRcB0x
set_option linter.unusedSimpArgs false
set_option linter.unusedVariables false
set_option linter.unusedSectionVars false
namespace Go.Proofs.YtmkmhhjkdaklbaaGreat
open Go
theorem and_t {a b:Bool} (h1:a=true) (h2:b=true):(a&&b)=true:=by rw[h1,h2];rfl
theorem zdr:laidOutB Tryz.pinned.checked.prog=true:=by kernel_rfl
theorem zau:Tryz.pinned.checked.prog.stopsHeard=true:=by kernel_rfl
theorem zav:Tryz.pinned.checked.prog.mayEnter=true:=by kernel_rfl
theorem zeO:Tryz.pinned.checked.prog.liftsFinal=false:=by kernel_rfl
theorem zfd {a:Bool} (h:a=false):(a==Tryz.pinned.checked.prog.liftsFinal)=true:=by rw[h,zeO];rfl
end Go.Proofs.YtmkmhhjkdaklbaaGreat
namespace Go.Proofs.YtmkmhhjkdaklbaaGreat
open Go Go.Ab Go.Cod
set_option maxRecDepth 100000
theorem z61 (i j:UInt8) (p q:Nat) (hp:p<18446744073709551616) (hq:q<18446744073709551616) (a b:AcM) (ha:ActSz a) (hb:ActSz b) (c d:UInt8) :
  Ans Tryz.prog 9 [bc i,bc j,UN p,UN q,acV a,acV b,bc c,bc d] [] (.pl (.bool true)) []:=by
 have hc8:c.toNat%8<8:=Nat.mod_lt _ (by decide)
 have hd8:d.toNat%8<8:=Nat.mod_lt _ (by decide)
 have hcx:=(z7w hc8).2;have hdx:=(z7w hd8).2;have i1:=z7x (i:=i) (p:=p) ha hc8;have i2:=z7x (i:=j) (p:=q) hb hd8;have l1:=z5Y ((i.toNat:Nat):Int) (p%1099511627777) a (cdOf (c.toNat%8));have l2:=z5Y ((j.toNat:Nat):Int) (q%1099511627777) b (cdOf (d.toNat%8));have u1:=fun s=>z7v s ((i.toNat:Nat):Int) (p%1099511627777) a (cdOf (c.toNat%8))
 have u2:=fun s=>z7v s ((j.toNat:Nat):Int) (q%1099511627777) b (cdOf (d.toNat%8))
 generalize recOf ((i.toNat:Nat):Int) (p%1099511627777) a (cdOf (c.toNat%8))=x at u1 l1 i1;generalize recOf ((j.toNat:Nat):Int) (q%1099511627777) b (cdOf (d.toNat%8))=y at u2 l2 i2;generalize cdOf (c.toNat%8)=cv at u1 hcx;generalize cdOf (d.toNat%8)=dv at u2 hdx;have t8c:=tmod8 c;have t8d:=tmod8 d;have tCp:=tmodC p;have tCq:=tmodC q;have wi:=wrap_u8 i;have wj:=wrap_u8 j;have kc8:(((c.toNat%8:Nat):Int)<((8:Nat):Int))=True:=eq_true (by omega)
 have kd8:(((d.toNat%8:Nat):Int)<((8:Nat):Int))=True:=eq_true (by omega)
 have kc0:((0:Int)≤((c.toNat%8:Nat):Int))=True:=eq_true (Int.natCast_nonneg _);have kd0:((0:Int)≤((d.toNat%8:Nat):Int))=True:=eq_true (Int.natCast_nonneg _);generalize c.toNat%8=ck at t8c hcx kc8 kc0;generalize d.toNat%8=dk at t8d hdx kd8 kd0;generalize p%1099511627777=pk at u1 tCp;generalize q%1099511627777=qk at u2 tCq;have hbx:=z60 l1;have p1:=fun s=>z2w s x (by omega)
 have p2:=fun s=>z2w s y (by omega)
 have s1:=fun s=>z6L s x y
 have hap:=zgh i1 i2 (by omega)
 have te:=zhx (z0G x) (z0G y);rw[hap]at te;have p3:=fun s=>z51 s x (by omega)
 rw[i1]at p3;have e0:=z8s (z3G x y);generalize z3G x y=v at s1 te e0;generalize z0G x=bx at p1 te;generalize z0G y=bY at p2 te;have hbc:∀c:UInt8,bc c=.pl (.int .u8 ((c.toNat:Nat):Int)):=fun _=>rfl
 unfold acV acC at u1 u2⊢;unfold rcV rcC at *;refine Ans.of_run t9 ?_;simp -implicitDefEqProofs only[c9,r9,go_sem,hbc,t8c,tCp,wi,hcx,kc8,kc0,Int.toNat_natCast];refine CD.intro (u1 _) ?_;simp -implicitDefEqProofs only[go_sem,t8d,tCq,wj,hdx,kd8,kd0,Int.toNat_natCast];refine CD.intro (u2 _) ?_;simp -implicitDefEqProofs only[go_sem];refine CD.intro (p1 _) ?_;simp -implicitDefEqProofs only[go_sem,z0o,bc,z1M,z1G,AV.isStr];refine CD.intro (p2 _) ?_;simp -implicitDefEqProofs only[go_sem,z0o,bc,z1M,z1G,AV.isStr,te];refine CD.intro (s1 _) ?_;simp -implicitDefEqProofs only[go_sem,e0];refine CD.intro (p3 _) ?_;simp -implicitDefEqProofs only[go_sem];refine CD.intro (rd_b _) ?_;simp -implicitDefEqProofs only[go_sem];exact Fini.ret rfl
end Go.Proofs.YtmkmhhjkdaklbaaGreat
