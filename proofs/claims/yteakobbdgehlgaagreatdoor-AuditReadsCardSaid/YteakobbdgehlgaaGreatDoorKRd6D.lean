/- A request's fields as the document reads them. Printed by a program. No condition. -/
import Derived.Test.YteakobbdgehlgaaGreatDoorKRd3D
import Derived.Test.YteakobbdgehlgaaGreatDoorKRd4D
set_option linter.unusedSimpArgs false
set_option linter.unusedVariables false
set_option linter.unusedSectionVars false
namespace Go.Proofs.YteakobbdgehlgaaGreatDoor
open Go Go.Ab Go.Cod
set_option maxRecDepth 100000
def dR_0 (op:Int):Rd ReM:=fun t=>some (x0 op,t)
def dR_1 (op:Int):Rd ReM:=fun t=>(numR 1099511627776 t).bind fun p1=>some ({ x0 op with id:=((p1.1:Nat):Int) },p1.2)
def dR_3 (op:Int):Rd ReM:=fun t=>(numR 1099511627776 t).bind fun p1=>(textR 16 p1.2).bind fun p2=>some ({ x0 op with id:=((p1.1:Nat):Int),txt:=p2.1 },p2.2)
def z2i (op:Int):Rd ReM:=fun t=>(numR 1099511627776 t).bind fun p1=>(numR 1099511627776 p1.2).bind fun p2=>(listR p2.2).bind fun p3=>(bandR p3.2).bind fun p4=>some (mk116 op (p1.1,p2.1,p3.1,p4.1),p4.2)
def z2g (op:Int):Rd ReM:=fun t=>(numR 1099511627776 t).bind fun p1=>(numR 1099511627776 p1.2).bind fun p2=>(numR 1099511627776 p2.2).bind fun p3=>(listR p3.2).bind fun p4=>(bandR p4.2).bind fun p5=>some (mk117 op (p1.1,p2.1,p3.1,p4.1,p5.1),p5.2)
def dR_8 (op:Int):Rd ReM:=fun t=>(byteR t).bind fun p1=>some ({ x0 op with sta:=(((p1.1).toNat:Nat):Int) },p1.2)
def z3A (op:Int):Rd ReM:=fun t=>(ruR t).bind fun p1=>some ({ x0 op with ru:=p1.1 },p1.2)
def z3g (op:Int):Rd ReM:=fun t=>(setR t).bind fun p1=>(valR p1.2).bind fun p2=>some ({ x0 op with ls:=p1.1,val:=p2.1 },p2.2)
def dR_16 (op:Int):Rd ReM:=fun t=>(listR t).bind fun p1=>some ({ x0 op with mt:=p1.1 },p1.2)
theorem zga {x:ReM} (h:mayR x=true):x.id≤2147483647:=by
 unfold mayR z0y idR at h;simp only[Bool.and_eq_true,decide_eq_true_eq]at h;exact h.2.2.1.2
theorem zdp {t:Byt}:numR 2147483647 t=(numR 1099511627776 t).bind fun p=>if p.1≤2147483647 then some p else none:=by
 simp only[numR]
 cases getN 0 t with
 |none=>rfl
 |some p =>
  simp only[Option.bind_some];by_cases h:p.1≤2147483647
  · rw[if_pos h,if_pos (by omega)];simp[h]
  · rw[if_neg h];split
    · simp[h]
    · rfl
theorem z6Q (g:Nat→Rd ReM) (hid:∀u b x t,g u b=some (x,t)→x.id=(u:Int)) (t:Byt) :
  onlyR (fun t=>(numR 2147483647 t).bind fun p=>g p.1 p.2) mayR t=onlyR (fun t=>(numR 1099511627776 t).bind fun p=>g p.1 p.2) mayR t:=by
 simp only[onlyR,zdp]
 cases numR 1099511627776 t with
 |none=>rfl
 |some p =>
  simp only[Option.bind_some];by_cases h:p.1≤2147483647
  · rw[if_pos h];rfl
  · rw[if_neg h];simp only[Option.bind_none]
    cases hg:g p.1 p.2 with
    |none=>rfl
    |some y =>
     have:=hid _ _ _ _ hg;simp only[Option.bind_some];rw[if_neg];intro hm;have:=zga hm;omega
theorem clD_0 (op:Int) (t:Byt):onlyR (clR 0 op) mayR t=onlyR (dR_0 op) mayR t:=by
 simp only[onlyR];congr 1
theorem clD_1 (op:Int) (t:Byt):onlyR (clR 1 op) mayR t=onlyR (dR_1 op) mayR t:=by
 refine Eq.trans ?_ (z6Q (fun u b=>some ({ x0 op with id:=((u:Nat):Int) },b)) ?_ t)
 · simp only[onlyR];congr 1
   show(clR 1 op) t=_;simp only[clR,if_true,if_false,z0U,seqR,show((1:Int)=1)=True from by simp,show((1:Int)=3)=False from by simp,show((1:Int)=116)=False from by simp,show((1:Int)=117)=False from by simp]
   cases numR 2147483647 t with
   |none=>rfl
   |some p1 =>
   rfl
 · intro u b x t h;simp only[Option.bind_eq_some_iff,Option.some.injEq,Prod.mk.injEq]at h;obtain⟨rfl,_⟩:=h;rfl
theorem clD_3 (op:Int) (t:Byt):onlyR (clR 3 op) mayR t=onlyR (dR_3 op) mayR t:=by
 refine Eq.trans ?_ (z6Q (fun u b=>(textR 16 b).bind fun p2=>some ({ x0 op with id:=((u:Nat):Int),txt:=p2.1 },p2.2)) ?_ t)
 · simp only[onlyR];congr 1
   show(clR 3 op) t=_;simp only[clR,if_true,if_false,z0U,seqR,show((3:Int)=1)=False from by simp,show((3:Int)=3)=True from by simp,show((3:Int)=116)=False from by simp,show((3:Int)=117)=False from by simp]
   cases numR 2147483647 t with
   |none=>rfl
   |some p1 =>
   simp only[Option.bind_some,Option.map_some]
   cases textR 16 p1.2 with
   |none=>rfl
   |some p2 =>
   simp only[Option.bind_some,Option.map_some]
 · intro u b x t h;simp only[Option.bind_eq_some_iff,Option.some.injEq,Prod.mk.injEq]at h;obtain⟨_,_,⟨rfl,_⟩⟩:=h;rfl
theorem zeY (op:Int) (t:Byt):onlyR (clR 116 op) mayR t=onlyR (z2i op) mayR t:=by
 simp only[onlyR];congr 1
 simp only[clR,z2i,if_true,if_false,z0U,seqR,show((116:Int)=1)=False from by simp,show((116:Int)=3)=False from by simp,show((116:Int)=116)=True from by simp,show((116:Int)=117)=False from by simp,show((116:Int)=8)=False from by simp,show((116:Int)=128)=False from by simp,show((116:Int)=768)=False from by simp,show((116:Int)=16)=False from by simp]
 cases numR 1099511627776 t with
 |none=>rfl
 |some p1 =>
 simp only[Option.bind_some,Option.map_some]
 cases numR 1099511627776 p1.2 with
 |none=>rfl
 |some p2 =>
 simp only[Option.bind_some,Option.map_some]
 cases listR p2.2 with
 |none=>rfl
 |some p3 =>
 simp only[Option.bind_some,Option.map_some]
 cases bandR p3.2 with
 |none=>rfl
 |some p4 =>
 rfl
theorem zeZ (op:Int) (t:Byt):onlyR (clR 117 op) mayR t=onlyR (z2g op) mayR t:=by
 refine Eq.trans ?_ (z6Q (fun u b=>(numR 1099511627776 b).bind fun p2=>(numR 1099511627776 p2.2).bind fun p3=>(listR p3.2).bind fun p4=>(bandR p4.2).bind fun p5=>some (mk117 op (u,p2.1,p3.1,p4.1,p5.1),p5.2)) ?_ t)
 · simp only[onlyR];congr 1
   show(clR 117 op) t=_;simp only[clR,if_true,if_false,z0U,seqR,show((117:Int)=1)=False from by simp,show((117:Int)=3)=False from by simp,show((117:Int)=116)=False from by simp,show((117:Int)=117)=True from by simp]
   cases numR 2147483647 t with
   |none=>rfl
   |some p1 =>
   simp only[Option.bind_some,Option.map_some]
   cases numR 1099511627776 p1.2 with
   |none=>rfl
   |some p2 =>
   simp only[Option.bind_some,Option.map_some]
   cases numR 1099511627776 p2.2 with
   |none=>rfl
   |some p3 =>
   simp only[Option.bind_some,Option.map_some]
   cases listR p3.2 with
   |none=>rfl
   |some p4 =>
   simp only[Option.bind_some,Option.map_some]
   cases bandR p4.2 with
   |none=>rfl
   |some p5 =>
   simp only[Option.bind_some,Option.map_some]
 · intro u b x t h;simp only[Option.bind_eq_some_iff,Option.some.injEq,Prod.mk.injEq]at h;obtain⟨_,_,⟨_,_,⟨_,_,⟨_,_,⟨rfl,_⟩⟩⟩⟩⟩:=h;rfl
theorem clD_8 (op:Int) (t:Byt):onlyR (clR 8 op) mayR t=onlyR (dR_8 op) mayR t:=by
 simp only[onlyR];congr 1
 simp only[clR,dR_8,if_true,if_false,z0U,seqR,show((8:Int)=1)=False from by simp,show((8:Int)=3)=False from by simp,show((8:Int)=116)=False from by simp,show((8:Int)=117)=False from by simp,show((8:Int)=8)=True from by simp,show((8:Int)=128)=False from by simp,show((8:Int)=768)=False from by simp,show((8:Int)=16)=False from by simp]
 cases byteR t with
 |none=>rfl
 |some p1 =>
 rfl
theorem zf0 (op:Int) (t:Byt):onlyR (clR 128 op) mayR t=onlyR (z3A op) mayR t:=by
 simp only[onlyR];congr 1
 simp only[clR,z3A,if_true,if_false,z0U,seqR,show((128:Int)=1)=False from by simp,show((128:Int)=3)=False from by simp,show((128:Int)=116)=False from by simp,show((128:Int)=117)=False from by simp,show((128:Int)=8)=False from by simp,show((128:Int)=128)=True from by simp,show((128:Int)=768)=False from by simp,show((128:Int)=16)=False from by simp]
 cases ruR t with
 |none=>rfl
 |some p1 =>
 rfl
theorem zf1 (op:Int) (t:Byt):onlyR (clR 768 op) mayR t=onlyR (z3g op) mayR t:=by
 simp only[onlyR];congr 1
 simp only[clR,z3g,if_true,if_false,z0U,seqR,show((768:Int)=1)=False from by simp,show((768:Int)=3)=False from by simp,show((768:Int)=116)=False from by simp,show((768:Int)=117)=False from by simp,show((768:Int)=8)=False from by simp,show((768:Int)=128)=False from by simp,show((768:Int)=768)=True from by simp,show((768:Int)=16)=False from by simp]
 cases setR t with
 |none=>rfl
 |some p1 =>
 simp only[Option.bind_some,Option.map_some]
 cases valR p1.2 with
 |none=>rfl
 |some p2 =>
 rfl
theorem zgb (op:Int) (t:Byt):onlyR (clR 16 op) mayR t=onlyR (dR_16 op) mayR t:=by
 simp only[onlyR];congr 1
 simp only[clR,dR_16,if_true,if_false,z0U,seqR,show((16:Int)=1)=False from by simp,show((16:Int)=3)=False from by simp,show((16:Int)=116)=False from by simp,show((16:Int)=117)=False from by simp,show((16:Int)=8)=False from by simp,show((16:Int)=128)=False from by simp,show((16:Int)=768)=False from by simp,show((16:Int)=16)=True from by simp]
 cases listR t with
 |none=>rfl
 |some p1 =>
 rfl
theorem sz_0:((S0.size:Nat):Int)=1:=rfl
theorem ds_0:(S0.toList==(⟨#[45]⟩:ByteArray).toList)=true:=by decide +kernel
theorem sz_1:((S1.size:Nat):Int)=1:=rfl
theorem ds_1:(S1.toList==(⟨#[45]⟩:ByteArray).toList)=false:=by decide +kernel
theorem zgc:byteAt S1 0=73:=by decide +kernel
theorem sz_3:((S3.size:Nat):Int)=2:=rfl
theorem ds_3:(S3.toList==(⟨#[45]⟩:ByteArray).toList)=false:=by decide +kernel
theorem zgd:byteAt S3 0=73:=by decide +kernel
theorem zge:byteAt S3 1=84:=by decide +kernel
theorem zgf:((S116.size:Nat):Int)=4:=rfl
theorem zgg:(S116.toList==(⟨#[45]⟩:ByteArray).toList)=false:=by decide +kernel
theorem zdq:byteAt S116 0=83:=by decide +kernel
theorem zdr:byteAt S116 1=69:=by decide +kernel
theorem zds:byteAt S116 2=77:=by decide +kernel
theorem zdt:byteAt S116 3=66:=by decide +kernel
theorem zgh:((S117.size:Nat):Int)=5:=rfl
theorem zgi:(S117.toList==(⟨#[45]⟩:ByteArray).toList)=false:=by decide +kernel
theorem zdu:byteAt S117 0=73:=by decide +kernel
theorem zdv:byteAt S117 1=83:=by decide +kernel
theorem zdw:byteAt S117 2=69:=by decide +kernel
theorem zdx:byteAt S117 3=77:=by decide +kernel
theorem zdy:byteAt S117 4=66:=by decide +kernel
theorem sz_8:((S8.size:Nat):Int)=1:=rfl
theorem ds_8:(S8.toList==(⟨#[45]⟩:ByteArray).toList)=false:=by decide +kernel
theorem zgj:byteAt S8 0=90:=by decide +kernel
theorem zgk:((S128.size:Nat):Int)=1:=rfl
theorem zgl:(S128.toList==(⟨#[45]⟩:ByteArray).toList)=false:=by decide +kernel
theorem zdz:byteAt S128 0=82:=by decide +kernel
theorem zgm:((S768.size:Nat):Int)=2:=rfl
theorem zgn:(S768.toList==(⟨#[45]⟩:ByteArray).toList)=false:=by decide +kernel
theorem zdA:byteAt S768 0=76:=by decide +kernel
theorem zdB:byteAt S768 1=86:=by decide +kernel
theorem sz_16:((S16.size:Nat):Int)=1:=rfl
theorem ds_16:(S16.toList==(⟨#[45]⟩:ByteArray).toList)=false:=by decide +kernel
theorem zf2:byteAt S16 0=77:=by decide +kernel
theorem wk0:IntKind.i64.wrap 0=0:=rfl
theorem zk0:Int.toNat 0=0:=rfl
theorem wk1:IntKind.i64.wrap 1=1:=rfl
theorem zk1:Int.toNat 1=1:=rfl
theorem wk2:IntKind.i64.wrap 2=2:=rfl
theorem zk2:Int.toNat 2=2:=rfl
theorem wk3:IntKind.i64.wrap 3=3:=rfl
theorem zk3:Int.toNat 3=3:=rfl
theorem wk4:IntKind.i64.wrap 4=4:=rfl
theorem zk4:Int.toNat 4=4:=rfl
theorem wk5:IntKind.i64.wrap 5=5:=rfl
theorem zk5:Int.toNat 5=5:=rfl
theorem z0g:Sub (.tup [noReV,Bo false]) (z0Y none):=.tup (.cons z9j (.refl _))
theorem z0e (n:Nat):Bel n (.tup [noReV,Bo false]):=z1k (z5C _)
theorem z3o:RSm noRu:=⟨(by intro x h;cases h),(by intro x h;cases h),(by intro x h;cases h)⟩
theorem ru_sm {r:RuM} (h:ruIs r=true):RSm r:=⟨z1Q (z3a h).1,z1Q (z3a h).2.1,fun s hs=>by have:=(z3a h).2.2.2.2 s hs;omega⟩
theorem ls_sm {L:List Lab} (h:setB L=true):∀x∈L,x.1.size≤100000:=fun x hx=>by have:=(zbx h).2 x hx;omega
theorem zbV {b:Byt} (h:byteR b=none):b=[]:=by cases b with
 |nil=>rfl
 |cons c t=>cases h
theorem zao {b:Byt} {c:UInt8} {t:Byt} (h:byteR b=some (c,t)):b=c::t:=by cases b with
 |nil=>cases h
 |cons d u=>simp only[byteR,Option.some.injEq,Prod.mk.injEq]at h;rw[h.1,h.2]
theorem z1A {α:Type} {rd:Rd α} (h:EndsR rd) {b:Byt} {x:α} {t:Byt} (hr:rd b=some (x,t)):t.length≤b.length:=by
 obtain⟨w,hw⟩:=h _ _ _ hr;rw[hw,List.length_append];omega
theorem z2p (b:Byt) (c:UInt8) (t0:Byt) (hbt:b=c::t0):b.length=t0.length+1∧(((b.length:Nat):Int)==0)=false∧((0:Int)<(b.length:Nat))=True∧(byv b)[0]?=some (bc c) ∧
  IntKind.i64.wrap (c.toNat:Int)=(c.toNat:Int)∧b.drop 1=t0∧((1:Int)≤(b.length:Nat))=True:=by
 have hbl:b.length=t0.length+1:=by rw[hbt];rfl
 exact⟨hbl,neI (by omega),eq_true (by omega),by rw[hbt];rfl,wrapI (by have:=c.toNat_lt;omega),by rw[hbt];rfl,eq_true (by omega)⟩
theorem zf3 {b:Byt} {u:Nat} {t:Byt} (h:valR b=some (u,t)):b.length=t.length+8:=by
 have:=(val_fits.bwd _ _ _ h).2;rw[this,List.length_append];show 8+t.length=t.length+8;omega
attribute [go_sem] wk0 wk1 wk2 wk3 wk4 wk5 zk0 zk1 zk2 zk3 zk4 zk5 z02 z0q z0r z09 g0 g1 s0 s1 Int.le_refl sz_0 ds_0 sz_1 ds_1 sz_3 ds_3 zgf zgg zgh zgi sz_8 ds_8 zgk zgl zgm zgn sz_16 ds_16
section
variable (σ:St)
def wk0_ (c:UInt8) (o:Option ReM):AV:=match o with
 |some x=>.tup [.agg (XC0 c),Bo true]
 |none=>.tup [noReV,Bo false]
theorem zf4 (c:UInt8) (t0:Byt):Sub (wk0_ c (wholeO (onlyR (dR_0 (c.toNat:Int)) mayR t0))) (z0Y (wholeO (onlyR (dR_0 (c.toNat:Int)) mayR t0))):=by
 simp only[onlyR,dR_0];simp only[Option.bind_some];split
 · cases t0 with
   |nil=>exact .tup (.cons (.agg (.cons (.refl _) <| .cons (.refl _) <| .cons (.refl _) <| .cons (.refl _) <| .cons (.refl _) <| .cons (.refl _) <| .cons (.refl _) <| .cons (.nils 3) <| .cons (.refl _) <| .cons (.refl _) <| .cons (.refl _) <| .cons (.nils 3) <| .cons (.nils 3) <| .cons (.refl _) <| .cons (.refl _) <| .cons (.refl _) <| .cons (.nils 1) <| .cons (.nils 2) <| .cons (.refl _) <| .nil)) (.refl _))
   |cons _ _=>exact z0g
 · exact z0g
set_option maxHeartbeats 16000000 in
theorem z6R (b:Byt) (hb:b.length≤50000) (c:UInt8) (t0:Byt) (hbt:b=c::t0) (hd:dOf (c.toNat:Int)=S0) :
  Ans Tryz.prog 91 [.sl 1 (byv b)] σ (z0Y (wholeO (onlyR (dR_0 (c.toNat:Int)) mayR t0))) σ:=by
 obtain⟨hbl,dn,hpos,hx,wc,dr0,le0⟩:=z2p b c t0 hbt;have kf:=z0l (σ++[B19,.box (XC0 c)]) (c.toNat:Int);rw[hd]at kf;refine Ans.subR ?_ (zf4 c t0);refine Ans.of_run' t91 (fun hbel _=>?_)
 simp -implicitDefEqProofs only[c91,r91,go_sem,dn,hpos,hx,bc,wc,List.append_assoc,List.length_append];refine CO.intro kf ?_;simp -implicitDefEqProofs only[go_sem];refine L.step fun J hJ=>?_
 have hcl:onlyR (dR_0 (c.toNat:Int)) mayR t0=if mayR (x0 (c.toNat:Int)) then some (x0 (c.toNat:Int),t0) else none:=by simp only[onlyR,dR_0,Option.bind_some]
 rw[hcl];have hsub:Sub (.agg (XC0 c)) (reV (x0 (c.toNat:Int))):=.agg (.cons (.refl _) <| .cons (.refl _) <| .cons (.refl _) <| .cons (.refl _) <| .cons (.refl _) <| .cons (.refl _) <| .cons (.refl _) <| .cons (.nils 3) <| .cons (.refl _) <| .cons (.refl _) <| .cons (.refl _) <| .cons (.nils 3) <| .cons (.nils 3) <| .cons (.refl _) <| .cons (.refl _) <| .cons (.refl _) <| .cons (.nils 1) <| .cons (.nils 2) <| .cons (.refl _) <| .nil);have hsm:ReSm (x0 (c.toNat:Int)):=⟨(by intro x h;cases h),z3o,(by intro x h;cases h)⟩
 have km:=(z1F (σ++[B19,.box (XC0 c)]) (x0 (c.toNat:Int)) hsm).subA (.cons hsub .nil);by_cases ht:t0=[]
 · have hk0:t0.length=0:=by rw[ht];rfl
   have de:((1:Int) != ((b.length:Nat):Int))=false:=by
    rw[bne,show(1:Int)=((b.length:Nat):Int) from by omega]
    simp
   have hbl2:Bel σ.length (.agg (XC0 c)):=.agg _ (fun i hi=>by
     have:∀y∈(XC0 c:List AV),Bel σ.length y:=by
      intro y hy;simp only[List.mem_cons,List.not_mem_nil,or_false]at hy;rcases hy with rfl|rfl|rfl|rfl|rfl|rfl|rfl|rfl|rfl|rfl|rfl|rfl|rfl|rfl|rfl|rfl|rfl|rfl|rfl
      all_goals first|exact .pl _|exact .nils|exact z0x _ _|exact z1h _ _|exact z0z _ _
     exact this _ (List.getElem_mem hi))
   simp -implicitDefEqProofs only[go_sem,List.take_length,de];refine CO.intro km ?_
   cases hm:mayR (x0 (c.toNat:Int)) with
   |false =>
    simp -implicitDefEqProofs only[go_sem];exact Fini.trim2 (σ':=σ) (ex:=[_,_]) (by simp -implicitDefEqProofs only[go_sem,resA,z01,rvA,oneOf]<;>rfl) rfl (Nat.le_refl _) (z0e _) hbel
   |true =>
    have hW:wholeO (if true=true then some (x0 (c.toNat:Int),t0) else none)=some (x0 (c.toNat:Int)):=by rw[ht];rfl
    rw[hW];simp -implicitDefEqProofs only[go_sem];exact Fini.trim2 (σ':=σ) (ex:=[_,_]) (by simp -implicitDefEqProofs only[go_sem,resA,z01,rvA,oneOf]<;>rfl) rfl (Nat.le_refl _) (z1k hbl2) hbel
 · have hkp:0<t0.length:=by cases t0 with
    |nil=>exact absurd rfl ht
    |cons _ _=>simp
   have de:((1:Int) != ((b.length:Nat):Int))=true:=by
    rw[bne,neI (show(1:Int)≠((b.length:Nat):Int) by omega)];rfl
   have hW:wholeO (if mayR (x0 (c.toNat:Int))=true then some (x0 (c.toNat:Int),t0) else none)=none:=by
    split
    · cases ht2:t0 with
      |nil=>exact absurd ht2 ht
      |cons _ _=>rfl
    · rfl
   rw[hW];simp -implicitDefEqProofs only[go_sem,List.take_length,de];exact Fini.trim2 (σ':=σ) (ex:=[_,_]) (by simp -implicitDefEqProofs only[go_sem,resA,z01,rvA,oneOf]<;>rfl) rfl (Nat.le_refl _) (z0e _) hbel
def wk1_ (c:UInt8) (o:Option ReM):AV:=match o with
 |some x=>.tup [.agg (XC1 c (I x.id)),Bo true]
 |none=>.tup [noReV,Bo false]
theorem zf5 (c:UInt8) (t0:Byt):Sub (wk1_ c (wholeO (onlyR (dR_1 (c.toNat:Int)) mayR t0))) (z0Y (wholeO (onlyR (dR_1 (c.toNat:Int)) mayR t0))):=by
 simp only[onlyR,dR_1]
 cases numR 1099511627776 t0 with
 |none=>exact z0g
 |some p =>
 obtain⟨v0,t1⟩:=p;simp only[Option.bind_some];split
 · cases t1 with
   |nil=>exact .tup (.cons (.agg (.cons (.refl _) <| .cons (.refl _) <| .cons (.refl _) <| .cons (.refl _) <| .cons (.refl _) <| .cons (.refl _) <| .cons (.refl _) <| .cons (.nils 3) <| .cons (.refl _) <| .cons (.refl _) <| .cons (.refl _) <| .cons (.nils 3) <| .cons (.nils 3) <| .cons (.refl _) <| .cons (.refl _) <| .cons (.refl _) <| .cons (.nils 1) <| .cons (.nils 2) <| .cons (.refl _) <| .nil)) (.refl _))
   |cons _ _=>exact z0g
 · exact z0g
set_option maxHeartbeats 16000000 in
theorem z5E (b:Byt) (hb:b.length≤50000) (c:UInt8) (t0:Byt) (hbt:b=c::t0) (hd:dOf (c.toNat:Int)=S1) :
  Ans Tryz.prog 91 [.sl 1 (byv b)] σ (z0Y (wholeO (onlyR (dR_1 (c.toNat:Int)) mayR t0))) σ:=by
 obtain⟨hbl,dn,hpos,hx,wc,dr0,le0⟩:=z2p b c t0 hbt;have kf:=z0l (σ++[B19,.box (XC1 c (I 0))]) (c.toNat:Int);rw[hd]at kf;refine Ans.subR ?_ (zf5 c t0);refine Ans.of_run' t91 (fun hbel _=>?_)
 simp -implicitDefEqProofs only[c91,r91,go_sem,dn,hpos,hx,bc,wc,List.append_assoc,List.length_append];refine CO.intro kf ?_;simp -implicitDefEqProofs only[go_sem];refine L.step fun J hJ=>?_
 simp -implicitDefEqProofs only[go_sem,z06,List.take_length,zgc,le0,dr0]
 cases h0:numR 1099511627776 t0 with
 |none =>
  have hW:wholeO (onlyR (dR_1 (c.toNat:Int)) mayR t0)=none:=by simp only[onlyR,dR_1,h0,Option.bind_some,Option.bind_none];rfl
  rw[hW];refine CD.intro (z6M (σ++[B19,.box (XC1 c (I 0))]) (σ.length+1) t0 (by omega) _ _ _ _ _ _ _ _ _ _ _ _ _ _ _ _ _ _ (g1 _ _ _ _) h0) ?_
  simp -implicitDefEqProofs only[go_sem,z06,List.take_length];exact Fini.trim2 (σ':=σ) (ex:=[_,_]) (by simp -implicitDefEqProofs only[go_sem,resA,z01,rvA,oneOf]<;>rfl) rfl (Nat.le_refl _) (z0e _) hbel
 |some x0 =>
 obtain⟨v0,t1⟩:=x0;obtain⟨dr1,lo0,hi0⟩:=(ends_num _).drop (b:=b) (a:=1) (by omega) (by rw[dr0];exact h0)
 have hlt0:=z1A (ends_num _) h0;have ad0:IntKind.i64.wrap ((1:Int)+((t0.length-t1.length:Nat):Int))=((b.length-t1.length:Nat):Int):=by rw[wrapN (by omega) (by omega)];omega
 have le1:(((b.length-t1.length:Nat):Int)≤(b.length:Nat))=True:=eq_true (by omega)
 have k0:=z6N (σ++[B19,.box (XC1 c (I 0))]) (σ.length+1) t0 (by omega) _ _ _ _ _ _ _ _ _ _ _ _ _ _ _ _ _ _ _ (g1 _ _ _ _) v0 t1 h0
 rw[s1]at k0;refine CD.intro k0 ?_;simp -implicitDefEqProofs only[go_sem,z06,ad0,List.take_length];refine hJ _ _ ?_;clear hJ k0;refine L.step fun J hJ=>?_
 have hcl:onlyR (dR_1 (c.toNat:Int)) mayR t0=if mayR ({ x0 (c.toNat:Int) with id:=((v0:Nat):Int) }) then some ({ x0 (c.toNat:Int) with id:=((v0:Nat):Int) },t1) else none:=by simp only[onlyR,dR_1,h0,Option.bind_some]
 rw[hcl];have hsub:Sub (.agg (XC1 c (I (v0:Nat)))) (reV ({ x0 (c.toNat:Int) with id:=((v0:Nat):Int) })):=.agg (.cons (.refl _) <| .cons (.refl _) <| .cons (.refl _) <| .cons (.refl _) <| .cons (.refl _) <| .cons (.refl _) <| .cons (.refl _) <| .cons (.nils 3) <| .cons (.refl _) <| .cons (.refl _) <| .cons (.refl _) <| .cons (.nils 3) <| .cons (.nils 3) <| .cons (.refl _) <| .cons (.refl _) <| .cons (.refl _) <| .cons (.nils 1) <| .cons (.nils 2) <| .cons (.refl _) <| .nil)
 have hsm:ReSm ({ x0 (c.toNat:Int) with id:=((v0:Nat):Int) }):=⟨(by intro x h;cases h),z3o,(by intro x h;cases h)⟩
 have km:=(z1F (σ++[B19,.box (XC1 c (I (v0:Nat)))]) ({ x0 (c.toNat:Int) with id:=((v0:Nat):Int) }) hsm).subA (.cons hsub .nil)
 by_cases ht:t1=[]
 · have hk0:t1.length=0:=by rw[ht];rfl
   have de:(((b.length-t1.length:Nat):Int) != ((b.length:Nat):Int))=false:=by
    rw[bne,show((b.length-t1.length:Nat):Int)=((b.length:Nat):Int) from by omega]
    simp
   have hbl2:Bel σ.length (.agg (XC1 c (I (v0:Nat)))):=.agg _ (fun i hi=>by
     have:∀y∈(XC1 c (I (v0:Nat)):List AV),Bel σ.length y:=by
      intro y hy;simp only[List.mem_cons,List.not_mem_nil,or_false]at hy;rcases hy with rfl|rfl|rfl|rfl|rfl|rfl|rfl|rfl|rfl|rfl|rfl|rfl|rfl|rfl|rfl|rfl|rfl|rfl|rfl
      all_goals first|exact .pl _|exact .nils|exact z0x _ _|exact z1h _ _|exact z0z _ _
     exact this _ (List.getElem_mem hi))
   simp -implicitDefEqProofs only[go_sem,List.take_length,de];refine CO.intro km ?_
   cases hm:mayR ({ x0 (c.toNat:Int) with id:=((v0:Nat):Int) }) with
   |false =>
    simp -implicitDefEqProofs only[go_sem];exact Fini.trim2 (σ':=σ) (ex:=[_,_]) (by simp -implicitDefEqProofs only[go_sem,resA,z01,rvA,oneOf]<;>rfl) rfl (Nat.le_refl _) (z0e _) hbel
   |true =>
    have hW:wholeO (if true=true then some ({ x0 (c.toNat:Int) with id:=((v0:Nat):Int) },t1) else none)=some ({ x0 (c.toNat:Int) with id:=((v0:Nat):Int) }):=by rw[ht];rfl
    rw[hW];simp -implicitDefEqProofs only[go_sem];exact Fini.trim2 (σ':=σ) (ex:=[_,_]) (by simp -implicitDefEqProofs only[go_sem,resA,z01,rvA,oneOf]<;>rfl) rfl (Nat.le_refl _) (z1k hbl2) hbel
 · have hkp:0<t1.length:=by cases t1 with
    |nil=>exact absurd rfl ht
    |cons _ _=>simp
   have de:(((b.length-t1.length:Nat):Int) != ((b.length:Nat):Int))=true:=by
    rw[bne,neI (show((b.length-t1.length:Nat):Int)≠((b.length:Nat):Int) by omega)];rfl
   have hW:wholeO (if mayR ({ x0 (c.toNat:Int) with id:=((v0:Nat):Int) })=true then some ({ x0 (c.toNat:Int) with id:=((v0:Nat):Int) },t1) else none)=none:=by
    split
    · cases ht2:t1 with
      |nil=>exact absurd ht2 ht
      |cons _ _=>rfl
    · rfl
   rw[hW];simp -implicitDefEqProofs only[go_sem,List.take_length,de];exact Fini.trim2 (σ':=σ) (ex:=[_,_]) (by simp -implicitDefEqProofs only[go_sem,resA,z01,rvA,oneOf]<;>rfl) rfl (Nat.le_refl _) (z0e _) hbel
def wk3_ (c:UInt8) (o:Option ReM):AV:=match o with
 |some x=>.tup [.agg (XC3 c (I x.id) (Sx x.txt)),Bo true]
 |none=>.tup [noReV,Bo false]
theorem zf6 (c:UInt8) (t0:Byt):Sub (wk3_ c (wholeO (onlyR (dR_3 (c.toNat:Int)) mayR t0))) (z0Y (wholeO (onlyR (dR_3 (c.toNat:Int)) mayR t0))):=by
 simp only[onlyR,dR_3]
 cases numR 1099511627776 t0 with
 |none=>exact z0g
 |some p =>
 obtain⟨v0,t1⟩:=p;simp only[Option.bind_some]
 cases textR 16 t1 with
 |none=>exact z0g
 |some p =>
 obtain⟨v1,t2⟩:=p;simp only[Option.bind_some];split
 · cases t2 with
   |nil=>exact .tup (.cons (.agg (.cons (.refl _) <| .cons (.refl _) <| .cons (.refl _) <| .cons (.refl _) <| .cons (.refl _) <| .cons (.refl _) <| .cons (.refl _) <| .cons (.nils 3) <| .cons (.refl _) <| .cons (.refl _) <| .cons (.refl _) <| .cons (.nils 3) <| .cons (.nils 3) <| .cons (.refl _) <| .cons (.refl _) <| .cons (.refl _) <| .cons (.nils 1) <| .cons (.nils 2) <| .cons (.refl _) <| .nil)) (.refl _))
   |cons _ _=>exact z0g
 · exact z0g
set_option maxHeartbeats 16000000 in
theorem zbW (b:Byt) (hb:b.length≤50000) (c:UInt8) (t0:Byt) (hbt:b=c::t0) (hd:dOf (c.toNat:Int)=S3) :
  Ans Tryz.prog 91 [.sl 1 (byv b)] σ (z0Y (wholeO (onlyR (dR_3 (c.toNat:Int)) mayR t0))) σ:=by
 obtain⟨hbl,dn,hpos,hx,wc,dr0,le0⟩:=z2p b c t0 hbt;have kf:=z0l (σ++[B19,.box (XC3 c (I 0) (Sx ⟨#[]⟩))]) (c.toNat:Int);rw[hd]at kf;refine Ans.subR ?_ (zf6 c t0);refine Ans.of_run' t91 (fun hbel _=>?_)
 simp -implicitDefEqProofs only[c91,r91,go_sem,dn,hpos,hx,bc,wc,List.append_assoc,List.length_append];refine CO.intro kf ?_;simp -implicitDefEqProofs only[go_sem];refine L.step fun J hJ=>?_
 simp -implicitDefEqProofs only[go_sem,z06,List.take_length,zgd,le0,dr0]
 cases h0:numR 1099511627776 t0 with
 |none =>
  have hW:wholeO (onlyR (dR_3 (c.toNat:Int)) mayR t0)=none:=by simp only[onlyR,dR_3,h0,Option.bind_some,Option.bind_none];rfl
  rw[hW];refine CD.intro (z6M (σ++[B19,.box (XC3 c (I 0) (Sx ⟨#[]⟩))]) (σ.length+1) t0 (by omega) _ _ _ _ _ _ _ _ _ _ _ _ _ _ _ _ _ _ (g1 _ _ _ _) h0) ?_
  simp -implicitDefEqProofs only[go_sem,z06,List.take_length];exact Fini.trim2 (σ':=σ) (ex:=[_,_]) (by simp -implicitDefEqProofs only[go_sem,resA,z01,rvA,oneOf]<;>rfl) rfl (Nat.le_refl _) (z0e _) hbel
 |some x0 =>
 obtain⟨v0,t1⟩:=x0;obtain⟨dr1,lo0,hi0⟩:=(ends_num _).drop (b:=b) (a:=1) (by omega) (by rw[dr0];exact h0)
 have hlt0:=z1A (ends_num _) h0;have ad0:IntKind.i64.wrap ((1:Int)+((t0.length-t1.length:Nat):Int))=((b.length-t1.length:Nat):Int):=by rw[wrapN (by omega) (by omega)];omega
 have le1:(((b.length-t1.length:Nat):Int)≤(b.length:Nat))=True:=eq_true (by omega)
 have k0:=z6N (σ++[B19,.box (XC3 c (I 0) (Sx ⟨#[]⟩))]) (σ.length+1) t0 (by omega) _ _ _ _ _ _ _ _ _ _ _ _ _ _ _ _ _ _ _ (g1 _ _ _ _) v0 t1 h0
 rw[s1]at k0;refine CD.intro k0 ?_;simp -implicitDefEqProofs only[go_sem,z06,ad0,List.take_length];refine hJ _ _ ?_;clear hJ k0;refine L.step fun J hJ=>?_
 simp -implicitDefEqProofs only[go_sem,z06,List.take_length,zge,le1,dr1]
 cases h1:textR 16 t1 with
 |none =>
  have hW:wholeO (onlyR (dR_3 (c.toNat:Int)) mayR t0)=none:=by simp only[onlyR,dR_3,h0,h1,Option.bind_some,Option.bind_none];rfl
  rw[hW];refine CD.intro (zdf (σ++[B19,.box (XC3 c (I (v0:Nat)) (Sx ⟨#[]⟩))]) (σ.length+1) t1 (by omega) _ _ _ _ _ _ _ _ _ _ _ _ _ _ _ _ _ _ (g1 _ _ _ _) h1) ?_
  simp -implicitDefEqProofs only[go_sem,z06,List.take_length];exact Fini.trim2 (σ':=σ) (ex:=[_,_]) (by simp -implicitDefEqProofs only[go_sem,resA,z01,rvA,oneOf]<;>rfl) rfl (Nat.le_refl _) (z0e _) hbel
 |some x1 =>
 obtain⟨v1,t2⟩:=x1;obtain⟨dr2,lo1,hi1⟩:=(z0I _).drop (b:=b) (a:=(b.length-t1.length)) (by omega) (by rw[dr1];exact h1)
 have hlt1:=z1A (z0I _) h1;have ad1:IntKind.i64.wrap (((b.length-t1.length:Nat):Int)+((t1.length-t2.length:Nat):Int))=((b.length-t2.length:Nat):Int):=by rw[wrapN (by omega) (by omega)];omega
 have le2:(((b.length-t2.length:Nat):Int)≤(b.length:Nat))=True:=eq_true (by omega)
 have k1:=zdg (σ++[B19,.box (XC3 c (I (v0:Nat)) (Sx ⟨#[]⟩))]) (σ.length+1) t1 (by omega) _ _ _ _ _ _ _ _ _ _ _ _ _ _ _ _ _ _ _ (g1 _ _ _ _) v1 t2 h1
 rw[s1]at k1;refine CD.intro k1 ?_;simp -implicitDefEqProofs only[go_sem,z06,ad1,List.take_length];refine hJ _ _ ?_;clear hJ k1;refine L.step fun J hJ=>?_
 have hcl:onlyR (dR_3 (c.toNat:Int)) mayR t0=if mayR ({ x0 (c.toNat:Int) with id:=((v0:Nat):Int),txt:=v1 }) then some ({ x0 (c.toNat:Int) with id:=((v0:Nat):Int),txt:=v1 },t2) else none:=by simp only[onlyR,dR_3,h0,h1,Option.bind_some]
 rw[hcl];have hsub:Sub (.agg (XC3 c (I (v0:Nat)) (Sx v1))) (reV ({ x0 (c.toNat:Int) with id:=((v0:Nat):Int),txt:=v1 })):=.agg (.cons (.refl _) <| .cons (.refl _) <| .cons (.refl _) <| .cons (.refl _) <| .cons (.refl _) <| .cons (.refl _) <| .cons (.refl _) <| .cons (.nils 3) <| .cons (.refl _) <| .cons (.refl _) <| .cons (.refl _) <| .cons (.nils 3) <| .cons (.nils 3) <| .cons (.refl _) <| .cons (.refl _) <| .cons (.refl _) <| .cons (.nils 1) <| .cons (.nils 2) <| .cons (.refl _) <| .nil)
 have hsm:ReSm ({ x0 (c.toNat:Int) with id:=((v0:Nat):Int),txt:=v1 }):=⟨(by intro x h;cases h),z3o,(by intro x h;cases h)⟩
 have km:=(z1F (σ++[B19,.box (XC3 c (I (v0:Nat)) (Sx v1))]) ({ x0 (c.toNat:Int) with id:=((v0:Nat):Int),txt:=v1 }) hsm).subA (.cons hsub .nil)
 by_cases ht:t2=[]
 · have hk0:t2.length=0:=by rw[ht];rfl
   have de:(((b.length-t2.length:Nat):Int) != ((b.length:Nat):Int))=false:=by
    rw[bne,show((b.length-t2.length:Nat):Int)=((b.length:Nat):Int) from by omega]
    simp
   have hbl2:Bel σ.length (.agg (XC3 c (I (v0:Nat)) (Sx v1))):=.agg _ (fun i hi=>by
     have:∀y∈(XC3 c (I (v0:Nat)) (Sx v1):List AV),Bel σ.length y:=by
      intro y hy;simp only[List.mem_cons,List.not_mem_nil,or_false]at hy;rcases hy with rfl|rfl|rfl|rfl|rfl|rfl|rfl|rfl|rfl|rfl|rfl|rfl|rfl|rfl|rfl|rfl|rfl|rfl|rfl
      all_goals first|exact .pl _|exact .nils|exact z0x _ _|exact z1h _ _|exact z0z _ _
     exact this _ (List.getElem_mem hi))
   simp -implicitDefEqProofs only[go_sem,List.take_length,de];refine CO.intro km ?_
   cases hm:mayR ({ x0 (c.toNat:Int) with id:=((v0:Nat):Int),txt:=v1 }) with
   |false =>
    simp -implicitDefEqProofs only[go_sem];exact Fini.trim2 (σ':=σ) (ex:=[_,_]) (by simp -implicitDefEqProofs only[go_sem,resA,z01,rvA,oneOf]<;>rfl) rfl (Nat.le_refl _) (z0e _) hbel
   |true =>
    have hW:wholeO (if true=true then some ({ x0 (c.toNat:Int) with id:=((v0:Nat):Int),txt:=v1 },t2) else none)=some ({ x0 (c.toNat:Int) with id:=((v0:Nat):Int),txt:=v1 }):=by rw[ht];rfl
    rw[hW];simp -implicitDefEqProofs only[go_sem];exact Fini.trim2 (σ':=σ) (ex:=[_,_]) (by simp -implicitDefEqProofs only[go_sem,resA,z01,rvA,oneOf]<;>rfl) rfl (Nat.le_refl _) (z1k hbl2) hbel
 · have hkp:0<t2.length:=by cases t2 with
    |nil=>exact absurd rfl ht
    |cons _ _=>simp
   have de:(((b.length-t2.length:Nat):Int) != ((b.length:Nat):Int))=true:=by
    rw[bne,neI (show((b.length-t2.length:Nat):Int)≠((b.length:Nat):Int) by omega)];rfl
   have hW:wholeO (if mayR ({ x0 (c.toNat:Int) with id:=((v0:Nat):Int),txt:=v1 })=true then some ({ x0 (c.toNat:Int) with id:=((v0:Nat):Int),txt:=v1 },t2) else none)=none:=by
    split
    · cases ht2:t2 with
      |nil=>exact absurd ht2 ht
      |cons _ _=>rfl
    · rfl
   rw[hW];simp -implicitDefEqProofs only[go_sem,List.take_length,de];exact Fini.trim2 (σ':=σ) (ex:=[_,_]) (by simp -implicitDefEqProofs only[go_sem,resA,z01,rvA,oneOf]<;>rfl) rfl (Nat.le_refl _) (z0e _) hbel
end
section
variable (σ:St)
def zgo (c:UInt8) (o:Option ReM):AV:=match o with
 |some x=>.tup [.agg (XC116 c (UN x.st) (UN x.en) (mlV x.mt) (Bo x.any) (Fl x.lo) (Fl x.hi)),Bo true]
 |none=>.tup [noReV,Bo false]
theorem zbX (c:UInt8) (t0:Byt):Sub (zgo c (wholeO (onlyR (z2i (c.toNat:Int)) mayR t0))) (z0Y (wholeO (onlyR (z2i (c.toNat:Int)) mayR t0))):=by
 simp only[onlyR,z2i]
 cases numR 1099511627776 t0 with
 |none=>exact z0g
 |some p =>
 obtain⟨v0,t1⟩:=p;simp only[Option.bind_some]
 cases numR 1099511627776 t1 with
 |none=>exact z0g
 |some p =>
 obtain⟨v1,t2⟩:=p;simp only[Option.bind_some]
 cases listR t2 with
 |none=>exact z0g
 |some p =>
 obtain⟨v2,t3⟩:=p;simp only[Option.bind_some]
 cases bandR t3 with
 |none=>exact z0g
 |some p =>
 obtain⟨v3,t4⟩:=p;simp only[Option.bind_some];split
 · cases t4 with
   |nil=>exact .tup (.cons (.agg (.cons (.refl _) <| .cons (.refl _) <| .cons (.refl _) <| .cons (.refl _) <| .cons (.refl _) <| .cons (.refl _) <| .cons (.refl _) <| .cons (.refl _) <| .cons (.refl _) <| .cons (.refl _) <| .cons (.refl _) <| .cons (.nils 3) <| .cons (.nils 3) <| .cons (.refl _) <| .cons (.refl _) <| .cons (.refl _) <| .cons (.nils 1) <| .cons (.nils 2) <| .cons (.refl _) <| .nil)) (.refl _))
   |cons _ _=>exact z0g
 · exact z0g
set_option maxHeartbeats 16000000 in
theorem zbY (b:Byt) (hb:b.length≤50000) (c:UInt8) (t0:Byt) (hbt:b=c::t0) (hd:dOf (c.toNat:Int)=S116) :
  Ans Tryz.prog 91 [.sl 1 (byv b)] σ (z0Y (wholeO (onlyR (z2i (c.toNat:Int)) mayR t0))) σ:=by
 obtain⟨hbl,dn,hpos,hx,wc,dr0,le0⟩:=z2p b c t0 hbt;have kf:=z0l (σ++[B19,.box (XC116 c (UN 0) (UN 0) (.nils) (Bo false) (Fl 0) (Fl 0))]) (c.toNat:Int);rw[hd]at kf;refine Ans.subR ?_ (zbX c t0);refine Ans.of_run' t91 (fun hbel _=>?_)
 simp -implicitDefEqProofs only[c91,r91,go_sem,dn,hpos,hx,bc,wc,List.append_assoc,List.length_append];refine CO.intro kf ?_;simp -implicitDefEqProofs only[go_sem];refine L.step fun J hJ=>?_
 simp -implicitDefEqProofs only[go_sem,z06,List.take_length,zdq,le0,dr0]
 cases h0:numR 1099511627776 t0 with
 |none =>
  have hW:wholeO (onlyR (z2i (c.toNat:Int)) mayR t0)=none:=by simp only[onlyR,z2i,h0,Option.bind_some,Option.bind_none];rfl
  rw[hW];refine CD.intro (z9m (σ++[B19,.box (XC116 c (UN 0) (UN 0) (.nils) (Bo false) (Fl 0) (Fl 0))]) (σ.length+1) t0 (by omega) _ _ _ _ _ _ _ _ _ _ _ _ _ _ _ _ _ _ (g1 _ _ _ _) h0) ?_
  simp -implicitDefEqProofs only[go_sem,z06,List.take_length];exact Fini.trim2 (σ':=σ) (ex:=[_,_]) (by simp -implicitDefEqProofs only[go_sem,resA,z01,rvA,oneOf]<;>rfl) rfl (Nat.le_refl _) (z0e _) hbel
 |some x0 =>
 obtain⟨v0,t1⟩:=x0;obtain⟨dr1,lo0,hi0⟩:=(ends_num _).drop (b:=b) (a:=1) (by omega) (by rw[dr0];exact h0)
 have hlt0:=z1A (ends_num _) h0;have ad0:IntKind.i64.wrap ((1:Int)+((t0.length-t1.length:Nat):Int))=((b.length-t1.length:Nat):Int):=by rw[wrapN (by omega) (by omega)];omega
 have le1:(((b.length-t1.length:Nat):Int)≤(b.length:Nat))=True:=eq_true (by omega)
 have k0:=z9n (σ++[B19,.box (XC116 c (UN 0) (UN 0) (.nils) (Bo false) (Fl 0) (Fl 0))]) (σ.length+1) t0 (by omega) _ _ _ _ _ _ _ _ _ _ _ _ _ _ _ _ _ _ _ (g1 _ _ _ _) v0 t1 h0
 rw[s1]at k0;refine CD.intro k0 ?_;simp -implicitDefEqProofs only[go_sem,z06,ad0,List.take_length];refine hJ _ _ ?_;clear hJ k0;refine L.step fun J hJ=>?_
 simp -implicitDefEqProofs only[go_sem,z06,List.take_length,zdr,le1,dr1]
 cases h1:numR 1099511627776 t1 with
 |none =>
  have hW:wholeO (onlyR (z2i (c.toNat:Int)) mayR t0)=none:=by simp only[onlyR,z2i,h0,h1,Option.bind_some,Option.bind_none];rfl
  rw[hW];refine CD.intro (z9o (σ++[B19,.box (XC116 c (UN v0) (UN 0) (.nils) (Bo false) (Fl 0) (Fl 0))]) (σ.length+1) t1 (by omega) _ _ _ _ _ _ _ _ _ _ _ _ _ _ _ _ _ _ (g1 _ _ _ _) h1) ?_
  simp -implicitDefEqProofs only[go_sem,z06,List.take_length];exact Fini.trim2 (σ':=σ) (ex:=[_,_]) (by simp -implicitDefEqProofs only[go_sem,resA,z01,rvA,oneOf]<;>rfl) rfl (Nat.le_refl _) (z0e _) hbel
 |some x1 =>
 obtain⟨v1,t2⟩:=x1;obtain⟨dr2,lo1,hi1⟩:=(ends_num _).drop (b:=b) (a:=(b.length-t1.length)) (by omega) (by rw[dr1];exact h1)
 have hlt1:=z1A (ends_num _) h1;have ad1:IntKind.i64.wrap (((b.length-t1.length:Nat):Int)+((t1.length-t2.length:Nat):Int))=((b.length-t2.length:Nat):Int):=by rw[wrapN (by omega) (by omega)];omega
 have le2:(((b.length-t2.length:Nat):Int)≤(b.length:Nat))=True:=eq_true (by omega)
 have k1:=z9p (σ++[B19,.box (XC116 c (UN v0) (UN 0) (.nils) (Bo false) (Fl 0) (Fl 0))]) (σ.length+1) t1 (by omega) _ _ _ _ _ _ _ _ _ _ _ _ _ _ _ _ _ _ _ (g1 _ _ _ _) v1 t2 h1
 rw[s1]at k1;refine CD.intro k1 ?_;simp -implicitDefEqProofs only[go_sem,z06,ad1,List.take_length];refine hJ _ _ ?_;clear hJ k1;refine L.step fun J hJ=>?_
 simp -implicitDefEqProofs only[go_sem,z06,List.take_length,zds,le2,dr2]
 cases h2:listR t2 with
 |none =>
  have hW:wholeO (onlyR (z2i (c.toNat:Int)) mayR t0)=none:=by simp only[onlyR,z2i,h0,h1,h2,Option.bind_some,Option.bind_none];rfl
  rw[hW];refine CD.intro (z6O (σ++[B19,.box (XC116 c (UN v0) (UN v1) (.nils) (Bo false) (Fl 0) (Fl 0))]) (σ.length+1) t2 (by omega) _ _ _ _ _ _ _ _ _ _ _ _ _ _ _ _ _ _ (g1 _ _ _ _) h2) ?_
  simp -implicitDefEqProofs only[go_sem,z06,List.take_length];exact Fini.trim2 (σ':=σ) (ex:=[_,_]) (by simp -implicitDefEqProofs only[go_sem,resA,z01,rvA,oneOf]<;>rfl) rfl (Nat.le_refl _) (z0e _) hbel
 |some x2 =>
 obtain⟨v2,t3⟩:=x2;obtain⟨dr3,lo2,hi2⟩:=ends_list.drop (b:=b) (a:=(b.length-t2.length)) (by omega) (by rw[dr2];exact h2)
 have hlt2:=z1A ends_list h2;have ad2:IntKind.i64.wrap (((b.length-t2.length:Nat):Int)+((t2.length-t3.length:Nat):Int))=((b.length-t3.length:Nat):Int):=by rw[wrapN (by omega) (by omega)];omega
 have le3:(((b.length-t3.length:Nat):Int)≤(b.length:Nat))=True:=eq_true (by omega)
 have k2:=z6P (σ++[B19,.box (XC116 c (UN v0) (UN v1) (.nils) (Bo false) (Fl 0) (Fl 0))]) (σ.length+1) t2 (by omega) _ _ _ _ _ _ _ _ _ _ _ _ _ _ _ _ _ _ _ (g1 _ _ _ _) v2 t3 h2
 rw[s1]at k2;refine CD.intro k2 ?_;simp -implicitDefEqProofs only[go_sem,z06,ad2,List.take_length];refine hJ _ _ ?_;clear hJ k2;refine L.step fun J hJ=>?_
 simp -implicitDefEqProofs only[go_sem,z06,List.take_length,zdt,le3,dr3]
 cases h3:bandR t3 with
 |none =>
  have hW:wholeO (onlyR (z2i (c.toNat:Int)) mayR t0)=none:=by simp only[onlyR,z2i,h0,h1,h2,h3,Option.bind_some,Option.bind_none];rfl
  rw[hW];refine CD.intro (z9q (σ++[B19,.box (XC116 c (UN v0) (UN v1) (mlV v2) (Bo false) (Fl 0) (Fl 0))]) (σ.length+1) t3 (by omega) _ _ _ _ _ _ _ _ _ _ _ _ _ _ _ _ (g1 _ _ _ _) h3) ?_
  simp -implicitDefEqProofs only[go_sem,z06,List.take_length];exact Fini.trim2 (σ':=σ) (ex:=[_,_]) (by simp -implicitDefEqProofs only[go_sem,resA,z01,rvA,oneOf]<;>rfl) rfl (Nat.le_refl _) (z0e _) hbel
 |some x3 =>
 obtain⟨v3,t4⟩:=x3;obtain⟨dr4,lo3,hi3⟩:=ends_band.drop (b:=b) (a:=(b.length-t3.length)) (by omega) (by rw[dr3];exact h3)
 have hlt3:=z1A ends_band h3;have ad3:IntKind.i64.wrap (((b.length-t3.length:Nat):Int)+((t3.length-t4.length:Nat):Int))=((b.length-t4.length:Nat):Int):=by rw[wrapN (by omega) (by omega)];omega
 have le4:(((b.length-t4.length:Nat):Int)≤(b.length:Nat))=True:=eq_true (by omega)
 have k3:=z9r (σ++[B19,.box (XC116 c (UN v0) (UN v1) (mlV v2) (Bo false) (Fl 0) (Fl 0))]) (σ.length+1) t3 (by omega) _ _ _ _ _ _ _ _ _ _ _ _ _ _ _ _ _ _ _ (g1 _ _ _ _) v3 t4 h3
 rw[s1]at k3;refine CD.intro k3 ?_;simp -implicitDefEqProofs only[go_sem,z06,ad3,List.take_length];refine hJ _ _ ?_;clear hJ k3;refine L.step fun J hJ=>?_
 have hcl:onlyR (z2i (c.toNat:Int)) mayR t0=if mayR (mk116 (c.toNat:Int) (v0,v1,v2,v3)) then some (mk116 (c.toNat:Int) (v0,v1,v2,v3),t4) else none:=by simp only[onlyR,z2i,h0,h1,h2,h3,Option.bind_some]
 rw[hcl];have hsub:Sub (.agg (XC116 c (UN v0) (UN v1) (mlV v2) (Bo v3.1) (Fl v3.2.1) (Fl v3.2.2))) (reV (mk116 (c.toNat:Int) (v0,v1,v2,v3))):=.agg (.cons (.refl _) <| .cons (.refl _) <| .cons (.refl _) <| .cons (.refl _) <| .cons (.refl _) <| .cons (.refl _) <| .cons (.refl _) <| .cons (.refl _) <| .cons (.refl _) <| .cons (.refl _) <| .cons (.refl _) <| .cons (.nils 3) <| .cons (.nils 3) <| .cons (.refl _) <| .cons (.refl _) <| .cons (.refl _) <| .cons (.nils 1) <| .cons (.nils 2) <| .cons (.refl _) <| .nil);have hsm:ReSm (mk116 (c.toNat:Int) (v0,v1,v2,v3)):=⟨z1Q (listB_fits.bwd _ _ _ h2).1,z3o,(by intro x h;cases h)⟩
 have km:=(z1F (σ++[B19,.box (XC116 c (UN v0) (UN v1) (mlV v2) (Bo v3.1) (Fl v3.2.1) (Fl v3.2.2))]) (mk116 (c.toNat:Int) (v0,v1,v2,v3)) hsm).subA (.cons hsub .nil);by_cases ht:t4=[]
 · have hk0:t4.length=0:=by rw[ht];rfl
   have de:(((b.length-t4.length:Nat):Int) != ((b.length:Nat):Int))=false:=by
    rw[bne,show((b.length-t4.length:Nat):Int)=((b.length:Nat):Int) from by omega]
    simp
   have hbl2:Bel σ.length (.agg (XC116 c (UN v0) (UN v1) (mlV v2) (Bo v3.1) (Fl v3.2.1) (Fl v3.2.2))):=.agg _ (fun i hi=>by
     have:∀y∈(XC116 c (UN v0) (UN v1) (mlV v2) (Bo v3.1) (Fl v3.2.1) (Fl v3.2.2):List AV),Bel σ.length y:=by
      intro y hy;simp only[List.mem_cons,List.not_mem_nil,or_false]at hy;rcases hy with rfl|rfl|rfl|rfl|rfl|rfl|rfl|rfl|rfl|rfl|rfl|rfl|rfl|rfl|rfl|rfl|rfl|rfl|rfl
      all_goals first|exact .pl _|exact .nils|exact z0x _ _|exact z1h _ _|exact z0z _ _
     exact this _ (List.getElem_mem hi))
   simp -implicitDefEqProofs only[go_sem,List.take_length,de];refine CO.intro km ?_
   cases hm:mayR (mk116 (c.toNat:Int) (v0,v1,v2,v3)) with
   |false =>
    simp -implicitDefEqProofs only[go_sem];exact Fini.trim2 (σ':=σ) (ex:=[_,_]) (by simp -implicitDefEqProofs only[go_sem,resA,z01,rvA,oneOf]<;>rfl) rfl (Nat.le_refl _) (z0e _) hbel
   |true =>
    have hW:wholeO (if true=true then some (mk116 (c.toNat:Int) (v0,v1,v2,v3),t4) else none)=some (mk116 (c.toNat:Int) (v0,v1,v2,v3)):=by rw[ht];rfl
    rw[hW];simp -implicitDefEqProofs only[go_sem];exact Fini.trim2 (σ':=σ) (ex:=[_,_]) (by simp -implicitDefEqProofs only[go_sem,resA,z01,rvA,oneOf]<;>rfl) rfl (Nat.le_refl _) (z1k hbl2) hbel
 · have hkp:0<t4.length:=by cases t4 with
    |nil=>exact absurd rfl ht
    |cons _ _=>simp
   have de:(((b.length-t4.length:Nat):Int) != ((b.length:Nat):Int))=true:=by
    rw[bne,neI (show((b.length-t4.length:Nat):Int)≠((b.length:Nat):Int) by omega)];rfl
   have hW:wholeO (if mayR (mk116 (c.toNat:Int) (v0,v1,v2,v3))=true then some (mk116 (c.toNat:Int) (v0,v1,v2,v3),t4) else none)=none:=by
    split
    · cases ht2:t4 with
      |nil=>exact absurd ht2 ht
      |cons _ _=>rfl
    · rfl
   rw[hW];simp -implicitDefEqProofs only[go_sem,List.take_length,de];exact Fini.trim2 (σ':=σ) (ex:=[_,_]) (by simp -implicitDefEqProofs only[go_sem,resA,z01,rvA,oneOf]<;>rfl) rfl (Nat.le_refl _) (z0e _) hbel
end
section
variable (σ:St)
def wk8_ (c:UInt8) (o:Option ReM):AV:=match o with
 |some x=>.tup [.agg (XC8 c (I x.sta)),Bo true]
 |none=>.tup [noReV,Bo false]
theorem zf7 (c:UInt8) (t0:Byt):Sub (wk8_ c (wholeO (onlyR (dR_8 (c.toNat:Int)) mayR t0))) (z0Y (wholeO (onlyR (dR_8 (c.toNat:Int)) mayR t0))):=by
 simp only[onlyR,dR_8]
 cases byteR t0 with
 |none=>exact z0g
 |some p =>
 obtain⟨v0,t1⟩:=p;simp only[Option.bind_some];split
 · cases t1 with
   |nil=>exact .tup (.cons (.agg (.cons (.refl _) <| .cons (.refl _) <| .cons (.refl _) <| .cons (.refl _) <| .cons (.refl _) <| .cons (.refl _) <| .cons (.refl _) <| .cons (.nils 3) <| .cons (.refl _) <| .cons (.refl _) <| .cons (.refl _) <| .cons (.nils 3) <| .cons (.nils 3) <| .cons (.refl _) <| .cons (.refl _) <| .cons (.refl _) <| .cons (.nils 1) <| .cons (.nils 2) <| .cons (.refl _) <| .nil)) (.refl _))
   |cons _ _=>exact z0g
 · exact z0g
set_option maxHeartbeats 16000000 in
theorem zf8 (b:Byt) (hb:b.length≤50000) (c:UInt8) (t0:Byt) (hbt:b=c::t0) (hd:dOf (c.toNat:Int)=S8) :
  Ans Tryz.prog 91 [.sl 1 (byv b)] σ (z0Y (wholeO (onlyR (dR_8 (c.toNat:Int)) mayR t0))) σ:=by
 obtain⟨hbl,dn,hpos,hx,wc,dr0,le0⟩:=z2p b c t0 hbt;have kf:=z0l (σ++[B19,.box (XC8 c (I 0))]) (c.toNat:Int);rw[hd]at kf;refine Ans.subR ?_ (zf7 c t0);refine Ans.of_run' t91 (fun hbel _=>?_)
 simp -implicitDefEqProofs only[c91,r91,go_sem,dn,hpos,hx,bc,wc,List.append_assoc,List.length_append];refine CO.intro kf ?_;simp -implicitDefEqProofs only[go_sem];refine L.step fun J hJ=>?_
 simp -implicitDefEqProofs only[go_sem,z06,List.take_length,zgj,le0,dr0]
 cases h0:byteR t0 with
 |none =>
  have hW:wholeO (onlyR (dR_8 (c.toNat:Int)) mayR t0)=none:=by simp only[onlyR,dR_8,h0,Option.bind_some,Option.bind_none];rfl
  rw[hW];refine CD.intro (zdh (σ++[B19,.box (XC8 c (I 0))]) (σ.length+1) t0 (by omega) _ _ _ _ _ _ _ _ _ _ _ _ _ _ _ _ _ _ _ (g1 _ _ _ _) (zbV h0)) ?_
  simp -implicitDefEqProofs only[go_sem,z06,List.take_length];exact Fini.trim2 (σ':=σ) (ex:=[_,_]) (by simp -implicitDefEqProofs only[go_sem,resA,z01,rvA,oneOf]<;>rfl) rfl (Nat.le_refl _) (z0e _) hbel
 |some x0 =>
 obtain⟨v0,t1⟩:=x0;obtain⟨dr1,lo0,hi0⟩:=ends_byte.drop (b:=b) (a:=1) (by omega) (by rw[dr0];exact h0)
 have hlt0:=z1A ends_byte h0;have ht0:=zao h0;have h1l0:t0.length=t1.length+1:=by rw[ht0];rfl
 have ad0:IntKind.i64.wrap ((1:Int)+1)=((b.length-t1.length:Nat):Int):=by rw[wrapN (by omega) (by omega)];omega
 have le1:(((b.length-t1.length:Nat):Int)≤(b.length:Nat))=True:=eq_true (by omega)
 have k0:=zdi (σ++[B19,.box (XC8 c (I 0))]) (σ.length+1) t0 (by omega) _ _ _ _ _ _ _ _ _ _ _ _ _ _ _ _ _ _ _ (g1 _ _ _ _) v0 t1 ht0
 rw[s1]at k0;refine CD.intro k0 ?_;simp -implicitDefEqProofs only[go_sem,z06,ad0,List.take_length];refine hJ _ _ ?_;clear hJ k0;refine L.step fun J hJ=>?_
 have hcl:onlyR (dR_8 (c.toNat:Int)) mayR t0=if mayR ({ x0 (c.toNat:Int) with sta:=(((v0).toNat:Nat):Int) }) then some ({ x0 (c.toNat:Int) with sta:=(((v0).toNat:Nat):Int) },t1) else none:=by simp only[onlyR,dR_8,h0,Option.bind_some]
 rw[hcl];have hsub:Sub (.agg (XC8 c (I (v0.toNat:Nat)))) (reV ({ x0 (c.toNat:Int) with sta:=(((v0).toNat:Nat):Int) })):=.agg (.cons (.refl _) <| .cons (.refl _) <| .cons (.refl _) <| .cons (.refl _) <| .cons (.refl _) <| .cons (.refl _) <| .cons (.refl _) <| .cons (.nils 3) <| .cons (.refl _) <| .cons (.refl _) <| .cons (.refl _) <| .cons (.nils 3) <| .cons (.nils 3) <| .cons (.refl _) <| .cons (.refl _) <| .cons (.refl _) <| .cons (.nils 1) <| .cons (.nils 2) <| .cons (.refl _) <| .nil)
 have hsm:ReSm ({ x0 (c.toNat:Int) with sta:=(((v0).toNat:Nat):Int) }):=⟨(by intro x h;cases h),z3o,(by intro x h;cases h)⟩
 have km:=(z1F (σ++[B19,.box (XC8 c (I (v0.toNat:Nat)))]) ({ x0 (c.toNat:Int) with sta:=(((v0).toNat:Nat):Int) }) hsm).subA (.cons hsub .nil)
 by_cases ht:t1=[]
 · have hk0:t1.length=0:=by rw[ht];rfl
   have de:((2:Int) != ((b.length:Nat):Int))=false:=by
    rw[bne,show(2:Int)=((b.length:Nat):Int) from by omega]
    simp
   have hbl2:Bel σ.length (.agg (XC8 c (I (v0.toNat:Nat)))):=.agg _ (fun i hi=>by
     have:∀y∈(XC8 c (I (v0.toNat:Nat)):List AV),Bel σ.length y:=by
      intro y hy;simp only[List.mem_cons,List.not_mem_nil,or_false]at hy;rcases hy with rfl|rfl|rfl|rfl|rfl|rfl|rfl|rfl|rfl|rfl|rfl|rfl|rfl|rfl|rfl|rfl|rfl|rfl|rfl
      all_goals first|exact .pl _|exact .nils|exact z0x _ _|exact z1h _ _|exact z0z _ _
     exact this _ (List.getElem_mem hi))
   simp -implicitDefEqProofs only[go_sem,List.take_length,de];refine CO.intro km ?_
   cases hm:mayR ({ x0 (c.toNat:Int) with sta:=(((v0).toNat:Nat):Int) }) with
   |false =>
    simp -implicitDefEqProofs only[go_sem];exact Fini.trim2 (σ':=σ) (ex:=[_,_]) (by simp -implicitDefEqProofs only[go_sem,resA,z01,rvA,oneOf]<;>rfl) rfl (Nat.le_refl _) (z0e _) hbel
   |true =>
    have hW:wholeO (if true=true then some ({ x0 (c.toNat:Int) with sta:=(((v0).toNat:Nat):Int) },t1) else none)=some ({ x0 (c.toNat:Int) with sta:=(((v0).toNat:Nat):Int) }):=by rw[ht];rfl
    rw[hW];simp -implicitDefEqProofs only[go_sem];exact Fini.trim2 (σ':=σ) (ex:=[_,_]) (by simp -implicitDefEqProofs only[go_sem,resA,z01,rvA,oneOf]<;>rfl) rfl (Nat.le_refl _) (z1k hbl2) hbel
 · have hkp:0<t1.length:=by cases t1 with
    |nil=>exact absurd rfl ht
    |cons _ _=>simp
   have de:((2:Int) != ((b.length:Nat):Int))=true:=by
    rw[bne,neI (show(2:Int)≠((b.length:Nat):Int) by omega)];rfl
   have hW:wholeO (if mayR ({ x0 (c.toNat:Int) with sta:=(((v0).toNat:Nat):Int) })=true then some ({ x0 (c.toNat:Int) with sta:=(((v0).toNat:Nat):Int) },t1) else none)=none:=by
    split
    · cases ht2:t1 with
      |nil=>exact absurd ht2 ht
      |cons _ _=>rfl
    · rfl
   rw[hW];simp -implicitDefEqProofs only[go_sem,List.take_length,de];exact Fini.trim2 (σ':=σ) (ex:=[_,_]) (by simp -implicitDefEqProofs only[go_sem,resA,z01,rvA,oneOf]<;>rfl) rfl (Nat.le_refl _) (z0e _) hbel
def zgp (c:UInt8) (o:Option ReM):AV:=match o with
 |some x=>.tup [.agg (XC128 c (mlV x.ru.src) (mlV x.ru.tgt) (Bo x.ru.any) (Fl x.ru.lo) (Fl x.ru.hi) (.sl 1 (txs x.ru.eq))),Bo true]
 |none=>.tup [noReV,Bo false]
theorem zbZ (c:UInt8) (t0:Byt):Sub (zgp c (wholeO (onlyR (z3A (c.toNat:Int)) mayR t0))) (z0Y (wholeO (onlyR (z3A (c.toNat:Int)) mayR t0))):=by
 simp only[onlyR,z3A]
 cases ruR t0 with
 |none=>exact z0g
 |some p =>
 obtain⟨v0,t1⟩:=p;simp only[Option.bind_some];split
 · cases t1 with
   |nil=>exact .tup (.cons (.agg (.cons (.refl _) <| .cons (.refl _) <| .cons (.refl _) <| .cons (.refl _) <| .cons (.refl _) <| .cons (.refl _) <| .cons (.refl _) <| .cons (.nils 3) <| .cons (.refl _) <| .cons (.refl _) <| .cons (.refl _) <| .cons (.refl _) <| .cons (.refl _) <| .cons (.refl _) <| .cons (.refl _) <| .cons (.refl _) <| .cons (.refl _) <| .cons (.nils 2) <| .cons (.refl _) <| .nil)) (.refl _))
   |cons _ _=>exact z0g
 · exact z0g
set_option maxHeartbeats 16000000 in
theorem zc0 (b:Byt) (hb:b.length≤50000) (c:UInt8) (t0:Byt) (hbt:b=c::t0) (hd:dOf (c.toNat:Int)=S128) :
  Ans Tryz.prog 91 [.sl 1 (byv b)] σ (z0Y (wholeO (onlyR (z3A (c.toNat:Int)) mayR t0))) σ:=by
 obtain⟨hbl,dn,hpos,hx,wc,dr0,le0⟩:=z2p b c t0 hbt;have kf:=z0l (σ++[B19,.box (XC128 c (.nils) (.nils) (Bo false) (Fl 0) (Fl 0) (.nils))]) (c.toNat:Int);rw[hd]at kf;refine Ans.subR ?_ (zbZ c t0);refine Ans.of_run' t91 (fun hbel _=>?_)
 simp -implicitDefEqProofs only[c91,r91,go_sem,dn,hpos,hx,bc,wc,List.append_assoc,List.length_append];refine CO.intro kf ?_;simp -implicitDefEqProofs only[go_sem];refine L.step fun J hJ=>?_
 simp -implicitDefEqProofs only[go_sem,z06,List.take_length,zdz,le0,dr0]
 cases h0:ruR t0 with
 |none =>
  have hW:wholeO (onlyR (z3A (c.toNat:Int)) mayR t0)=none:=by simp only[onlyR,z3A,h0,Option.bind_some,Option.bind_none];rfl
  rw[hW];refine CD.intro (zdj (σ++[B19,.box (XC128 c (.nils) (.nils) (Bo false) (Fl 0) (Fl 0) (.nils))]) (σ.length+1) t0 (by omega) _ _ _ _ _ _ _ _ _ _ _ _ _ (g1 _ _ _ _) h0) ?_
  simp -implicitDefEqProofs only[go_sem,z06,List.take_length];exact Fini.trim2 (σ':=σ) (ex:=[_,_]) (by simp -implicitDefEqProofs only[go_sem,resA,z01,rvA,oneOf]<;>rfl) rfl (Nat.le_refl _) (z0e _) hbel
 |some x0 =>
 obtain⟨v0,t1⟩:=x0;obtain⟨dr1,lo0,hi0⟩:=ends_ru.drop (b:=b) (a:=1) (by omega) (by rw[dr0];exact h0)
 have hlt0:=z1A ends_ru h0;have ad0:IntKind.i64.wrap ((1:Int)+((t0.length-t1.length:Nat):Int))=((b.length-t1.length:Nat):Int):=by rw[wrapN (by omega) (by omega)];omega
 have le1:(((b.length-t1.length:Nat):Int)≤(b.length:Nat))=True:=eq_true (by omega)
 have k0:=zdk (σ++[B19,.box (XC128 c (.nils) (.nils) (Bo false) (Fl 0) (Fl 0) (.nils))]) (σ.length+1) t0 (by omega) _ _ _ _ _ _ _ _ _ _ _ _ _ _ _ _ _ _ _ (g1 _ _ _ _) v0 t1 h0
 rw[s1]at k0;refine CD.intro k0 ?_;simp -implicitDefEqProofs only[go_sem,z06,ad0,List.take_length];refine hJ _ _ ?_;clear hJ k0;refine L.step fun J hJ=>?_
 have hcl:onlyR (z3A (c.toNat:Int)) mayR t0=if mayR ({ x0 (c.toNat:Int) with ru:=v0 }) then some ({ x0 (c.toNat:Int) with ru:=v0 },t1) else none:=by simp only[onlyR,z3A,h0,Option.bind_some]
 rw[hcl];have hsub:Sub (.agg (XC128 c (mlV v0.src) (mlV v0.tgt) (Bo v0.any) (Fl v0.lo) (Fl v0.hi) (.sl 1 (txs v0.eq)))) (reV ({ x0 (c.toNat:Int) with ru:=v0 })):=.agg (.cons (.refl _) <| .cons (.refl _) <| .cons (.refl _) <| .cons (.refl _) <| .cons (.refl _) <| .cons (.refl _) <| .cons (.refl _) <| .cons (.nils 3) <| .cons (.refl _) <| .cons (.refl _) <| .cons (.refl _) <| .cons (.refl _) <| .cons (.refl _) <| .cons (.refl _) <| .cons (.refl _) <| .cons (.refl _) <| .cons (.refl _) <| .cons (.nils 2) <| .cons (.refl _) <| .nil)
 have hsm:ReSm ({ x0 (c.toNat:Int) with ru:=v0 }):=⟨(by intro x h;cases h),ru_sm (ru_fits.bwd _ _ _ h0).1.1,(by intro x h;cases h)⟩
 have km:=(z1F (σ++[B19,.box (XC128 c (mlV v0.src) (mlV v0.tgt) (Bo v0.any) (Fl v0.lo) (Fl v0.hi) (.sl 1 (txs v0.eq)))]) ({ x0 (c.toNat:Int) with ru:=v0 }) hsm).subA (.cons hsub .nil)
 by_cases ht:t1=[]
 · have hk0:t1.length=0:=by rw[ht];rfl
   have de:(((b.length-t1.length:Nat):Int) != ((b.length:Nat):Int))=false:=by
    rw[bne,show((b.length-t1.length:Nat):Int)=((b.length:Nat):Int) from by omega]
    simp
   have hbl2:Bel σ.length (.agg (XC128 c (mlV v0.src) (mlV v0.tgt) (Bo v0.any) (Fl v0.lo) (Fl v0.hi) (.sl 1 (txs v0.eq)))):=.agg _ (fun i hi=>by
     have:∀y∈(XC128 c (mlV v0.src) (mlV v0.tgt) (Bo v0.any) (Fl v0.lo) (Fl v0.hi) (.sl 1 (txs v0.eq)):List AV),Bel σ.length y:=by
      intro y hy;simp only[List.mem_cons,List.not_mem_nil,or_false]at hy;rcases hy with rfl|rfl|rfl|rfl|rfl|rfl|rfl|rfl|rfl|rfl|rfl|rfl|rfl|rfl|rfl|rfl|rfl|rfl|rfl
      all_goals first|exact .pl _|exact .nils|exact z0x _ _|exact z1h _ _|exact z0z _ _
     exact this _ (List.getElem_mem hi))
   simp -implicitDefEqProofs only[go_sem,List.take_length,de];refine CO.intro km ?_
   cases hm:mayR ({ x0 (c.toNat:Int) with ru:=v0 }) with
   |false =>
    simp -implicitDefEqProofs only[go_sem];exact Fini.trim2 (σ':=σ) (ex:=[_,_]) (by simp -implicitDefEqProofs only[go_sem,resA,z01,rvA,oneOf]<;>rfl) rfl (Nat.le_refl _) (z0e _) hbel
   |true =>
    have hW:wholeO (if true=true then some ({ x0 (c.toNat:Int) with ru:=v0 },t1) else none)=some ({ x0 (c.toNat:Int) with ru:=v0 }):=by rw[ht];rfl
    rw[hW];simp -implicitDefEqProofs only[go_sem];exact Fini.trim2 (σ':=σ) (ex:=[_,_]) (by simp -implicitDefEqProofs only[go_sem,resA,z01,rvA,oneOf]<;>rfl) rfl (Nat.le_refl _) (z1k hbl2) hbel
 · have hkp:0<t1.length:=by cases t1 with
    |nil=>exact absurd rfl ht
    |cons _ _=>simp
   have de:(((b.length-t1.length:Nat):Int) != ((b.length:Nat):Int))=true:=by
    rw[bne,neI (show((b.length-t1.length:Nat):Int)≠((b.length:Nat):Int) by omega)];rfl
   have hW:wholeO (if mayR ({ x0 (c.toNat:Int) with ru:=v0 })=true then some ({ x0 (c.toNat:Int) with ru:=v0 },t1) else none)=none:=by
    split
    · cases ht2:t1 with
      |nil=>exact absurd ht2 ht
      |cons _ _=>rfl
    · rfl
   rw[hW];simp -implicitDefEqProofs only[go_sem,List.take_length,de];exact Fini.trim2 (σ':=σ) (ex:=[_,_]) (by simp -implicitDefEqProofs only[go_sem,resA,z01,rvA,oneOf]<;>rfl) rfl (Nat.le_refl _) (z0e _) hbel
def wk16_ (c:UInt8) (o:Option ReM):AV:=match o with
 |some x=>.tup [.agg (XC16 c (mlV x.mt)),Bo true]
 |none=>.tup [noReV,Bo false]
theorem zdC (c:UInt8) (t0:Byt):Sub (wk16_ c (wholeO (onlyR (dR_16 (c.toNat:Int)) mayR t0))) (z0Y (wholeO (onlyR (dR_16 (c.toNat:Int)) mayR t0))):=by
 simp only[onlyR,dR_16]
 cases listR t0 with
 |none=>exact z0g
 |some p =>
 obtain⟨v0,t1⟩:=p;simp only[Option.bind_some];split
 · cases t1 with
   |nil=>exact .tup (.cons (.agg (.cons (.refl _) <| .cons (.refl _) <| .cons (.refl _) <| .cons (.refl _) <| .cons (.refl _) <| .cons (.refl _) <| .cons (.refl _) <| .cons (.refl _) <| .cons (.refl _) <| .cons (.refl _) <| .cons (.refl _) <| .cons (.nils 3) <| .cons (.nils 3) <| .cons (.refl _) <| .cons (.refl _) <| .cons (.refl _) <| .cons (.nils 1) <| .cons (.nils 2) <| .cons (.refl _) <| .nil)) (.refl _))
   |cons _ _=>exact z0g
 · exact z0g
set_option maxHeartbeats 16000000 in
theorem zdD (b:Byt) (hb:b.length≤50000) (c:UInt8) (t0:Byt) (hbt:b=c::t0) (hd:dOf (c.toNat:Int)=S16) :
  Ans Tryz.prog 91 [.sl 1 (byv b)] σ (z0Y (wholeO (onlyR (dR_16 (c.toNat:Int)) mayR t0))) σ:=by
 obtain⟨hbl,dn,hpos,hx,wc,dr0,le0⟩:=z2p b c t0 hbt;have kf:=z0l (σ++[B19,.box (XC16 c (.nils))]) (c.toNat:Int);rw[hd]at kf;refine Ans.subR ?_ (zdC c t0);refine Ans.of_run' t91 (fun hbel _=>?_)
 simp -implicitDefEqProofs only[c91,r91,go_sem,dn,hpos,hx,bc,wc,List.append_assoc,List.length_append];refine CO.intro kf ?_;simp -implicitDefEqProofs only[go_sem];refine L.step fun J hJ=>?_
 simp -implicitDefEqProofs only[go_sem,z06,List.take_length,zf2,le0,dr0]
 cases h0:listR t0 with
 |none =>
  have hW:wholeO (onlyR (dR_16 (c.toNat:Int)) mayR t0)=none:=by simp only[onlyR,dR_16,h0,Option.bind_some,Option.bind_none];rfl
  rw[hW];refine CD.intro (z6O (σ++[B19,.box (XC16 c (.nils))]) (σ.length+1) t0 (by omega) _ _ _ _ _ _ _ _ _ _ _ _ _ _ _ _ _ _ (g1 _ _ _ _) h0) ?_
  simp -implicitDefEqProofs only[go_sem,z06,List.take_length];exact Fini.trim2 (σ':=σ) (ex:=[_,_]) (by simp -implicitDefEqProofs only[go_sem,resA,z01,rvA,oneOf]<;>rfl) rfl (Nat.le_refl _) (z0e _) hbel
 |some x0 =>
 obtain⟨v0,t1⟩:=x0;obtain⟨dr1,lo0,hi0⟩:=ends_list.drop (b:=b) (a:=1) (by omega) (by rw[dr0];exact h0)
 have hlt0:=z1A ends_list h0;have ad0:IntKind.i64.wrap ((1:Int)+((t0.length-t1.length:Nat):Int))=((b.length-t1.length:Nat):Int):=by rw[wrapN (by omega) (by omega)];omega
 have le1:(((b.length-t1.length:Nat):Int)≤(b.length:Nat))=True:=eq_true (by omega)
 have k0:=z6P (σ++[B19,.box (XC16 c (.nils))]) (σ.length+1) t0 (by omega) _ _ _ _ _ _ _ _ _ _ _ _ _ _ _ _ _ _ _ (g1 _ _ _ _) v0 t1 h0
 rw[s1]at k0;refine CD.intro k0 ?_;simp -implicitDefEqProofs only[go_sem,z06,ad0,List.take_length];refine hJ _ _ ?_;clear hJ k0;refine L.step fun J hJ=>?_
 have hcl:onlyR (dR_16 (c.toNat:Int)) mayR t0=if mayR ({ x0 (c.toNat:Int) with mt:=v0 }) then some ({ x0 (c.toNat:Int) with mt:=v0 },t1) else none:=by simp only[onlyR,dR_16,h0,Option.bind_some]
 rw[hcl];have hsub:Sub (.agg (XC16 c (mlV v0))) (reV ({ x0 (c.toNat:Int) with mt:=v0 })):=.agg (.cons (.refl _) <| .cons (.refl _) <| .cons (.refl _) <| .cons (.refl _) <| .cons (.refl _) <| .cons (.refl _) <| .cons (.refl _) <| .cons (.refl _) <| .cons (.refl _) <| .cons (.refl _) <| .cons (.refl _) <| .cons (.nils 3) <| .cons (.nils 3) <| .cons (.refl _) <| .cons (.refl _) <| .cons (.refl _) <| .cons (.nils 1) <| .cons (.nils 2) <| .cons (.refl _) <| .nil)
 have hsm:ReSm ({ x0 (c.toNat:Int) with mt:=v0 }):=⟨z1Q (listB_fits.bwd _ _ _ h0).1,z3o,(by intro x h;cases h)⟩
 have km:=(z1F (σ++[B19,.box (XC16 c (mlV v0))]) ({ x0 (c.toNat:Int) with mt:=v0 }) hsm).subA (.cons hsub .nil)
 by_cases ht:t1=[]
 · have hk0:t1.length=0:=by rw[ht];rfl
   have de:(((b.length-t1.length:Nat):Int) != ((b.length:Nat):Int))=false:=by
    rw[bne,show((b.length-t1.length:Nat):Int)=((b.length:Nat):Int) from by omega]
    simp
   have hbl2:Bel σ.length (.agg (XC16 c (mlV v0))):=.agg _ (fun i hi=>by
     have:∀y∈(XC16 c (mlV v0):List AV),Bel σ.length y:=by
      intro y hy;simp only[List.mem_cons,List.not_mem_nil,or_false]at hy;rcases hy with rfl|rfl|rfl|rfl|rfl|rfl|rfl|rfl|rfl|rfl|rfl|rfl|rfl|rfl|rfl|rfl|rfl|rfl|rfl
      all_goals first|exact .pl _|exact .nils|exact z0x _ _|exact z1h _ _|exact z0z _ _
     exact this _ (List.getElem_mem hi))
   simp -implicitDefEqProofs only[go_sem,List.take_length,de];refine CO.intro km ?_
   cases hm:mayR ({ x0 (c.toNat:Int) with mt:=v0 }) with
   |false =>
    simp -implicitDefEqProofs only[go_sem];exact Fini.trim2 (σ':=σ) (ex:=[_,_]) (by simp -implicitDefEqProofs only[go_sem,resA,z01,rvA,oneOf]<;>rfl) rfl (Nat.le_refl _) (z0e _) hbel
   |true =>
    have hW:wholeO (if true=true then some ({ x0 (c.toNat:Int) with mt:=v0 },t1) else none)=some ({ x0 (c.toNat:Int) with mt:=v0 }):=by rw[ht];rfl
    rw[hW];simp -implicitDefEqProofs only[go_sem];exact Fini.trim2 (σ':=σ) (ex:=[_,_]) (by simp -implicitDefEqProofs only[go_sem,resA,z01,rvA,oneOf]<;>rfl) rfl (Nat.le_refl _) (z1k hbl2) hbel
 · have hkp:0<t1.length:=by cases t1 with
    |nil=>exact absurd rfl ht
    |cons _ _=>simp
   have de:(((b.length-t1.length:Nat):Int) != ((b.length:Nat):Int))=true:=by
    rw[bne,neI (show((b.length-t1.length:Nat):Int)≠((b.length:Nat):Int) by omega)];rfl
   have hW:wholeO (if mayR ({ x0 (c.toNat:Int) with mt:=v0 })=true then some ({ x0 (c.toNat:Int) with mt:=v0 },t1) else none)=none:=by
    split
    · cases ht2:t1 with
      |nil=>exact absurd ht2 ht
      |cons _ _=>rfl
    · rfl
   rw[hW];simp -implicitDefEqProofs only[go_sem,List.take_length,de];exact Fini.trim2 (σ':=σ) (ex:=[_,_]) (by simp -implicitDefEqProofs only[go_sem,resA,z01,rvA,oneOf]<;>rfl) rfl (Nat.le_refl _) (z0e _) hbel
end
section
variable (σ:St)
def zgq (c:UInt8) (o:Option ReM):AV:=match o with
 |some x=>.tup [.agg (XC768 c (lsV x.ls) (Fl x.val)),Bo true]
 |none=>.tup [noReV,Bo false]
theorem zc1 (c:UInt8) (t0:Byt):Sub (zgq c (wholeO (onlyR (z3g (c.toNat:Int)) mayR t0))) (z0Y (wholeO (onlyR (z3g (c.toNat:Int)) mayR t0))):=by
 simp only[onlyR,z3g]
 cases setR t0 with
 |none=>exact z0g
 |some p =>
 obtain⟨v0,t1⟩:=p;simp only[Option.bind_some]
 cases valR t1 with
 |none=>exact z0g
 |some p =>
 obtain⟨v1,t2⟩:=p;simp only[Option.bind_some];split
 · cases t2 with
   |nil=>exact .tup (.cons (.agg (.cons (.refl _) <| .cons (.refl _) <| .cons (.refl _) <| .cons (.refl _) <| .cons (.refl _) <| .cons (.refl _) <| .cons (.refl _) <| .cons (.nils 3) <| .cons (.refl _) <| .cons (.refl _) <| .cons (.refl _) <| .cons (.nils 3) <| .cons (.nils 3) <| .cons (.refl _) <| .cons (.refl _) <| .cons (.refl _) <| .cons (.nils 1) <| .cons (.refl _) <| .cons (.refl _) <| .nil)) (.refl _))
   |cons _ _=>exact z0g
 · exact z0g
set_option maxHeartbeats 16000000 in
theorem zc2 (b:Byt) (hb:b.length≤50000) (c:UInt8) (t0:Byt) (hbt:b=c::t0) (hd:dOf (c.toNat:Int)=S768) :
  Ans Tryz.prog 91 [.sl 1 (byv b)] σ (z0Y (wholeO (onlyR (z3g (c.toNat:Int)) mayR t0))) σ:=by
 obtain⟨hbl,dn,hpos,hx,wc,dr0,le0⟩:=z2p b c t0 hbt;have kf:=z0l (σ++[B19,.box (XC768 c (.nils) (Fl 0))]) (c.toNat:Int);rw[hd]at kf;refine Ans.subR ?_ (zc1 c t0);refine Ans.of_run' t91 (fun hbel _=>?_)
 simp -implicitDefEqProofs only[c91,r91,go_sem,dn,hpos,hx,bc,wc,List.append_assoc,List.length_append];refine CO.intro kf ?_;simp -implicitDefEqProofs only[go_sem];refine L.step fun J hJ=>?_
 simp -implicitDefEqProofs only[go_sem,z06,List.take_length,zdA,le0,dr0]
 cases h0:setR t0 with
 |none =>
  have hW:wholeO (onlyR (z3g (c.toNat:Int)) mayR t0)=none:=by simp only[onlyR,z3g,h0,Option.bind_some,Option.bind_none];rfl
  rw[hW];refine CD.intro (zdl (σ++[B19,.box (XC768 c (.nils) (Fl 0))]) (σ.length+1) t0 (by omega) _ _ _ _ _ _ _ _ _ _ _ _ _ _ _ _ _ _ (g1 _ _ _ _) h0) ?_
  simp -implicitDefEqProofs only[go_sem,z06,List.take_length];exact Fini.trim2 (σ':=σ) (ex:=[_,_]) (by simp -implicitDefEqProofs only[go_sem,resA,z01,rvA,oneOf]<;>rfl) rfl (Nat.le_refl _) (z0e _) hbel
 |some x0 =>
 obtain⟨v0,t1⟩:=x0;obtain⟨dr1,lo0,hi0⟩:=ends_set.drop (b:=b) (a:=1) (by omega) (by rw[dr0];exact h0)
 have hlt0:=z1A ends_set h0;have ad0:IntKind.i64.wrap ((1:Int)+((t0.length-t1.length:Nat):Int))=((b.length-t1.length:Nat):Int):=by rw[wrapN (by omega) (by omega)];omega
 have le1:(((b.length-t1.length:Nat):Int)≤(b.length:Nat))=True:=eq_true (by omega)
 have k0:=zdm (σ++[B19,.box (XC768 c (.nils) (Fl 0))]) (σ.length+1) t0 (by omega) _ _ _ _ _ _ _ _ _ _ _ _ _ _ _ _ _ _ _ (g1 _ _ _ _) v0 t1 h0
 rw[s1]at k0;refine CD.intro k0 ?_;simp -implicitDefEqProofs only[go_sem,z06,ad0,List.take_length];refine hJ _ _ ?_;clear hJ k0;refine L.step fun J hJ=>?_
 simp -implicitDefEqProofs only[go_sem,z06,List.take_length,zdB,le1,dr1]
 cases h1:valR t1 with
 |none =>
  have hW:wholeO (onlyR (z3g (c.toNat:Int)) mayR t0)=none:=by simp only[onlyR,z3g,h0,h1,Option.bind_some,Option.bind_none];rfl
  rw[hW];refine CD.intro (zdn (σ++[B19,.box (XC768 c (lsV v0) (Fl 0))]) (σ.length+1) t1 (by omega) _ _ _ _ _ _ _ _ _ _ _ _ _ _ _ _ _ _ (g1 _ _ _ _) h1) ?_
  simp -implicitDefEqProofs only[go_sem,z06,List.take_length];exact Fini.trim2 (σ':=σ) (ex:=[_,_]) (by simp -implicitDefEqProofs only[go_sem,resA,z01,rvA,oneOf]<;>rfl) rfl (Nat.le_refl _) (z0e _) hbel
 |some x1 =>
 obtain⟨v1,t2⟩:=x1;obtain⟨dr2,lo1,hi1⟩:=ends_val.drop (b:=b) (a:=(b.length-t1.length)) (by omega) (by rw[dr1];exact h1)
 have hlt1:=z1A ends_val h1;have h8l1:=zf3 h1;have ad1:IntKind.i64.wrap (((b.length-t1.length:Nat):Int)+8)=((b.length-t2.length:Nat):Int):=by rw[wrapN (by omega) (by omega)];omega
 have le2:(((b.length-t2.length:Nat):Int)≤(b.length:Nat))=True:=eq_true (by omega)
 have k1:=zdo (σ++[B19,.box (XC768 c (lsV v0) (Fl 0))]) (σ.length+1) t1 (by omega) _ _ _ _ _ _ _ _ _ _ _ _ _ _ _ _ _ _ _ (g1 _ _ _ _) v1 t2 h1
 rw[s1]at k1;refine CD.intro k1 ?_;simp -implicitDefEqProofs only[go_sem,z06,ad1,List.take_length];refine hJ _ _ ?_;clear hJ k1;refine L.step fun J hJ=>?_
 have hcl:onlyR (z3g (c.toNat:Int)) mayR t0=if mayR ({ x0 (c.toNat:Int) with ls:=v0,val:=v1 }) then some ({ x0 (c.toNat:Int) with ls:=v0,val:=v1 },t2) else none:=by simp only[onlyR,z3g,h0,h1,Option.bind_some]
 rw[hcl];have hsub:Sub (.agg (XC768 c (lsV v0) (Fl v1))) (reV ({ x0 (c.toNat:Int) with ls:=v0,val:=v1 })):=.agg (.cons (.refl _) <| .cons (.refl _) <| .cons (.refl _) <| .cons (.refl _) <| .cons (.refl _) <| .cons (.refl _) <| .cons (.refl _) <| .cons (.nils 3) <| .cons (.refl _) <| .cons (.refl _) <| .cons (.refl _) <| .cons (.nils 3) <| .cons (.nils 3) <| .cons (.refl _) <| .cons (.refl _) <| .cons (.refl _) <| .cons (.nils 1) <| .cons (.refl _) <| .cons (.refl _) <| .nil)
 have hsm:ReSm ({ x0 (c.toNat:Int) with ls:=v0,val:=v1 }):=⟨(by intro x h;cases h),z3o,ls_sm (set_fits.bwd _ _ _ h0).1⟩
 have km:=(z1F (σ++[B19,.box (XC768 c (lsV v0) (Fl v1))]) ({ x0 (c.toNat:Int) with ls:=v0,val:=v1 }) hsm).subA (.cons hsub .nil)
 by_cases ht:t2=[]
 · have hk0:t2.length=0:=by rw[ht];rfl
   have de:(((b.length-t2.length:Nat):Int) != ((b.length:Nat):Int))=false:=by
    rw[bne,show((b.length-t2.length:Nat):Int)=((b.length:Nat):Int) from by omega]
    simp
   have hbl2:Bel σ.length (.agg (XC768 c (lsV v0) (Fl v1))):=.agg _ (fun i hi=>by
     have:∀y∈(XC768 c (lsV v0) (Fl v1):List AV),Bel σ.length y:=by
      intro y hy;simp only[List.mem_cons,List.not_mem_nil,or_false]at hy;rcases hy with rfl|rfl|rfl|rfl|rfl|rfl|rfl|rfl|rfl|rfl|rfl|rfl|rfl|rfl|rfl|rfl|rfl|rfl|rfl
      all_goals first|exact .pl _|exact .nils|exact z0x _ _|exact z1h _ _|exact z0z _ _
     exact this _ (List.getElem_mem hi))
   simp -implicitDefEqProofs only[go_sem,List.take_length,de];refine CO.intro km ?_
   cases hm:mayR ({ x0 (c.toNat:Int) with ls:=v0,val:=v1 }) with
   |false =>
    simp -implicitDefEqProofs only[go_sem];exact Fini.trim2 (σ':=σ) (ex:=[_,_]) (by simp -implicitDefEqProofs only[go_sem,resA,z01,rvA,oneOf]<;>rfl) rfl (Nat.le_refl _) (z0e _) hbel
   |true =>
    have hW:wholeO (if true=true then some ({ x0 (c.toNat:Int) with ls:=v0,val:=v1 },t2) else none)=some ({ x0 (c.toNat:Int) with ls:=v0,val:=v1 }):=by rw[ht];rfl
    rw[hW];simp -implicitDefEqProofs only[go_sem];exact Fini.trim2 (σ':=σ) (ex:=[_,_]) (by simp -implicitDefEqProofs only[go_sem,resA,z01,rvA,oneOf]<;>rfl) rfl (Nat.le_refl _) (z1k hbl2) hbel
 · have hkp:0<t2.length:=by cases t2 with
    |nil=>exact absurd rfl ht
    |cons _ _=>simp
   have de:(((b.length-t2.length:Nat):Int) != ((b.length:Nat):Int))=true:=by
    rw[bne,neI (show((b.length-t2.length:Nat):Int)≠((b.length:Nat):Int) by omega)];rfl
   have hW:wholeO (if mayR ({ x0 (c.toNat:Int) with ls:=v0,val:=v1 })=true then some ({ x0 (c.toNat:Int) with ls:=v0,val:=v1 },t2) else none)=none:=by
    split
    · cases ht2:t2 with
      |nil=>exact absurd ht2 ht
      |cons _ _=>rfl
    · rfl
   rw[hW];simp -implicitDefEqProofs only[go_sem,List.take_length,de];exact Fini.trim2 (σ':=σ) (ex:=[_,_]) (by simp -implicitDefEqProofs only[go_sem,resA,z01,rvA,oneOf]<;>rfl) rfl (Nat.le_refl _) (z0e _) hbel
end
section
variable (σ:St)
def zgr (c:UInt8) (o:Option ReM):AV:=match o with
 |some x=>.tup [.agg (XC117 c (I x.id) (UN x.st) (UN x.en) (mlV x.mt) (Bo x.any) (Fl x.lo) (Fl x.hi)),Bo true]
 |none=>.tup [noReV,Bo false]
theorem zc3 (c:UInt8) (t0:Byt):Sub (zgr c (wholeO (onlyR (z2g (c.toNat:Int)) mayR t0))) (z0Y (wholeO (onlyR (z2g (c.toNat:Int)) mayR t0))):=by
 simp only[onlyR,z2g]
 cases numR 1099511627776 t0 with
 |none=>exact z0g
 |some p =>
 obtain⟨v0,t1⟩:=p;simp only[Option.bind_some]
 cases numR 1099511627776 t1 with
 |none=>exact z0g
 |some p =>
 obtain⟨v1,t2⟩:=p;simp only[Option.bind_some]
 cases numR 1099511627776 t2 with
 |none=>exact z0g
 |some p =>
 obtain⟨v2,t3⟩:=p;simp only[Option.bind_some]
 cases listR t3 with
 |none=>exact z0g
 |some p =>
 obtain⟨v3,t4⟩:=p;simp only[Option.bind_some]
 cases bandR t4 with
 |none=>exact z0g
 |some p =>
 obtain⟨v4,t5⟩:=p;simp only[Option.bind_some];split
 · cases t5 with
   |nil=>exact .tup (.cons (.agg (.cons (.refl _) <| .cons (.refl _) <| .cons (.refl _) <| .cons (.refl _) <| .cons (.refl _) <| .cons (.refl _) <| .cons (.refl _) <| .cons (.refl _) <| .cons (.refl _) <| .cons (.refl _) <| .cons (.refl _) <| .cons (.nils 3) <| .cons (.nils 3) <| .cons (.refl _) <| .cons (.refl _) <| .cons (.refl _) <| .cons (.nils 1) <| .cons (.nils 2) <| .cons (.refl _) <| .nil)) (.refl _))
   |cons _ _=>exact z0g
 · exact z0g
set_option maxHeartbeats 16000000 in
theorem zc4 (b:Byt) (hb:b.length≤50000) (c:UInt8) (t0:Byt) (hbt:b=c::t0) (hd:dOf (c.toNat:Int)=S117) :
  Ans Tryz.prog 91 [.sl 1 (byv b)] σ (z0Y (wholeO (onlyR (z2g (c.toNat:Int)) mayR t0))) σ:=by
 obtain⟨hbl,dn,hpos,hx,wc,dr0,le0⟩:=z2p b c t0 hbt;have kf:=z0l (σ++[B19,.box (XC117 c (I 0) (UN 0) (UN 0) (.nils) (Bo false) (Fl 0) (Fl 0))]) (c.toNat:Int);rw[hd]at kf;refine Ans.subR ?_ (zc3 c t0);refine Ans.of_run' t91 (fun hbel _=>?_)
 simp -implicitDefEqProofs only[c91,r91,go_sem,dn,hpos,hx,bc,wc,List.append_assoc,List.length_append];refine CO.intro kf ?_;simp -implicitDefEqProofs only[go_sem];refine L.step fun J hJ=>?_
 simp -implicitDefEqProofs only[go_sem,z06,List.take_length,zdu,le0,dr0]
 cases h0:numR 1099511627776 t0 with
 |none =>
  have hW:wholeO (onlyR (z2g (c.toNat:Int)) mayR t0)=none:=by simp only[onlyR,z2g,h0,Option.bind_some,Option.bind_none];rfl
  rw[hW];refine CD.intro (z6M (σ++[B19,.box (XC117 c (I 0) (UN 0) (UN 0) (.nils) (Bo false) (Fl 0) (Fl 0))]) (σ.length+1) t0 (by omega) _ _ _ _ _ _ _ _ _ _ _ _ _ _ _ _ _ _ (g1 _ _ _ _) h0) ?_
  simp -implicitDefEqProofs only[go_sem,z06,List.take_length];exact Fini.trim2 (σ':=σ) (ex:=[_,_]) (by simp -implicitDefEqProofs only[go_sem,resA,z01,rvA,oneOf]<;>rfl) rfl (Nat.le_refl _) (z0e _) hbel
 |some x0 =>
 obtain⟨v0,t1⟩:=x0;obtain⟨dr1,lo0,hi0⟩:=(ends_num _).drop (b:=b) (a:=1) (by omega) (by rw[dr0];exact h0)
 have hlt0:=z1A (ends_num _) h0;have ad0:IntKind.i64.wrap ((1:Int)+((t0.length-t1.length:Nat):Int))=((b.length-t1.length:Nat):Int):=by rw[wrapN (by omega) (by omega)];omega
 have le1:(((b.length-t1.length:Nat):Int)≤(b.length:Nat))=True:=eq_true (by omega)
 have k0:=z6N (σ++[B19,.box (XC117 c (I 0) (UN 0) (UN 0) (.nils) (Bo false) (Fl 0) (Fl 0))]) (σ.length+1) t0 (by omega) _ _ _ _ _ _ _ _ _ _ _ _ _ _ _ _ _ _ _ (g1 _ _ _ _) v0 t1 h0
 rw[s1]at k0;refine CD.intro k0 ?_;simp -implicitDefEqProofs only[go_sem,z06,ad0,List.take_length];refine hJ _ _ ?_;clear hJ k0;refine L.step fun J hJ=>?_
 simp -implicitDefEqProofs only[go_sem,z06,List.take_length,zdv,le1,dr1]
 cases h1:numR 1099511627776 t1 with
 |none =>
  have hW:wholeO (onlyR (z2g (c.toNat:Int)) mayR t0)=none:=by simp only[onlyR,z2g,h0,h1,Option.bind_some,Option.bind_none];rfl
  rw[hW];refine CD.intro (z9m (σ++[B19,.box (XC117 c (I (v0:Nat)) (UN 0) (UN 0) (.nils) (Bo false) (Fl 0) (Fl 0))]) (σ.length+1) t1 (by omega) _ _ _ _ _ _ _ _ _ _ _ _ _ _ _ _ _ _ (g1 _ _ _ _) h1) ?_
  simp -implicitDefEqProofs only[go_sem,z06,List.take_length];exact Fini.trim2 (σ':=σ) (ex:=[_,_]) (by simp -implicitDefEqProofs only[go_sem,resA,z01,rvA,oneOf]<;>rfl) rfl (Nat.le_refl _) (z0e _) hbel
 |some x1 =>
 obtain⟨v1,t2⟩:=x1;obtain⟨dr2,lo1,hi1⟩:=(ends_num _).drop (b:=b) (a:=(b.length-t1.length)) (by omega) (by rw[dr1];exact h1)
 have hlt1:=z1A (ends_num _) h1;have ad1:IntKind.i64.wrap (((b.length-t1.length:Nat):Int)+((t1.length-t2.length:Nat):Int))=((b.length-t2.length:Nat):Int):=by rw[wrapN (by omega) (by omega)];omega
 have le2:(((b.length-t2.length:Nat):Int)≤(b.length:Nat))=True:=eq_true (by omega)
 have k1:=z9n (σ++[B19,.box (XC117 c (I (v0:Nat)) (UN 0) (UN 0) (.nils) (Bo false) (Fl 0) (Fl 0))]) (σ.length+1) t1 (by omega) _ _ _ _ _ _ _ _ _ _ _ _ _ _ _ _ _ _ _ (g1 _ _ _ _) v1 t2 h1
 rw[s1]at k1;refine CD.intro k1 ?_;simp -implicitDefEqProofs only[go_sem,z06,ad1,List.take_length];refine hJ _ _ ?_;clear hJ k1;refine L.step fun J hJ=>?_
 simp -implicitDefEqProofs only[go_sem,z06,List.take_length,zdw,le2,dr2]
 cases h2:numR 1099511627776 t2 with
 |none =>
  have hW:wholeO (onlyR (z2g (c.toNat:Int)) mayR t0)=none:=by simp only[onlyR,z2g,h0,h1,h2,Option.bind_some,Option.bind_none];rfl
  rw[hW];refine CD.intro (z9o (σ++[B19,.box (XC117 c (I (v0:Nat)) (UN v1) (UN 0) (.nils) (Bo false) (Fl 0) (Fl 0))]) (σ.length+1) t2 (by omega) _ _ _ _ _ _ _ _ _ _ _ _ _ _ _ _ _ _ (g1 _ _ _ _) h2) ?_
  simp -implicitDefEqProofs only[go_sem,z06,List.take_length];exact Fini.trim2 (σ':=σ) (ex:=[_,_]) (by simp -implicitDefEqProofs only[go_sem,resA,z01,rvA,oneOf]<;>rfl) rfl (Nat.le_refl _) (z0e _) hbel
 |some x2 =>
 obtain⟨v2,t3⟩:=x2;obtain⟨dr3,lo2,hi2⟩:=(ends_num _).drop (b:=b) (a:=(b.length-t2.length)) (by omega) (by rw[dr2];exact h2)
 have hlt2:=z1A (ends_num _) h2;have ad2:IntKind.i64.wrap (((b.length-t2.length:Nat):Int)+((t2.length-t3.length:Nat):Int))=((b.length-t3.length:Nat):Int):=by rw[wrapN (by omega) (by omega)];omega
 have le3:(((b.length-t3.length:Nat):Int)≤(b.length:Nat))=True:=eq_true (by omega)
 have k2:=z9p (σ++[B19,.box (XC117 c (I (v0:Nat)) (UN v1) (UN 0) (.nils) (Bo false) (Fl 0) (Fl 0))]) (σ.length+1) t2 (by omega) _ _ _ _ _ _ _ _ _ _ _ _ _ _ _ _ _ _ _ (g1 _ _ _ _) v2 t3 h2
 rw[s1]at k2;refine CD.intro k2 ?_;simp -implicitDefEqProofs only[go_sem,z06,ad2,List.take_length];refine hJ _ _ ?_;clear hJ k2;refine L.step fun J hJ=>?_
 simp -implicitDefEqProofs only[go_sem,z06,List.take_length,zdx,le3,dr3]
 cases h3:listR t3 with
 |none =>
  have hW:wholeO (onlyR (z2g (c.toNat:Int)) mayR t0)=none:=by simp only[onlyR,z2g,h0,h1,h2,h3,Option.bind_some,Option.bind_none];rfl
  rw[hW];refine CD.intro (z6O (σ++[B19,.box (XC117 c (I (v0:Nat)) (UN v1) (UN v2) (.nils) (Bo false) (Fl 0) (Fl 0))]) (σ.length+1) t3 (by omega) _ _ _ _ _ _ _ _ _ _ _ _ _ _ _ _ _ _ (g1 _ _ _ _) h3) ?_
  simp -implicitDefEqProofs only[go_sem,z06,List.take_length];exact Fini.trim2 (σ':=σ) (ex:=[_,_]) (by simp -implicitDefEqProofs only[go_sem,resA,z01,rvA,oneOf]<;>rfl) rfl (Nat.le_refl _) (z0e _) hbel
 |some x3 =>
 obtain⟨v3,t4⟩:=x3;obtain⟨dr4,lo3,hi3⟩:=ends_list.drop (b:=b) (a:=(b.length-t3.length)) (by omega) (by rw[dr3];exact h3)
 have hlt3:=z1A ends_list h3;have ad3:IntKind.i64.wrap (((b.length-t3.length:Nat):Int)+((t3.length-t4.length:Nat):Int))=((b.length-t4.length:Nat):Int):=by rw[wrapN (by omega) (by omega)];omega
 have le4:(((b.length-t4.length:Nat):Int)≤(b.length:Nat))=True:=eq_true (by omega)
 have k3:=z6P (σ++[B19,.box (XC117 c (I (v0:Nat)) (UN v1) (UN v2) (.nils) (Bo false) (Fl 0) (Fl 0))]) (σ.length+1) t3 (by omega) _ _ _ _ _ _ _ _ _ _ _ _ _ _ _ _ _ _ _ (g1 _ _ _ _) v3 t4 h3
 rw[s1]at k3;refine CD.intro k3 ?_;simp -implicitDefEqProofs only[go_sem,z06,ad3,List.take_length];refine hJ _ _ ?_;clear hJ k3;refine L.step fun J hJ=>?_
 simp -implicitDefEqProofs only[go_sem,z06,List.take_length,zdy,le4,dr4]
 cases h4:bandR t4 with
 |none =>
  have hW:wholeO (onlyR (z2g (c.toNat:Int)) mayR t0)=none:=by simp only[onlyR,z2g,h0,h1,h2,h3,h4,Option.bind_some,Option.bind_none];rfl
  rw[hW];refine CD.intro (z9q (σ++[B19,.box (XC117 c (I (v0:Nat)) (UN v1) (UN v2) (mlV v3) (Bo false) (Fl 0) (Fl 0))]) (σ.length+1) t4 (by omega) _ _ _ _ _ _ _ _ _ _ _ _ _ _ _ _ (g1 _ _ _ _) h4) ?_
  simp -implicitDefEqProofs only[go_sem,z06,List.take_length];exact Fini.trim2 (σ':=σ) (ex:=[_,_]) (by simp -implicitDefEqProofs only[go_sem,resA,z01,rvA,oneOf]<;>rfl) rfl (Nat.le_refl _) (z0e _) hbel
 |some x4 =>
 obtain⟨v4,t5⟩:=x4;obtain⟨dr5,lo4,hi4⟩:=ends_band.drop (b:=b) (a:=(b.length-t4.length)) (by omega) (by rw[dr4];exact h4)
 have hlt4:=z1A ends_band h4;have ad4:IntKind.i64.wrap (((b.length-t4.length:Nat):Int)+((t4.length-t5.length:Nat):Int))=((b.length-t5.length:Nat):Int):=by rw[wrapN (by omega) (by omega)];omega
 have le5:(((b.length-t5.length:Nat):Int)≤(b.length:Nat))=True:=eq_true (by omega)
 have k4:=z9r (σ++[B19,.box (XC117 c (I (v0:Nat)) (UN v1) (UN v2) (mlV v3) (Bo false) (Fl 0) (Fl 0))]) (σ.length+1) t4 (by omega) _ _ _ _ _ _ _ _ _ _ _ _ _ _ _ _ _ _ _ (g1 _ _ _ _) v4 t5 h4
 rw[s1]at k4;refine CD.intro k4 ?_;simp -implicitDefEqProofs only[go_sem,z06,ad4,List.take_length];refine hJ _ _ ?_;clear hJ k4;refine L.step fun J hJ=>?_
 have hcl:onlyR (z2g (c.toNat:Int)) mayR t0=if mayR (mk117 (c.toNat:Int) (v0,v1,v2,v3,v4)) then some (mk117 (c.toNat:Int) (v0,v1,v2,v3,v4),t5) else none:=by simp only[onlyR,z2g,h0,h1,h2,h3,h4,Option.bind_some]
 rw[hcl];have hsub:Sub (.agg (XC117 c (I (v0:Nat)) (UN v1) (UN v2) (mlV v3) (Bo v4.1) (Fl v4.2.1) (Fl v4.2.2))) (reV (mk117 (c.toNat:Int) (v0,v1,v2,v3,v4))):=.agg (.cons (.refl _) <| .cons (.refl _) <| .cons (.refl _) <| .cons (.refl _) <| .cons (.refl _) <| .cons (.refl _) <| .cons (.refl _) <| .cons (.refl _) <| .cons (.refl _) <| .cons (.refl _) <| .cons (.refl _) <| .cons (.nils 3) <| .cons (.nils 3) <| .cons (.refl _) <| .cons (.refl _) <| .cons (.refl _) <| .cons (.nils 1) <| .cons (.nils 2) <| .cons (.refl _) <| .nil);have hsm:ReSm (mk117 (c.toNat:Int) (v0,v1,v2,v3,v4)):=⟨z1Q (listB_fits.bwd _ _ _ h3).1,z3o,(by intro x h;cases h)⟩
 have km:=(z1F (σ++[B19,.box (XC117 c (I (v0:Nat)) (UN v1) (UN v2) (mlV v3) (Bo v4.1) (Fl v4.2.1) (Fl v4.2.2))]) (mk117 (c.toNat:Int) (v0,v1,v2,v3,v4)) hsm).subA (.cons hsub .nil);by_cases ht:t5=[]
 · have hk0:t5.length=0:=by rw[ht];rfl
   have de:(((b.length-t5.length:Nat):Int) != ((b.length:Nat):Int))=false:=by
    rw[bne,show((b.length-t5.length:Nat):Int)=((b.length:Nat):Int) from by omega]
    simp
   have hbl2:Bel σ.length (.agg (XC117 c (I (v0:Nat)) (UN v1) (UN v2) (mlV v3) (Bo v4.1) (Fl v4.2.1) (Fl v4.2.2))):=.agg _ (fun i hi=>by
     have:∀y∈(XC117 c (I (v0:Nat)) (UN v1) (UN v2) (mlV v3) (Bo v4.1) (Fl v4.2.1) (Fl v4.2.2):List AV),Bel σ.length y:=by
      intro y hy;simp only[List.mem_cons,List.not_mem_nil,or_false]at hy;rcases hy with rfl|rfl|rfl|rfl|rfl|rfl|rfl|rfl|rfl|rfl|rfl|rfl|rfl|rfl|rfl|rfl|rfl|rfl|rfl
      all_goals first|exact .pl _|exact .nils|exact z0x _ _|exact z1h _ _|exact z0z _ _
     exact this _ (List.getElem_mem hi))
   simp -implicitDefEqProofs only[go_sem,List.take_length,de];refine CO.intro km ?_
   cases hm:mayR (mk117 (c.toNat:Int) (v0,v1,v2,v3,v4)) with
   |false =>
    simp -implicitDefEqProofs only[go_sem];exact Fini.trim2 (σ':=σ) (ex:=[_,_]) (by simp -implicitDefEqProofs only[go_sem,resA,z01,rvA,oneOf]<;>rfl) rfl (Nat.le_refl _) (z0e _) hbel
   |true =>
    have hW:wholeO (if true=true then some (mk117 (c.toNat:Int) (v0,v1,v2,v3,v4),t5) else none)=some (mk117 (c.toNat:Int) (v0,v1,v2,v3,v4)):=by rw[ht];rfl
    rw[hW];simp -implicitDefEqProofs only[go_sem];exact Fini.trim2 (σ':=σ) (ex:=[_,_]) (by simp -implicitDefEqProofs only[go_sem,resA,z01,rvA,oneOf]<;>rfl) rfl (Nat.le_refl _) (z1k hbl2) hbel
 · have hkp:0<t5.length:=by cases t5 with
    |nil=>exact absurd rfl ht
    |cons _ _=>simp
   have de:(((b.length-t5.length:Nat):Int) != ((b.length:Nat):Int))=true:=by
    rw[bne,neI (show((b.length-t5.length:Nat):Int)≠((b.length:Nat):Int) by omega)];rfl
   have hW:wholeO (if mayR (mk117 (c.toNat:Int) (v0,v1,v2,v3,v4))=true then some (mk117 (c.toNat:Int) (v0,v1,v2,v3,v4),t5) else none)=none:=by
    split
    · cases ht2:t5 with
      |nil=>exact absurd ht2 ht
      |cons _ _=>rfl
    · rfl
   rw[hW];simp -implicitDefEqProofs only[go_sem,List.take_length,de];exact Fini.trim2 (σ':=σ) (ex:=[_,_]) (by simp -implicitDefEqProofs only[go_sem,resA,z01,rvA,oneOf]<;>rfl) rfl (Nat.le_refl _) (z0e _) hbel
end
section
variable (σ:St)
theorem z7M (b:Byt) (c:UInt8) (t0:Byt) (hbt:b=c::t0) (hd:dOf (c.toNat:Int)=⟨#[]⟩) (hb:b.length≤50000):Ans Tryz.prog 91 [.sl 1 (byv b)] σ (z0Y none) σ:=by
 have hbl:b.length=t0.length+1:=by rw[hbt];rfl
 have dn:(((b.length:Nat):Int)==0)=false:=neI (by omega)
 have hpos:((0:Int)<(b.length:Nat))=True:=eq_true (by omega)
 have hx:(byv b)[0]?=some (bc c):=by rw[hbt];rfl
 have z0:Int.toNat 0=0:=rfl;have wc:IntKind.i64.wrap (c.toNat:Int)=(c.toNat:Int):=wrapI (by have:=c.toNat_lt;omega)
 have kf:=z0l (σ++[B19,.box [Sx ⟨#[]⟩,I (c.toNat:Nat),I 0,Sx ⟨#[]⟩,UN 0,UN 0,I 0,.nils,Bo false,Fl 0,Fl 0,.nils,.nils,Bo false,Fl 0,Fl 0,.nils,.nils,Fl 0]]) (c.toNat:Int);rw[hd]at kf;have ze:(((⟨#[]⟩:ByteArray).size:Nat):Int)=0:=rfl;have km:=z7L (σ++[B19,.box [Sx ⟨#[]⟩,I (c.toNat:Nat),I 0,Sx ⟨#[]⟩,UN 0,UN 0,I 0,.nils,Bo false,Fl 0,Fl 0,.nils,.nils,Bo false,Fl 0,Fl 0,.nils,.nils,Fl 0]]) (x0 (c.toNat:Int)) hd;have hsub:Sub (.agg [Sx ⟨#[]⟩,I (c.toNat:Nat),I 0,Sx ⟨#[]⟩,UN 0,UN 0,I 0,.nils,Bo false,Fl 0,Fl 0,.nils,.nils,Bo false,Fl 0,Fl 0,.nils,.nils,Fl 0]) (reV (x0 (c.toNat:Int))):=.agg (.cons (.refl _) (.cons (.refl _) (.cons (.refl _) (.cons (.refl _) (.cons (.refl _) (.cons (.refl _) (.cons (.refl _) (.cons (.nils 3) (.cons (.refl _) (.cons (.refl _) (.cons (.refl _) (.cons (.nils 3) (.cons (.nils 3) (.cons (.refl _) (.cons (.refl _) (.cons (.refl _) (.cons (.nils 1) (.cons (.nils 2) (.cons (.refl _) .nil)))))))))))))))))));have km:=km.subA (.cons hsub .nil);refine Ans.subR ?_ z0g;by_cases h1:b.length=1
 · have de:((1:Int) != ((b.length:Nat):Int))=false:=by rw[h1];rfl
   refine Ans.of_run' t91 (fun hbel _=>?_)
   simp -implicitDefEqProofs only[c91,r91,go_sem,z02,dn,hpos,hx,bc,wc,z0,List.append_assoc,List.length_append,g0,g1,s0,s1];refine CO.intro kf ?_;simp -implicitDefEqProofs only[go_sem];refine L.step fun J hJ=>?_
   simp -implicitDefEqProofs only[go_sem,ze,z02,de];refine CO.intro km ?_;simp -implicitDefEqProofs only[go_sem,g0,g1,s0,s1];exact Fini.trim2 (σ':=σ) (ex:=[_,_]) (by simp -implicitDefEqProofs only[go_sem,resA,z01,rvA,oneOf,g0]<;>rfl) rfl (Nat.le_refl _) (z0e _) hbel
 · have de:((1:Int) != ((b.length:Nat):Int))=true:=by rw[bne,neI (show(1:Int)≠((b.length:Nat):Int) by omega)];rfl
   refine Ans.of_run' t91 (fun hbel _=>?_)
   simp -implicitDefEqProofs only[c91,r91,go_sem,z02,dn,hpos,hx,bc,wc,z0,List.append_assoc,List.length_append,g0,g1,s0,s1];refine CO.intro kf ?_;simp -implicitDefEqProofs only[go_sem];refine L.step fun J hJ=>?_
   simp -implicitDefEqProofs only[go_sem,ze,z02,de,g0,g1,s0,s1];exact Fini.trim2 (σ':=σ) (ex:=[_,_]) (by simp -implicitDefEqProofs only[go_sem,resA,z01,rvA,oneOf,g0]<;>rfl) rfl (Nat.le_refl _) (z0e _) hbel
theorem z6S (b:Byt) (hb:b.length≤50000):Ans Tryz.prog 91 [.sl 1 (byv b)] σ (z0Y (wholeO (bodyR b))) σ:=by
 obtain hbt|⟨c,t,hbt⟩:b=[]∨∃c t,b=c::t:=by
  cases b with
  |nil=>exact .inl rfl
  |cons c t=>exact .inr ⟨c,t,rfl⟩
 · have hW:wholeO (bodyR b)=none:=by rw[hbt];rfl
   have dn:(((b.length:Nat):Int)==0)=true:=by rw[hbt];rfl
   rw[hW];refine Ans.subR ?_ z0g;refine Ans.of_run' t91 (fun hbel _=>?_)
   simp -implicitDefEqProofs only[c91,r91,go_sem,z02,dn,g0,s0];exact Fini.trim2 (σ':=σ) (ex:=[_]) (by simp -implicitDefEqProofs only[go_sem,resA,z01,rvA,oneOf,g0]<;>rfl) rfl (Nat.le_refl _) (z0e _) hbel
 · have hB:bodyR b=onlyR (clR (fOf (c.toNat:Int)).1 (c.toNat:Int)) mayR t:=by rw[hbt];rfl
   rw[hB];have hlt:=c.toNat_lt;generalize hop:(c.toNat:Int)=op at *;rcases ops17 op with h|h|h|h|h|h|h|h|h|h|h|h|h|h|h|h|h|h
   · have e:(fOf op).1=0:=by rw[h];rfl
     rw[e,clD_0];have:=z6R σ b hb c t hbt (by rw[hop,h];rfl)
     rw[hop]at this;exact this
   · have e:(fOf op).1=1:=by rw[h];rfl
     rw[e,clD_1];have:=z5E σ b hb c t hbt (by rw[hop,h];rfl)
     rw[hop]at this;exact this
   · have e:(fOf op).1=3:=by rw[h];rfl
     rw[e,clD_3];have:=zbW σ b hb c t hbt (by rw[hop,h];rfl)
     rw[hop]at this;exact this
   · have e:(fOf op).1=3:=by rw[h];rfl
     rw[e,clD_3];have:=zbW σ b hb c t hbt (by rw[hop,h];rfl)
     rw[hop]at this;exact this
   · have e:(fOf op).1=116:=by rw[h];rfl
     rw[e,zeY];have:=zbY σ b hb c t hbt (by rw[hop,h];rfl)
     rw[hop]at this;exact this
   · have e:(fOf op).1=117:=by rw[h];rfl
     rw[e,zeZ];have:=zc4 σ b hb c t hbt (by rw[hop,h];rfl)
     rw[hop]at this;exact this
   · have e:(fOf op).1=1:=by rw[h];rfl
     rw[e,clD_1];have:=z5E σ b hb c t hbt (by rw[hop,h];rfl)
     rw[hop]at this;exact this
   · have e:(fOf op).1=8:=by rw[h];rfl
     rw[e,clD_8];have:=zf8 σ b hb c t hbt (by rw[hop,h];rfl)
     rw[hop]at this;exact this
   · have e:(fOf op).1=128:=by rw[h];rfl
     rw[e,zf0];have:=zc0 σ b hb c t hbt (by rw[hop,h];rfl)
     rw[hop]at this;exact this
   · have e:(fOf op).1=1:=by rw[h];rfl
     rw[e,clD_1];have:=z5E σ b hb c t hbt (by rw[hop,h];rfl)
     rw[hop]at this;exact this
   · have e:(fOf op).1=768:=by rw[h];rfl
     rw[e,zf1];have:=zc2 σ b hb c t hbt (by rw[hop,h];rfl)
     rw[hop]at this;exact this
   · have e:(fOf op).1=1:=by rw[h];rfl
     rw[e,clD_1];have:=z5E σ b hb c t hbt (by rw[hop,h];rfl)
     rw[hop]at this;exact this
   · have e:(fOf op).1=16:=by rw[h];rfl
     rw[e,zgb];have:=zdD σ b hb c t hbt (by rw[hop,h];rfl)
     rw[hop]at this;exact this
   · have e:(fOf op).1=0:=by rw[h];rfl
     rw[e,clD_0];have:=z6R σ b hb c t hbt (by rw[hop,h];rfl)
     rw[hop]at this;exact this
   · have e:(fOf op).1=1:=by rw[h];rfl
     rw[e,clD_1];have:=z5E σ b hb c t hbt (by rw[hop,h];rfl)
     rw[hop]at this;exact this
   · have e:(fOf op).1=0:=by rw[h];rfl
     rw[e,clD_0];have:=z6R σ b hb c t hbt (by rw[hop,h];rfl)
     rw[hop]at this;exact this
   · have e:(fOf op).1=0:=by rw[h];rfl
     rw[e,clD_0];have:=z6R σ b hb c t hbt (by rw[hop,h];rfl)
     rw[hop]at this;exact this
   · have hW:wholeO (onlyR (clR (fOf op).1 op) mayR t)=none:=by
      rw[z7I h]
      have:onlyR (clR 0 op) mayR t=none:=by
       show(if mayR (x0 op) then some (x0 op,t) else none)=none
       rw[if_neg];intro hm;have:=zbK hm;have e:(x0 op).op=op:=rfl;rw[e,z7I h]at this;cases this
      rw[this];rfl
     rw[hW];exact z7M σ b c t hbt (by rw[hop];exact zbO h) hb
end
end Go.Proofs.YteakobbdgehlgaaGreatDoor
