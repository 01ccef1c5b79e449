/- Requests out of bytes: what is read, step by step. No condition. -/
import Derived.Test.YteakobbdgehlgaaGreatDoorKRq3D
import Derived.Test.YteakobbdgehlgaaGreatDoorKShB1D
import Derived.Test.YteakobbdgehlgaaGreatDoorKShA1D
import Derived.Test.YteakobbdgehlgaaGreatDoorKXMr2D
set_option linter.unusedSimpArgs false
set_option linter.unusedVariables false
set_option linter.unusedSectionVars false
namespace Go.Proofs.YteakobbdgehlgaaGreatDoor
open Go Go.Ab Go.Cod
set_option maxRecDepth 100000
def x0 (op:Int):ReM:=⟨⟨#[]⟩,op,0,⟨#[]⟩,0,0,0,[],false,0,0,noRu,[],0⟩
def mk116 (op:Int) (p:Nat×Nat×List Mtr×Bnd):ReM:={ x0 op with st:=p.1,en:=p.2.1,mt:=p.2.2.1,any:=p.2.2.2.1,lo:=p.2.2.2.2.1,hi:=p.2.2.2.2.2 }
def mk117 (op:Int) (p:Nat×Nat×Nat×List Mtr×Bnd):ReM:={ mk116 op p.2 with id:=(p.1:Nat) }
def clR (f op:Int):Rd ReM :=
 if f=1 then z0U (numR 2147483647) fun n=>{ x0 op with id:=(n:Nat) }
 else if f=3 then z0U (seqR (numR 2147483647) (textR 16)) fun p=>{ x0 op with id:=(p.1:Nat),txt:=p.2 }
 else if f=116 then z0U (seqR (numR 1099511627776) (seqR (numR 1099511627776) (seqR listR bandR))) (mk116 op)
 else if f=117 then z0U (seqR (numR 2147483647) (seqR (numR 1099511627776) (seqR (numR 1099511627776) (seqR listR bandR)))) (mk117 op)
 else if f=8 then z0U byteR fun c=>{ x0 op with sta:=(c.toNat:Nat) }
 else if f=128 then z0U ruR fun r=>{ x0 op with ru:=r }
 else if f=768 then z0U (seqR setR valR) fun p=>{ x0 op with ls:=p.1,val:=p.2 }
 else if f=16 then z0U listR fun M=>{ x0 op with mt:=M }
 else fun b=>some (x0 op,b)
def clS (f op:Int) (b:Byt):Nat×Bool→ReM×(Nat×Bool) :=
 if f=1 then z1X (runR (numR 2147483647) 0 b) fun n=>{ x0 op with id:=(n:Nat) }
 else if f=3 then z1X (seqSt (runR (numR 2147483647) 0 b) (runR (textR 16) ⟨#[]⟩ b)) fun p=>{ x0 op with id:=(p.1:Nat),txt:=p.2 }
 else if f=116 then z1X (seqSt (runR (numR 1099511627776) 0 b) (seqSt (runR (numR 1099511627776) 0 b) (seqSt (runR listR [] b) (runR bandR (false,0,0) b)))) (mk116 op)
 else if f=117 then z1X (seqSt (runR (numR 2147483647) 0 b) (seqSt (runR (numR 1099511627776) 0 b) (seqSt (runR (numR 1099511627776) 0 b) (seqSt (runR listR [] b) (runR bandR (false,0,0) b))))) (mk117 op)
 else if f=8 then z1X (runR byteR 0 b) fun c=>{ x0 op with sta:=(c.toNat:Nat) }
 else if f=128 then z1X (runR ruR noRu b) fun r=>{ x0 op with ru:=r }
 else if f=768 then z1X (seqSt (runR setR [] b) (valS b)) fun p=>{ x0 op with ls:=p.1,val:=p.2 }
 else if f=16 then z1X (runR listR [] b) fun M=>{ x0 op with mt:=M }
 else fun q=>(x0 op,q)
theorem zad {α:Type} (b:Byt) (x:α):StepsR b (fun b=>some (x,b)) (fun q=>(x,q)) where
 some_ a y t ha hr:=by
  simp only[Option.some.injEq,Prod.mk.injEq]at hr;obtain⟨rfl,rfl⟩:=hr;simp only[List.length_drop,Prod.mk.injEq,true_and];exact⟨by omega,trivial⟩
 none_ a ha hr:=by cases hr
 bad a:=rfl
 inb q hq:=hq
theorem zbI {α:Type} (x:α):EndsR (fun b=>some (x,b)):=fun b y t h=>by
 simp only[Option.some.injEq,Prod.mk.injEq]at h;exact⟨[],by rw[h.2];rfl⟩
theorem z3x (f op:Int) (b:Byt):StepsR b (clR f op) (clS f op b):=by
 unfold clR clS
 repeat' split
 · exact z0W (z0h _ _ _) _
 · exact z0W (z0u (z0h _ _ _) (z0h _ _ _) (ends_num _)) _
 · exact z0W (z0u (z0h _ _ _) (z0u (z0h _ _ _) (z0u (z0h _ _ _) (z0h _ _ _) ends_list) (ends_num _)) (ends_num _)) _
 · exact z0W (z0u (z0h _ _ _) (z0u (z0h _ _ _) (z0u (z0h _ _ _) (z0u (z0h _ _ _) (z0h _ _ _) ends_list) (ends_num _)) (ends_num _)) (ends_num _)) _
 · exact z0W (z0h _ _ _) _
 · exact z0W (z0h _ _ _) _
 · exact z0W (z0u (z0h _ _ _) (z0D b) ends_set) _
 · exact z0W (z0h _ _ _) _
 · exact zad b _
theorem zeU (f op:Int):EndsR (clR f op):=by
 unfold clR
 repeat' split
 · exact z1p (ends_num _) _
 · exact z1p (z1w (ends_num _) (z0I _)) _
 · exact z1p (z1w (ends_num _) (z1w (ends_num _) (z1w ends_list ends_band))) _
 · exact z1p (z1w (ends_num _) (z1w (ends_num _) (z1w (ends_num _) (z1w ends_list ends_band)))) _
 · exact z1p ends_byte _
 · exact z1p ends_ru _
 · exact z1p (z1w ends_set ends_val) _
 · exact z1p ends_list _
 · exact zbI _
def bodyR:Rd ReM
 |[]=>none
 |c::t=>onlyR (clR (fOf (c.toNat:Int)).1 (c.toNat:Int)) mayR t
def bodyS (b:Byt) (q:Nat×Bool):ReM×(Nat×Bool) :=
 z0L (fun q1=>clS (fOf ((runR byteR 0 b q).1.toNat:Int)).1 ((runR byteR 0 b q).1.toNat:Int) b (took q1 0 (fOf ((runR byteR 0 b q).1.toNat:Int)).2)) mayR (runR byteR 0 b q).2
theorem z7J (q:Nat×Bool):took q 0 true=q:=by
 obtain⟨a,b⟩:=q;cases b<;>rfl
theorem zbJ:EndsR bodyR:=fun b x t h=>by
 cases b with
 |nil=>cases h
 |cons c u =>
  obtain⟨w,hw⟩:=z7h (zeU _ _) mayR _ _ _ h;exact⟨c::w,by rw[hw];rfl⟩
theorem zbK {x:ReM} (h:mayR x=true):(fOf x.op).2=true:=by
 unfold mayR at h;simp only[Bool.and_eq_true]at h;exact h.1
theorem zg0 {f op:Int} {b:Byt} {x:ReM} {t:Byt} (h:clR f op b=some (x,t)):x.op=op:=by
 unfold clR at h
 repeat' split at h
 all_goals first
  |(simp only[Option.some.injEq,Prod.mk.injEq]at h;rw[←h.1];rfl)
  |(simp only[z0U,Option.map_eq_some_iff]at h;obtain⟨p,_,hp⟩:=h;simp only[Prod.mk.injEq]at hp;rw[←hp.1];rfl)
theorem zae (b:Byt):StepsR b bodyR (bodyS b) where
 some_ a x t ha hr:=by
  cases hd:b.drop a with
  |nil=>rw[hd]at hr;cases hr
  |cons c u =>
   have h1:byteR (b.drop a)=some (c,u):=by rw[hd];rfl
   obtain⟨e1,e2,e3⟩:=ends_byte.drop ha h1;rw[hd]at hr;have hr:onlyR (clR (fOf (c.toNat:Int)).1 (c.toNat:Int)) mayR u=some (x,t):=hr
   have hop:(fOf (c.toNat:Int)).2=true:=by
    simp only[onlyR]at hr
    cases h3:clR (fOf (c.toNat:Int)).1 (c.toNat:Int) u with
    |none=>simp[h3]at hr
    |some y =>
     simp only[h3,Option.bind_some]at hr;split at hr
     · rename_i hm;rw[←zg0 h3];exact zbK hm
     · cases hr
   unfold bodyS;simp only[z0H h1,hop,z7J];exact(z1d (z3x _ _ b) mayR).some_ (b.length-u.length) x t (by omega) (by rw[e1];exact hr)
 none_ a ha hr:=by
  cases hd:b.drop a with
  |nil =>
   have h1:byteR (b.drop a)=none:=by rw[hd];rfl
   unfold bodyS;simp only[z0V h1];exact z30 (z1d (z3x _ _ b) mayR).bad _ (by cases(fOf (((0:UInt8).toNat:Nat):Int)).2<;>rfl)
  |cons c u =>
   have h1:byteR (b.drop a)=some (c,u):=by rw[hd];rfl
   obtain⟨e1,e2,e3⟩:=ends_byte.drop ha h1;rw[hd]at hr;have hr:onlyR (clR (fOf (c.toNat:Int)).1 (c.toNat:Int)) mayR u=none:=hr;unfold bodyS;simp only[z0H h1]
   cases hop:(fOf (c.toNat:Int)).2 with
   |true =>
    simp only[z7J];exact(z1d (z3x _ _ b) mayR).none_ (b.length-u.length) (by omega) (by rw[e1];exact hr)
   |false=>exact z30 (z1d (z3x _ _ b) mayR).bad _ rfl
 bad a:=by
  unfold bodyS;simp only[z0K];exact z30 (z1d (z3x _ _ b) mayR).bad _ (by cases(fOf (((0:UInt8).toNat:Nat):Int)).2<;>rfl)
 inb q hq:=by
  have h1:=z0f byteR 0 b q hq;unfold bodyS;exact(z1d (z3x _ _ b) mayR).inb _ (z1v b _ _ h1)
abbrev XC0 (c:UInt8):List AV:=[Sx ⟨#[]⟩,I (c.toNat:Nat),I 0,Sx ⟨#[]⟩,UN 0,UN 0,I 0,.nils,Bo false,Fl 0,Fl 0,.nils,.nils,Bo false,Fl 0,Fl 0,.nils,.nils,Fl 0]
abbrev XC1 (c:UInt8) (a2:AV):List AV:=[Sx ⟨#[]⟩,I (c.toNat:Nat),a2,Sx ⟨#[]⟩,UN 0,UN 0,I 0,.nils,Bo false,Fl 0,Fl 0,.nils,.nils,Bo false,Fl 0,Fl 0,.nils,.nils,Fl 0]
abbrev XC3 (c:UInt8) (a2 a3:AV):List AV:=[Sx ⟨#[]⟩,I (c.toNat:Nat),a2,a3,UN 0,UN 0,I 0,.nils,Bo false,Fl 0,Fl 0,.nils,.nils,Bo false,Fl 0,Fl 0,.nils,.nils,Fl 0]
abbrev XC116 (c:UInt8) (a4 a5 a7 a8 a9 a10:AV):List AV:=[Sx ⟨#[]⟩,I (c.toNat:Nat),I 0,Sx ⟨#[]⟩,a4,a5,I 0,a7,a8,a9,a10,.nils,.nils,Bo false,Fl 0,Fl 0,.nils,.nils,Fl 0]
abbrev XC117 (c:UInt8) (a2 a4 a5 a7 a8 a9 a10:AV):List AV:=[Sx ⟨#[]⟩,I (c.toNat:Nat),a2,Sx ⟨#[]⟩,a4,a5,I 0,a7,a8,a9,a10,.nils,.nils,Bo false,Fl 0,Fl 0,.nils,.nils,Fl 0]
abbrev XC8 (c:UInt8) (a6:AV):List AV:=[Sx ⟨#[]⟩,I (c.toNat:Nat),I 0,Sx ⟨#[]⟩,UN 0,UN 0,a6,.nils,Bo false,Fl 0,Fl 0,.nils,.nils,Bo false,Fl 0,Fl 0,.nils,.nils,Fl 0]
abbrev XC128 (c:UInt8) (a11 a12 a13 a14 a15 a16:AV):List AV:=[Sx ⟨#[]⟩,I (c.toNat:Nat),I 0,Sx ⟨#[]⟩,UN 0,UN 0,I 0,.nils,Bo false,Fl 0,Fl 0,a11,a12,a13,a14,a15,a16,.nils,Fl 0]
abbrev XC768 (c:UInt8) (a17 a18:AV):List AV:=[Sx ⟨#[]⟩,I (c.toNat:Nat),I 0,Sx ⟨#[]⟩,UN 0,UN 0,I 0,.nils,Bo false,Fl 0,Fl 0,.nils,.nils,Bo false,Fl 0,Fl 0,.nils,a17,a18]
abbrev XC16 (c:UInt8) (a7:AV):List AV:=[Sx ⟨#[]⟩,I (c.toNat:Nat),I 0,Sx ⟨#[]⟩,UN 0,UN 0,I 0,a7,Bo false,Fl 0,Fl 0,.nils,.nils,Bo false,Fl 0,Fl 0,.nils,.nils,Fl 0]
abbrev B19:Ob:=.box [Sx ⟨#[]⟩,I 0,I 0,Sx ⟨#[]⟩,UN 0,UN 0,I 0,.nils,Bo false,Fl 0,Fl 0,.nils,.nils,Bo false,Fl 0,Fl 0,.nils,.nils,Fl 0]
theorem ap4 {α:Type}:(∀a b c:List α,a++b++c=a++(b++c))∧(∀a b:List α,(a++b).length=a.length+b.length)∧(∀(x:α) a b,(x::a)++b=x::(a++b))∧∀a:List α,[]++a=a :=
 ⟨List.append_assoc,fun _ _=>List.length_append,fun _ _ _=>rfl,fun _=>rfl⟩
theorem rd_facts (A:Nat×Bool→St) (n p:Nat) (b:Byt) (hn:∀q,(A q).length=n) (hg:∀q,(A q)[p]?=some (rob b q)) (hs:∀q q',(A q).set p (rob b q')=A q') (q:Nat×Bool) :
  (∀q (ex:St),(A q++ex)[p]?=some (rob b q))∧(∀q q' (ex:St),(A q++ex).set p (rob b q')=A q'++ex) ∧
  (∀q (x:Ob) (ex:St),(A q++x::ex)[n]?=some x)∧(∀q (x y:Ob) (ex:St),(A q++x::y::ex)[n+1]?=some y) ∧
  (∀q (x u:Ob) (ex:St),(A q++x::ex).set n u=A q++u::ex)∧∀q (x y u:Ob) (ex:St),(A q++x::y::ex).set (n+1) u=A q++x::u::ex:=by
 have hp:p<n:=by have:=(List.getElem?_eq_some_iff.1 (hg q)).1;rw[hn]at this;exact this
 exact⟨fun q ex=>by rw[List.getElem?_append_left (by rw[hn];exact hp)];exact hg q,fun q q' ex=>by rw[List.set_append_left _ _ (by rw[hn];exact hp),hs],
  fun q x ex=>by rw[←hn q];exact g0 _ _ _,fun q x y ex=>by rw[←hn q];exact g1 _ _ _ _,
  fun q x u ex=>by rw[←hn q];exact s0 _ _ _ _,fun q x y u ex=>by rw[←hn q];exact s1 _ _ _ _ _⟩
theorem z3d (b:Byt) (q:Nat×Bool) {n:Nat}:∀c∈([.sl 1 (byv b),.pl (.int .i64 q.1),Bo q.2]:List AV),Bel n c:=by
 intro c hc;simp only[List.mem_cons,List.not_mem_nil,or_false]at hc;rcases hc with rfl|rfl|rfl
 · exact z1P _ _
 · exact .pl _
 · exact .pl _
section
variable (A:Nat×Bool→St) (n p:Nat) (b:Byt) (hn:∀q,(A q).length=n) (hg:∀q,(A q)[p]?=some (rob b q)) (hs:∀q q',(A q).set p (rob b q')=A q') (hb:b.length≤50000)
include hn hg hs hb
set_option maxHeartbeats 8000000 in
theorem zg1 (q:Nat×Bool) (hq:Inb b q) (c:UInt8) (q1:Nat×Bool) (hc:runR byteR 0 b q=(c,q1)) (ok:Bool) (hf:fOf (c.toNat:Int)=(0,ok)) :
  Ans Tryz.prog 102 [.ptr p 0] (A q) (reV (bodyS b q).1) (A (bodyS b q).2):=by
 obtain⟨hgA,hsA,gs⟩:=rd_facts A n p b hn hg hs q;have k0:=z1f (A q++[B19]) p b q (hgA _ _) hq hb;have hin1:=z0f byteR 0 b q hq
 have hbS:bodyS b q=z0L (fun q1=>clS 0 (c.toNat:Int) b (took q1 0 ok)) mayR q1:=by
  unfold bodyS;rw[hc];simp only[hf]
 rw[hc]at k0 hin1;rw[hbS];simp only at k0 hin1;rw[hsA]at k0;have k1:=z1q (A q1++[B19,.box (XC0 c)]) (c.toNat:Int);rw[hf]at k1;have k2:=z0b (A q1++[B19,.box (XC0 c)]) p b q1 ok (hgA _ _) hin1 hb;rw[hsA]at k2;have hin2:=z1v b q1 ok hin1;unfold z0L;simp only;generalize took q1 0 ok=q2 at k2 hin2⊢;have wc:IntKind.i64.wrap (c.toNat:Int)=(c.toNat:Int):=wrapI (by have:=c.toNat_lt;omega)
 have hcl:clS 0 (c.toNat:Int) b q2=(x0 (c.toNat:Int),q2):=rfl;rw[hcl];simp only;have hsub:Sub (.agg (XC0 c)) (reV (x0 (c.toNat:Int))):=.agg (.cons (.refl _) <| .cons (.refl _) <| .cons (.refl _) <| .cons (.refl _) <| .cons (.refl _) <| .cons (.refl _) <| .cons (.refl _) <| .cons (.nils 3) <| .cons (.refl _) <| .cons (.refl _) <| .cons (.refl _) <| .cons (.nils 3) <| .cons (.nils 3) <| .cons (.refl _) <| .cons (.refl _) <| .cons (.refl _) <| .cons (.nils 1) <| .cons (.nils 2) <| .cons (.refl _) <| .nil);have km:=(z2l (A q2++[B19,.box (XC0 c)]) (x0 (c.toNat:Int))).subA (.cons hsub .nil);have ke:=z0b (A q2++[B19,.box (XC0 c)]) p b q2 (mayR (x0 (c.toNat:Int))) (hgA _ _) hin2 hb;rw[hsA]at ke;generalize mayR (x0 (c.toNat:Int))=okm at km ke⊢;generalize took q2 0 okm=qe at ke⊢;refine Ans.subR ?_ hsub;refine Ans.of_run' t102 (fun hbel _=>?_)
 simp -implicitDefEqProofs only[c102,r102,go_sem,hgA,hsA,gs,hn,ap4];refine CO.intro k0 ?_;simp -implicitDefEqProofs only[go_sem,bc,wc,hgA,hsA,gs,hn,ap4];refine CO.intro k1 ?_;simp -implicitDefEqProofs only[go_sem];refine CO.intro k2 ?_;simp -implicitDefEqProofs only[go_sem,bc,hgA,hsA,gs,hn,ap4];refine CO.intro km ?_;simp -implicitDefEqProofs only[go_sem];refine CO.intro ke ?_;simp -implicitDefEqProofs only[go_sem,hgA,hsA,gs,hn,ap4]
 have hbl:Bel (A qe).length (.agg (XC0 c)):=.agg _ (fun i hi=>by
  have:∀y∈(XC0 c:List AV),Bel (A qe).length y:=by
   intro y hy;simp only[List.mem_cons,List.not_mem_nil,or_false]at hy;rcases hy with rfl|rfl|rfl|rfl|rfl|rfl|rfl|rfl|rfl|rfl|rfl|rfl|rfl|rfl|rfl|rfl|rfl|rfl|rfl
   all_goals first|exact .pl _|exact .nils|exact z0x _ _|exact z1h _ _|exact z0z _ _
  exact this _ (List.getElem_mem hi))
 exact Fini.trim2 (σ':=A qe) (ex:=[_,_]) (by simp -implicitDefEqProofs only[go_sem,resA,z01,rvA,oneOf,gs]<;>rfl) rfl (Nat.le_of_eq (by simp only[hn])) hbl (fun o ho=>by
  rw[←hs q qe]at ho;rw[hn];rw[hn]at hbel
  exact z21 (o:=rob b qe) hbel (z3d _ _) o ho)
set_option maxHeartbeats 8000000 in
theorem zg2 (q:Nat×Bool) (hq:Inb b q) (c:UInt8) (q1:Nat×Bool) (hc:runR byteR 0 b q=(c,q1)) (ok:Bool) (hf:fOf (c.toNat:Int)=(1,ok)) :
  Ans Tryz.prog 102 [.ptr p 0] (A q) (reV (bodyS b q).1) (A (bodyS b q).2):=by
 obtain⟨hgA,hsA,gs⟩:=rd_facts A n p b hn hg hs q;have k0:=z1f (A q++[B19]) p b q (hgA _ _) hq hb;have hin1:=z0f byteR 0 b q hq
 have hbS:bodyS b q=z0L (fun q1=>clS 1 (c.toNat:Int) b (took q1 0 ok)) mayR q1:=by
  unfold bodyS;rw[hc];simp only[hf]
 rw[hc]at k0 hin1;rw[hbS];simp only at k0 hin1;rw[hsA]at k0;have k1:=z1q (A q1++[B19,.box (XC1 c (I 0))]) (c.toNat:Int);rw[hf]at k1;have k2:=z0b (A q1++[B19,.box (XC1 c (I 0))]) p b q1 ok (hgA _ _) hin1 hb;rw[hsA]at k2;have hin2:=z1v b q1 ok hin1;unfold z0L;simp only;generalize took q1 0 ok=q2 at k2 hin2⊢;have wc:IntKind.i64.wrap (c.toNat:Int)=(c.toNat:Int):=wrapI (by have:=c.toNat_lt;omega)
 have hcl:clS 1 (c.toNat:Int) b q2=({ x0 (c.toNat:Int) with id:=(((runR (numR 2147483647) 0 b q2).1:Nat):Int) },(runR (numR 2147483647) 0 b q2).2):=rfl
 rw[hcl];simp only;have k3:=z22 (A q2++[B19,.box (XC1 c (I 0))]) p b q2 2147483647 (by decide) (hgA _ _) hin2 hb
 rw[hsA]at k3;have hin3:=z0f (numR 2147483647) 0 b q2 hin2;have le0:=z2x (most:=2147483647) b q2;generalize runR (numR 2147483647) 0 b q2=w0 at k3 hin3 le0⊢;obtain⟨v0,q3⟩:=w0;simp only at k3 hin3 le0⊢;have wv0:IntKind.i64.wrap (v0:Int)=(v0:Int):=wrapI (by omega)
 have hsub:Sub (.agg (XC1 c (I (v0:Nat)))) (reV ({ x0 (c.toNat:Int) with id:=((v0:Nat):Int) })):=.agg (.cons (.refl _) <| .cons (.refl _) <| .cons (.refl _) <| .cons (.refl _) <| .cons (.refl _) <| .cons (.refl _) <| .cons (.refl _) <| .cons (.nils 3) <| .cons (.refl _) <| .cons (.refl _) <| .cons (.refl _) <| .cons (.nils 3) <| .cons (.nils 3) <| .cons (.refl _) <| .cons (.refl _) <| .cons (.refl _) <| .cons (.nils 1) <| .cons (.nils 2) <| .cons (.refl _) <| .nil)
 have km:=(z2l (A q3++[B19,.box (XC1 c (I (v0:Nat)))]) ({ x0 (c.toNat:Int) with id:=((v0:Nat):Int) })).subA (.cons hsub .nil)
 have ke:=z0b (A q3++[B19,.box (XC1 c (I (v0:Nat)))]) p b q3 (mayR ({ x0 (c.toNat:Int) with id:=((v0:Nat):Int) })) (hgA _ _) hin3 hb
 rw[hsA]at ke;generalize mayR ({ x0 (c.toNat:Int) with id:=((v0:Nat):Int) })=okm at km ke⊢
 generalize took q3 0 okm=qe at ke⊢;refine Ans.subR ?_ hsub;refine Ans.of_run' t102 (fun hbel _=>?_)
 simp -implicitDefEqProofs only[c102,r102,go_sem,hgA,hsA,gs,hn,ap4];refine CO.intro k0 ?_;simp -implicitDefEqProofs only[go_sem,bc,wc,hgA,hsA,gs,hn,ap4];refine CO.intro k1 ?_;simp -implicitDefEqProofs only[go_sem];refine CO.intro k2 ?_;simp -implicitDefEqProofs only[go_sem,bc,hgA,hsA,gs,hn,ap4];refine CO.intro k3 ?_;simp -implicitDefEqProofs only[go_sem,bc,wv0,hgA,hsA,gs,hn,ap4];refine CO.intro km ?_;simp -implicitDefEqProofs only[go_sem];refine CO.intro ke ?_;simp -implicitDefEqProofs only[go_sem,hgA,hsA,gs,hn,ap4]
 have hbl:Bel (A qe).length (.agg (XC1 c (I (v0:Nat)))):=.agg _ (fun i hi=>by
  have:∀y∈(XC1 c (I (v0:Nat)):List AV),Bel (A qe).length y:=by
   intro y hy;simp only[List.mem_cons,List.not_mem_nil,or_false]at hy;rcases hy with rfl|rfl|rfl|rfl|rfl|rfl|rfl|rfl|rfl|rfl|rfl|rfl|rfl|rfl|rfl|rfl|rfl|rfl|rfl
   all_goals first|exact .pl _|exact .nils|exact z0x _ _|exact z1h _ _|exact z0z _ _
  exact this _ (List.getElem_mem hi))
 exact Fini.trim2 (σ':=A qe) (ex:=[_,_]) (by simp -implicitDefEqProofs only[go_sem,resA,z01,rvA,oneOf,gs]<;>rfl) rfl (Nat.le_of_eq (by simp only[hn])) hbl (fun o ho=>by
  rw[←hs q qe]at ho;rw[hn];rw[hn]at hbel
  exact z21 (o:=rob b qe) hbel (z3d _ _) o ho)
set_option maxHeartbeats 8000000 in
theorem zg3 (q:Nat×Bool) (hq:Inb b q) (c:UInt8) (q1:Nat×Bool) (hc:runR byteR 0 b q=(c,q1)) (ok:Bool) (hf:fOf (c.toNat:Int)=(3,ok)) :
  Ans Tryz.prog 102 [.ptr p 0] (A q) (reV (bodyS b q).1) (A (bodyS b q).2):=by
 obtain⟨hgA,hsA,gs⟩:=rd_facts A n p b hn hg hs q;have k0:=z1f (A q++[B19]) p b q (hgA _ _) hq hb;have hin1:=z0f byteR 0 b q hq
 have hbS:bodyS b q=z0L (fun q1=>clS 3 (c.toNat:Int) b (took q1 0 ok)) mayR q1:=by
  unfold bodyS;rw[hc];simp only[hf]
 rw[hc]at k0 hin1;rw[hbS];simp only at k0 hin1;rw[hsA]at k0;have k1:=z1q (A q1++[B19,.box (XC3 c (I 0) (Sx ⟨#[]⟩))]) (c.toNat:Int);rw[hf]at k1;have k2:=z0b (A q1++[B19,.box (XC3 c (I 0) (Sx ⟨#[]⟩))]) p b q1 ok (hgA _ _) hin1 hb;rw[hsA]at k2;have hin2:=z1v b q1 ok hin1;unfold z0L;simp only;generalize took q1 0 ok=q2 at k2 hin2⊢;have wc:IntKind.i64.wrap (c.toNat:Int)=(c.toNat:Int):=wrapI (by have:=c.toNat_lt;omega)
 have hcl:clS 3 (c.toNat:Int) b q2=({ x0 (c.toNat:Int) with id:=(((runR (numR 2147483647) 0 b q2).1:Nat):Int),txt:=(runR (textR 16) ⟨#[]⟩ b (runR (numR 2147483647) 0 b q2).2).1 },(runR (textR 16) ⟨#[]⟩ b (runR (numR 2147483647) 0 b q2).2).2):=rfl
 rw[hcl];simp only;have k3:=z22 (A q2++[B19,.box (XC3 c (I 0) (Sx ⟨#[]⟩))]) p b q2 2147483647 (by decide) (hgA _ _) hin2 hb
 rw[hsA]at k3;have hin3:=z0f (numR 2147483647) 0 b q2 hin2;have le0:=z2x (most:=2147483647) b q2;generalize runR (numR 2147483647) 0 b q2=w0 at k3 hin3 le0⊢;obtain⟨v0,q3⟩:=w0;simp only at k3 hin3 le0⊢;have wv0:IntKind.i64.wrap (v0:Int)=(v0:Int):=wrapI (by omega)
 have k4:=z2F (A q3++[B19,.box (XC3 c (I (v0:Nat)) (Sx ⟨#[]⟩))]) p b q3 16 (by decide) (hgA _ _) hin3 hb
 rw[hsA]at k4;have hin4:=z0f (textR 16) ⟨#[]⟩ b q3 hin3;generalize runR (textR 16) ⟨#[]⟩ b q3=w1 at k4 hin4⊢;obtain⟨v1,q4⟩:=w1;simp only at k4 hin4⊢;have hsub:Sub (.agg (XC3 c (I (v0:Nat)) (Sx v1))) (reV ({ x0 (c.toNat:Int) with id:=((v0:Nat):Int),txt:=v1 })):=.agg (.cons (.refl _) <| .cons (.refl _) <| .cons (.refl _) <| .cons (.refl _) <| .cons (.refl _) <| .cons (.refl _) <| .cons (.refl _) <| .cons (.nils 3) <| .cons (.refl _) <| .cons (.refl _) <| .cons (.refl _) <| .cons (.nils 3) <| .cons (.nils 3) <| .cons (.refl _) <| .cons (.refl _) <| .cons (.refl _) <| .cons (.nils 1) <| .cons (.nils 2) <| .cons (.refl _) <| .nil)
 have km:=(z2l (A q4++[B19,.box (XC3 c (I (v0:Nat)) (Sx v1))]) ({ x0 (c.toNat:Int) with id:=((v0:Nat):Int),txt:=v1 })).subA (.cons hsub .nil)
 have ke:=z0b (A q4++[B19,.box (XC3 c (I (v0:Nat)) (Sx v1))]) p b q4 (mayR ({ x0 (c.toNat:Int) with id:=((v0:Nat):Int),txt:=v1 })) (hgA _ _) hin4 hb
 rw[hsA]at ke;generalize mayR ({ x0 (c.toNat:Int) with id:=((v0:Nat):Int),txt:=v1 })=okm at km ke⊢
 generalize took q4 0 okm=qe at ke⊢;refine Ans.subR ?_ hsub;refine Ans.of_run' t102 (fun hbel _=>?_)
 simp -implicitDefEqProofs only[c102,r102,go_sem,hgA,hsA,gs,hn,ap4];refine CO.intro k0 ?_;simp -implicitDefEqProofs only[go_sem,bc,wc,hgA,hsA,gs,hn,ap4];refine CO.intro k1 ?_;simp -implicitDefEqProofs only[go_sem];refine CO.intro k2 ?_;simp -implicitDefEqProofs only[go_sem,bc,hgA,hsA,gs,hn,ap4];refine CO.intro k3 ?_;simp -implicitDefEqProofs only[go_sem,bc,wv0,hgA,hsA,gs,hn,ap4];refine CO.intro k4 ?_;simp -implicitDefEqProofs only[go_sem,bc,wv0,hgA,hsA,gs,hn,ap4];refine CO.intro km ?_;simp -implicitDefEqProofs only[go_sem];refine CO.intro ke ?_;simp -implicitDefEqProofs only[go_sem,hgA,hsA,gs,hn,ap4]
 have hbl:Bel (A qe).length (.agg (XC3 c (I (v0:Nat)) (Sx v1))):=.agg _ (fun i hi=>by
  have:∀y∈(XC3 c (I (v0:Nat)) (Sx v1):List AV),Bel (A qe).length y:=by
   intro y hy;simp only[List.mem_cons,List.not_mem_nil,or_false]at hy;rcases hy with rfl|rfl|rfl|rfl|rfl|rfl|rfl|rfl|rfl|rfl|rfl|rfl|rfl|rfl|rfl|rfl|rfl|rfl|rfl
   all_goals first|exact .pl _|exact .nils|exact z0x _ _|exact z1h _ _|exact z0z _ _
  exact this _ (List.getElem_mem hi))
 exact Fini.trim2 (σ':=A qe) (ex:=[_,_]) (by simp -implicitDefEqProofs only[go_sem,resA,z01,rvA,oneOf,gs]<;>rfl) rfl (Nat.le_of_eq (by simp only[hn])) hbl (fun o ho=>by
  rw[←hs q qe]at ho;rw[hn];rw[hn]at hbel
  exact z21 (o:=rob b qe) hbel (z3d _ _) o ho)
end
section
variable (A:Nat×Bool→St) (n p:Nat) (b:Byt) (hn:∀q,(A q).length=n) (hg:∀q,(A q)[p]?=some (rob b q)) (hs:∀q q',(A q).set p (rob b q')=A q') (hb:b.length≤50000)
include hn hg hs hb
set_option maxHeartbeats 8000000 in
theorem zd7 (q:Nat×Bool) (hq:Inb b q) (c:UInt8) (q1:Nat×Bool) (hc:runR byteR 0 b q=(c,q1)) (ok:Bool) (hf:fOf (c.toNat:Int)=(116,ok)) :
  Ans Tryz.prog 102 [.ptr p 0] (A q) (reV (bodyS b q).1) (A (bodyS b q).2):=by
 obtain⟨hgA,hsA,gs⟩:=rd_facts A n p b hn hg hs q;have k0:=z1f (A q++[B19]) p b q (hgA _ _) hq hb;have hin1:=z0f byteR 0 b q hq
 have hbS:bodyS b q=z0L (fun q1=>clS 116 (c.toNat:Int) b (took q1 0 ok)) mayR q1:=by
  unfold bodyS;rw[hc];simp only[hf]
 rw[hc]at k0 hin1;rw[hbS];simp only at k0 hin1;rw[hsA]at k0;have k1:=z1q (A q1++[B19,.box (XC116 c (UN 0) (UN 0) .nils (Bo false) (Fl 0) (Fl 0))]) (c.toNat:Int);rw[hf]at k1;have k2:=z0b (A q1++[B19,.box (XC116 c (UN 0) (UN 0) .nils (Bo false) (Fl 0) (Fl 0))]) p b q1 ok (hgA _ _) hin1 hb;rw[hsA]at k2;have hin2:=z1v b q1 ok hin1;unfold z0L;simp only;generalize took q1 0 ok=q2 at k2 hin2⊢;have wc:IntKind.i64.wrap (c.toNat:Int)=(c.toNat:Int):=wrapI (by have:=c.toNat_lt;omega)
 have hcl:clS 116 (c.toNat:Int) b q2=(mk116 (c.toNat:Int) ((runR (numR 1099511627776) 0 b q2).1,(runR (numR 1099511627776) 0 b (runR (numR 1099511627776) 0 b q2).2).1,(runR listR [] b (runR (numR 1099511627776) 0 b (runR (numR 1099511627776) 0 b q2).2).2).1,(runR bandR (false,0,0) b (runR listR [] b (runR (numR 1099511627776) 0 b (runR (numR 1099511627776) 0 b q2).2).2).2).1),(runR bandR (false,0,0) b (runR listR [] b (runR (numR 1099511627776) 0 b (runR (numR 1099511627776) 0 b q2).2).2).2).2):=rfl;rw[hcl];simp only;have k3:=z22 (A q2++[B19,.box (XC116 c (UN 0) (UN 0) .nils (Bo false) (Fl 0) (Fl 0))]) p b q2 1099511627776 (by decide) (hgA _ _) hin2 hb
 rw[hsA]at k3;have hin3:=z0f (numR 1099511627776) 0 b q2 hin2;have le0:=z2x (most:=1099511627776) b q2;generalize runR (numR 1099511627776) 0 b q2=w0 at k3 hin3 le0⊢;obtain⟨v0,q3⟩:=w0;simp only at k3 hin3 le0⊢;have k4:=z22 (A q3++[B19,.box (XC116 c (UN 0) (UN 0) .nils (Bo false) (Fl 0) (Fl 0))]) p b q3 1099511627776 (by decide) (hgA _ _) hin3 hb
 rw[hsA]at k4;have hin4:=z0f (numR 1099511627776) 0 b q3 hin3;have le1:=z2x (most:=1099511627776) b q3;generalize runR (numR 1099511627776) 0 b q3=w1 at k4 hin4 le1⊢;obtain⟨v1,q4⟩:=w1;simp only at k4 hin4 le1⊢;have k5:=z7B (A q4++[B19,.box (XC116 c (UN v0) (UN v1) .nils (Bo false) (Fl 0) (Fl 0))]) p b q4 (hgA _ _) hin4 hb;rw[hsA]at k5;have hin5:=z0f listR [] b q4 hin4;generalize runR listR [] b q4=w2 at k5 hin5⊢;obtain⟨v2,q5⟩:=w2;simp only at k5 hin5⊢;have k6:=zbt (A q5++[B19,.box (XC116 c (UN v0) (UN v1) (mlV v2) (Bo false) (Fl 0) (Fl 0))]) p b q5 (hgA _ _) hin5 hb;rw[hsA]at k6;have hin6:=z0f bandR (false,0,0) b q5 hin5;generalize runR bandR (false,0,0) b q5=w3 at k6 hin6⊢;obtain⟨v3,q6⟩:=w3;simp only at k6 hin6⊢;obtain⟨ba,bl,bh⟩:=v3;unfold bandV at k6;simp only at k6⊢;have hsub:Sub (.agg (XC116 c (UN v0) (UN v1) (mlV v2) (Bo ba) (Fl bl) (Fl bh))) (reV (mk116 (c.toNat:Int) (v0,v1,v2,(ba,bl,bh)))):=.agg (.cons (.refl _) <| .cons (.refl _) <| .cons (.refl _) <| .cons (.refl _) <| .cons (.refl _) <| .cons (.refl _) <| .cons (.refl _) <| .cons (.refl _) <| .cons (.refl _) <| .cons (.refl _) <| .cons (.refl _) <| .cons (.nils 3) <| .cons (.nils 3) <| .cons (.refl _) <| .cons (.refl _) <| .cons (.refl _) <| .cons (.nils 1) <| .cons (.nils 2) <| .cons (.refl _) <| .nil);have km:=(z2l (A q6++[B19,.box (XC116 c (UN v0) (UN v1) (mlV v2) (Bo ba) (Fl bl) (Fl bh))]) (mk116 (c.toNat:Int) (v0,v1,v2,(ba,bl,bh)))).subA (.cons hsub .nil)
 have ke:=z0b (A q6++[B19,.box (XC116 c (UN v0) (UN v1) (mlV v2) (Bo ba) (Fl bl) (Fl bh))]) p b q6 (mayR (mk116 (c.toNat:Int) (v0,v1,v2,(ba,bl,bh)))) (hgA _ _) hin6 hb;rw[hsA]at ke;generalize mayR (mk116 (c.toNat:Int) (v0,v1,v2,(ba,bl,bh)))=okm at km ke⊢;generalize took q6 0 okm=qe at ke⊢;refine Ans.subR ?_ hsub;refine Ans.of_run' t102 (fun hbel _=>?_)
 simp -implicitDefEqProofs only[c102,r102,go_sem,hgA,hsA,gs,hn,ap4];refine CO.intro k0 ?_;simp -implicitDefEqProofs only[go_sem,bc,wc,hgA,hsA,gs,hn,ap4];refine CO.intro k1 ?_;simp -implicitDefEqProofs only[go_sem];refine CO.intro k2 ?_;simp -implicitDefEqProofs only[go_sem,bc,hgA,hsA,gs,hn,ap4];refine CO.intro k3 ?_;simp -implicitDefEqProofs only[go_sem,bc,hgA,hsA,gs,hn,ap4];refine CO.intro k4 ?_;simp -implicitDefEqProofs only[go_sem,bc,hgA,hsA,gs,hn,ap4];refine CO.intro k5 ?_;simp -implicitDefEqProofs only[go_sem,bc,hgA,hsA,gs,hn,ap4];refine CO.intro k6 ?_;simp -implicitDefEqProofs only[go_sem,bc,hgA,hsA,gs,hn,ap4];refine CO.intro km ?_;simp -implicitDefEqProofs only[go_sem];refine CO.intro ke ?_;simp -implicitDefEqProofs only[go_sem,hgA,hsA,gs,hn,ap4]
 have hbl:Bel (A qe).length (.agg (XC116 c (UN v0) (UN v1) (mlV v2) (Bo ba) (Fl bl) (Fl bh))):=.agg _ (fun i hi=>by
  have:∀y∈(XC116 c (UN v0) (UN v1) (mlV v2) (Bo ba) (Fl bl) (Fl bh):List AV),Bel (A qe).length y:=by
   intro y hy;simp only[List.mem_cons,List.not_mem_nil,or_false]at hy;rcases hy with rfl|rfl|rfl|rfl|rfl|rfl|rfl|rfl|rfl|rfl|rfl|rfl|rfl|rfl|rfl|rfl|rfl|rfl|rfl
   all_goals first|exact .pl _|exact .nils|exact z0x _ _|exact z1h _ _|exact z0z _ _
  exact this _ (List.getElem_mem hi))
 exact Fini.trim2 (σ':=A qe) (ex:=[_,_]) (by simp -implicitDefEqProofs only[go_sem,resA,z01,rvA,oneOf,gs]<;>rfl) rfl (Nat.le_of_eq (by simp only[hn])) hbl (fun o ho=>by
  rw[←hs q qe]at ho;rw[hn];rw[hn]at hbel
  exact z21 (o:=rob b qe) hbel (z3d _ _) o ho)
set_option maxHeartbeats 8000000 in
theorem zd8 (q:Nat×Bool) (hq:Inb b q) (c:UInt8) (q1:Nat×Bool) (hc:runR byteR 0 b q=(c,q1)) (ok:Bool) (hf:fOf (c.toNat:Int)=(117,ok)) :
  Ans Tryz.prog 102 [.ptr p 0] (A q) (reV (bodyS b q).1) (A (bodyS b q).2):=by
 obtain⟨hgA,hsA,gs⟩:=rd_facts A n p b hn hg hs q;have k0:=z1f (A q++[B19]) p b q (hgA _ _) hq hb;have hin1:=z0f byteR 0 b q hq
 have hbS:bodyS b q=z0L (fun q1=>clS 117 (c.toNat:Int) b (took q1 0 ok)) mayR q1:=by
  unfold bodyS;rw[hc];simp only[hf]
 rw[hc]at k0 hin1;rw[hbS];simp only at k0 hin1;rw[hsA]at k0;have k1:=z1q (A q1++[B19,.box (XC117 c (I 0) (UN 0) (UN 0) .nils (Bo false) (Fl 0) (Fl 0))]) (c.toNat:Int);rw[hf]at k1;have k2:=z0b (A q1++[B19,.box (XC117 c (I 0) (UN 0) (UN 0) .nils (Bo false) (Fl 0) (Fl 0))]) p b q1 ok (hgA _ _) hin1 hb;rw[hsA]at k2;have hin2:=z1v b q1 ok hin1;unfold z0L;simp only;generalize took q1 0 ok=q2 at k2 hin2⊢;have wc:IntKind.i64.wrap (c.toNat:Int)=(c.toNat:Int):=wrapI (by have:=c.toNat_lt;omega)
 have hcl:clS 117 (c.toNat:Int) b q2=(mk117 (c.toNat:Int) ((runR (numR 2147483647) 0 b q2).1,(runR (numR 1099511627776) 0 b (runR (numR 2147483647) 0 b q2).2).1,(runR (numR 1099511627776) 0 b (runR (numR 1099511627776) 0 b (runR (numR 2147483647) 0 b q2).2).2).1,(runR listR [] b (runR (numR 1099511627776) 0 b (runR (numR 1099511627776) 0 b (runR (numR 2147483647) 0 b q2).2).2).2).1,(runR bandR (false,0,0) b (runR listR [] b (runR (numR 1099511627776) 0 b (runR (numR 1099511627776) 0 b (runR (numR 2147483647) 0 b q2).2).2).2).2).1),(runR bandR (false,0,0) b (runR listR [] b (runR (numR 1099511627776) 0 b (runR (numR 1099511627776) 0 b (runR (numR 2147483647) 0 b q2).2).2).2).2).2):=rfl;rw[hcl];simp only;have k3:=z22 (A q2++[B19,.box (XC117 c (I 0) (UN 0) (UN 0) .nils (Bo false) (Fl 0) (Fl 0))]) p b q2 2147483647 (by decide) (hgA _ _) hin2 hb
 rw[hsA]at k3;have hin3:=z0f (numR 2147483647) 0 b q2 hin2;have le0:=z2x (most:=2147483647) b q2;generalize runR (numR 2147483647) 0 b q2=w0 at k3 hin3 le0⊢;obtain⟨v0,q3⟩:=w0;simp only at k3 hin3 le0⊢;have wv0:IntKind.i64.wrap (v0:Int)=(v0:Int):=wrapI (by omega)
 have k4:=z22 (A q3++[B19,.box (XC117 c (I (v0:Nat)) (UN 0) (UN 0) .nils (Bo false) (Fl 0) (Fl 0))]) p b q3 1099511627776 (by decide) (hgA _ _) hin3 hb
 rw[hsA]at k4;have hin4:=z0f (numR 1099511627776) 0 b q3 hin3;have le1:=z2x (most:=1099511627776) b q3;generalize runR (numR 1099511627776) 0 b q3=w1 at k4 hin4 le1⊢;obtain⟨v1,q4⟩:=w1;simp only at k4 hin4 le1⊢;have k5:=z22 (A q4++[B19,.box (XC117 c (I (v0:Nat)) (UN 0) (UN 0) .nils (Bo false) (Fl 0) (Fl 0))]) p b q4 1099511627776 (by decide) (hgA _ _) hin4 hb
 rw[hsA]at k5;have hin5:=z0f (numR 1099511627776) 0 b q4 hin4;have le2:=z2x (most:=1099511627776) b q4;generalize runR (numR 1099511627776) 0 b q4=w2 at k5 hin5 le2⊢;obtain⟨v2,q5⟩:=w2;simp only at k5 hin5 le2⊢;have k6:=z7B (A q5++[B19,.box (XC117 c (I (v0:Nat)) (UN v1) (UN v2) .nils (Bo false) (Fl 0) (Fl 0))]) p b q5 (hgA _ _) hin5 hb;rw[hsA]at k6;have hin6:=z0f listR [] b q5 hin5;generalize runR listR [] b q5=w3 at k6 hin6⊢;obtain⟨v3,q6⟩:=w3;simp only at k6 hin6⊢;have k7:=zbt (A q6++[B19,.box (XC117 c (I (v0:Nat)) (UN v1) (UN v2) (mlV v3) (Bo false) (Fl 0) (Fl 0))]) p b q6 (hgA _ _) hin6 hb;rw[hsA]at k7;have hin7:=z0f bandR (false,0,0) b q6 hin6;generalize runR bandR (false,0,0) b q6=w4 at k7 hin7⊢;obtain⟨v4,q7⟩:=w4;simp only at k7 hin7⊢;obtain⟨ba,bl,bh⟩:=v4;unfold bandV at k7;simp only at k7⊢;have hsub:Sub (.agg (XC117 c (I (v0:Nat)) (UN v1) (UN v2) (mlV v3) (Bo ba) (Fl bl) (Fl bh))) (reV (mk117 (c.toNat:Int) (v0,v1,v2,v3,(ba,bl,bh)))):=.agg (.cons (.refl _) <| .cons (.refl _) <| .cons (.refl _) <| .cons (.refl _) <| .cons (.refl _) <| .cons (.refl _) <| .cons (.refl _) <| .cons (.refl _) <| .cons (.refl _) <| .cons (.refl _) <| .cons (.refl _) <| .cons (.nils 3) <| .cons (.nils 3) <| .cons (.refl _) <| .cons (.refl _) <| .cons (.refl _) <| .cons (.nils 1) <| .cons (.nils 2) <| .cons (.refl _) <| .nil);have km:=(z2l (A q7++[B19,.box (XC117 c (I (v0:Nat)) (UN v1) (UN v2) (mlV v3) (Bo ba) (Fl bl) (Fl bh))]) (mk117 (c.toNat:Int) (v0,v1,v2,v3,(ba,bl,bh)))).subA (.cons hsub .nil)
 have ke:=z0b (A q7++[B19,.box (XC117 c (I (v0:Nat)) (UN v1) (UN v2) (mlV v3) (Bo ba) (Fl bl) (Fl bh))]) p b q7 (mayR (mk117 (c.toNat:Int) (v0,v1,v2,v3,(ba,bl,bh)))) (hgA _ _) hin7 hb;rw[hsA]at ke;generalize mayR (mk117 (c.toNat:Int) (v0,v1,v2,v3,(ba,bl,bh)))=okm at km ke⊢;generalize took q7 0 okm=qe at ke⊢;refine Ans.subR ?_ hsub;refine Ans.of_run' t102 (fun hbel _=>?_)
 simp -implicitDefEqProofs only[c102,r102,go_sem,hgA,hsA,gs,hn,ap4];refine CO.intro k0 ?_;simp -implicitDefEqProofs only[go_sem,bc,wc,hgA,hsA,gs,hn,ap4];refine CO.intro k1 ?_;simp -implicitDefEqProofs only[go_sem];refine CO.intro k2 ?_;simp -implicitDefEqProofs only[go_sem,bc,hgA,hsA,gs,hn,ap4];refine CO.intro k3 ?_;simp -implicitDefEqProofs only[go_sem,bc,wv0,hgA,hsA,gs,hn,ap4];refine CO.intro k4 ?_;simp -implicitDefEqProofs only[go_sem,bc,wv0,hgA,hsA,gs,hn,ap4];refine CO.intro k5 ?_;simp -implicitDefEqProofs only[go_sem,bc,wv0,hgA,hsA,gs,hn,ap4];refine CO.intro k6 ?_;simp -implicitDefEqProofs only[go_sem,bc,wv0,hgA,hsA,gs,hn,ap4];refine CO.intro k7 ?_;simp -implicitDefEqProofs only[go_sem,bc,wv0,hgA,hsA,gs,hn,ap4];refine CO.intro km ?_;simp -implicitDefEqProofs only[go_sem];refine CO.intro ke ?_;simp -implicitDefEqProofs only[go_sem,hgA,hsA,gs,hn,ap4]
 have hbl:Bel (A qe).length (.agg (XC117 c (I (v0:Nat)) (UN v1) (UN v2) (mlV v3) (Bo ba) (Fl bl) (Fl bh))):=.agg _ (fun i hi=>by
  have:∀y∈(XC117 c (I (v0:Nat)) (UN v1) (UN v2) (mlV v3) (Bo ba) (Fl bl) (Fl bh):List AV),Bel (A qe).length y:=by
   intro y hy;simp only[List.mem_cons,List.not_mem_nil,or_false]at hy;rcases hy with rfl|rfl|rfl|rfl|rfl|rfl|rfl|rfl|rfl|rfl|rfl|rfl|rfl|rfl|rfl|rfl|rfl|rfl|rfl
   all_goals first|exact .pl _|exact .nils|exact z0x _ _|exact z1h _ _|exact z0z _ _
  exact this _ (List.getElem_mem hi))
 exact Fini.trim2 (σ':=A qe) (ex:=[_,_]) (by simp -implicitDefEqProofs only[go_sem,resA,z01,rvA,oneOf,gs]<;>rfl) rfl (Nat.le_of_eq (by simp only[hn])) hbl (fun o ho=>by
  rw[←hs q qe]at ho;rw[hn];rw[hn]at hbel
  exact z21 (o:=rob b qe) hbel (z3d _ _) o ho)
end
section
variable (A:Nat×Bool→St) (n p:Nat) (b:Byt) (hn:∀q,(A q).length=n) (hg:∀q,(A q)[p]?=some (rob b q)) (hs:∀q q',(A q).set p (rob b q')=A q') (hb:b.length≤50000)
include hn hg hs hb
set_option maxHeartbeats 8000000 in
theorem zg4 (q:Nat×Bool) (hq:Inb b q) (c:UInt8) (q1:Nat×Bool) (hc:runR byteR 0 b q=(c,q1)) (ok:Bool) (hf:fOf (c.toNat:Int)=(8,ok)) :
  Ans Tryz.prog 102 [.ptr p 0] (A q) (reV (bodyS b q).1) (A (bodyS b q).2):=by
 obtain⟨hgA,hsA,gs⟩:=rd_facts A n p b hn hg hs q;have k0:=z1f (A q++[B19]) p b q (hgA _ _) hq hb;have hin1:=z0f byteR 0 b q hq
 have hbS:bodyS b q=z0L (fun q1=>clS 8 (c.toNat:Int) b (took q1 0 ok)) mayR q1:=by
  unfold bodyS;rw[hc];simp only[hf]
 rw[hc]at k0 hin1;rw[hbS];simp only at k0 hin1;rw[hsA]at k0;have k1:=z1q (A q1++[B19,.box (XC8 c (I 0))]) (c.toNat:Int);rw[hf]at k1;have k2:=z0b (A q1++[B19,.box (XC8 c (I 0))]) p b q1 ok (hgA _ _) hin1 hb;rw[hsA]at k2;have hin2:=z1v b q1 ok hin1;unfold z0L;simp only;generalize took q1 0 ok=q2 at k2 hin2⊢;have wc:IntKind.i64.wrap (c.toNat:Int)=(c.toNat:Int):=wrapI (by have:=c.toNat_lt;omega)
 have hcl:clS 8 (c.toNat:Int) b q2=({ x0 (c.toNat:Int) with sta:=((((runR byteR 0 b q2).1).toNat:Nat):Int) },(runR byteR 0 b q2).2):=rfl
 rw[hcl];simp only;have k3:=z1f (A q2++[B19,.box (XC8 c (I 0))]) p b q2 (hgA _ _) hin2 hb;rw[hsA]at k3;have hin3:=z0f byteR 0 b q2 hin2;generalize runR byteR 0 b q2=w0 at k3 hin3⊢;obtain⟨v0,q3⟩:=w0;simp only at k3 hin3⊢;have wv0:IntKind.i64.wrap (v0.toNat:Int)=(v0.toNat:Int):=wrapI (by have:=v0.toNat_lt;omega)
 have hsub:Sub (.agg (XC8 c (I (v0.toNat:Nat)))) (reV ({ x0 (c.toNat:Int) with sta:=(((v0).toNat:Nat):Int) })):=.agg (.cons (.refl _) <| .cons (.refl _) <| .cons (.refl _) <| .cons (.refl _) <| .cons (.refl _) <| .cons (.refl _) <| .cons (.refl _) <| .cons (.nils 3) <| .cons (.refl _) <| .cons (.refl _) <| .cons (.refl _) <| .cons (.nils 3) <| .cons (.nils 3) <| .cons (.refl _) <| .cons (.refl _) <| .cons (.refl _) <| .cons (.nils 1) <| .cons (.nils 2) <| .cons (.refl _) <| .nil)
 have km:=(z2l (A q3++[B19,.box (XC8 c (I (v0.toNat:Nat)))]) ({ x0 (c.toNat:Int) with sta:=(((v0).toNat:Nat):Int) })).subA (.cons hsub .nil)
 have ke:=z0b (A q3++[B19,.box (XC8 c (I (v0.toNat:Nat)))]) p b q3 (mayR ({ x0 (c.toNat:Int) with sta:=(((v0).toNat:Nat):Int) })) (hgA _ _) hin3 hb
 rw[hsA]at ke;generalize mayR ({ x0 (c.toNat:Int) with sta:=(((v0).toNat:Nat):Int) })=okm at km ke⊢
 generalize took q3 0 okm=qe at ke⊢;refine Ans.subR ?_ hsub;refine Ans.of_run' t102 (fun hbel _=>?_)
 simp -implicitDefEqProofs only[c102,r102,go_sem,hgA,hsA,gs,hn,ap4];refine CO.intro k0 ?_;simp -implicitDefEqProofs only[go_sem,bc,wc,hgA,hsA,gs,hn,ap4];refine CO.intro k1 ?_;simp -implicitDefEqProofs only[go_sem];refine CO.intro k2 ?_;simp -implicitDefEqProofs only[go_sem,bc,hgA,hsA,gs,hn,ap4];refine CO.intro k3 ?_;simp -implicitDefEqProofs only[go_sem,bc,wv0,hgA,hsA,gs,hn,ap4];refine CO.intro km ?_;simp -implicitDefEqProofs only[go_sem];refine CO.intro ke ?_;simp -implicitDefEqProofs only[go_sem,hgA,hsA,gs,hn,ap4]
 have hbl:Bel (A qe).length (.agg (XC8 c (I (v0.toNat:Nat)))):=.agg _ (fun i hi=>by
  have:∀y∈(XC8 c (I (v0.toNat:Nat)):List AV),Bel (A qe).length y:=by
   intro y hy;simp only[List.mem_cons,List.not_mem_nil,or_false]at hy;rcases hy with rfl|rfl|rfl|rfl|rfl|rfl|rfl|rfl|rfl|rfl|rfl|rfl|rfl|rfl|rfl|rfl|rfl|rfl|rfl
   all_goals first|exact .pl _|exact .nils|exact z0x _ _|exact z1h _ _|exact z0z _ _
  exact this _ (List.getElem_mem hi))
 exact Fini.trim2 (σ':=A qe) (ex:=[_,_]) (by simp -implicitDefEqProofs only[go_sem,resA,z01,rvA,oneOf,gs]<;>rfl) rfl (Nat.le_of_eq (by simp only[hn])) hbl (fun o ho=>by
  rw[←hs q qe]at ho;rw[hn];rw[hn]at hbel
  exact z21 (o:=rob b qe) hbel (z3d _ _) o ho)
set_option maxHeartbeats 8000000 in
theorem zd9 (q:Nat×Bool) (hq:Inb b q) (c:UInt8) (q1:Nat×Bool) (hc:runR byteR 0 b q=(c,q1)) (ok:Bool) (hf:fOf (c.toNat:Int)=(128,ok)) :
  Ans Tryz.prog 102 [.ptr p 0] (A q) (reV (bodyS b q).1) (A (bodyS b q).2):=by
 obtain⟨hgA,hsA,gs⟩:=rd_facts A n p b hn hg hs q;have k0:=z1f (A q++[B19]) p b q (hgA _ _) hq hb;have hin1:=z0f byteR 0 b q hq
 have hbS:bodyS b q=z0L (fun q1=>clS 128 (c.toNat:Int) b (took q1 0 ok)) mayR q1:=by
  unfold bodyS;rw[hc];simp only[hf]
 rw[hc]at k0 hin1;rw[hbS];simp only at k0 hin1;rw[hsA]at k0;have k1:=z1q (A q1++[B19,.box (XC128 c .nils .nils (Bo false) (Fl 0) (Fl 0) .nils)]) (c.toNat:Int);rw[hf]at k1;have k2:=z0b (A q1++[B19,.box (XC128 c .nils .nils (Bo false) (Fl 0) (Fl 0) .nils)]) p b q1 ok (hgA _ _) hin1 hb;rw[hsA]at k2;have hin2:=z1v b q1 ok hin1;unfold z0L;simp only;generalize took q1 0 ok=q2 at k2 hin2⊢;have wc:IntKind.i64.wrap (c.toNat:Int)=(c.toNat:Int):=wrapI (by have:=c.toNat_lt;omega)
 have hcl:clS 128 (c.toNat:Int) b q2=({ x0 (c.toNat:Int) with ru:=(runR ruR noRu b q2).1 },(runR ruR noRu b q2).2):=rfl
 rw[hcl];simp only;have k3:=zfR (A q2++[B19,.box (XC128 c .nils .nils (Bo false) (Fl 0) (Fl 0) .nils)]) p b q2 (hgA _ _) hin2 hb;rw[hsA]at k3;have hin3:=z0f ruR noRu b q2 hin2;generalize runR ruR noRu b q2=w0 at k3 hin3⊢;obtain⟨v0,q3⟩:=w0;simp only at k3 hin3⊢;obtain⟨rs,rt,ra,rl,rh,re⟩:=v0;unfold ruV at k3;simp only at k3⊢;have hsub:Sub (.agg (XC128 c (mlV rs) (mlV rt) (Bo ra) (Fl rl) (Fl rh) (.sl 1 (txs re)))) (reV ({ x0 (c.toNat:Int) with ru:=⟨rs,rt,ra,rl,rh,re⟩ })):=.agg (.cons (.refl _) <| .cons (.refl _) <| .cons (.refl _) <| .cons (.refl _) <| .cons (.refl _) <| .cons (.refl _) <| .cons (.refl _) <| .cons (.nils 3) <| .cons (.refl _) <| .cons (.refl _) <| .cons (.refl _) <| .cons (.refl _) <| .cons (.refl _) <| .cons (.refl _) <| .cons (.refl _) <| .cons (.refl _) <| .cons (.refl _) <| .cons (.nils 2) <| .cons (.refl _) <| .nil)
 have km:=(z2l (A q3++[B19,.box (XC128 c (mlV rs) (mlV rt) (Bo ra) (Fl rl) (Fl rh) (.sl 1 (txs re)))]) ({ x0 (c.toNat:Int) with ru:=⟨rs,rt,ra,rl,rh,re⟩ })).subA (.cons hsub .nil)
 have ke:=z0b (A q3++[B19,.box (XC128 c (mlV rs) (mlV rt) (Bo ra) (Fl rl) (Fl rh) (.sl 1 (txs re)))]) p b q3 (mayR ({ x0 (c.toNat:Int) with ru:=⟨rs,rt,ra,rl,rh,re⟩ })) (hgA _ _) hin3 hb
 rw[hsA]at ke;generalize mayR ({ x0 (c.toNat:Int) with ru:=⟨rs,rt,ra,rl,rh,re⟩ })=okm at km ke⊢
 generalize took q3 0 okm=qe at ke⊢;refine Ans.subR ?_ hsub;refine Ans.of_run' t102 (fun hbel _=>?_)
 simp -implicitDefEqProofs only[c102,r102,go_sem,hgA,hsA,gs,hn,ap4];refine CO.intro k0 ?_;simp -implicitDefEqProofs only[go_sem,bc,wc,hgA,hsA,gs,hn,ap4];refine CO.intro k1 ?_;simp -implicitDefEqProofs only[go_sem];refine CO.intro k2 ?_;simp -implicitDefEqProofs only[go_sem,bc,hgA,hsA,gs,hn,ap4];refine CO.intro k3 ?_;simp -implicitDefEqProofs only[go_sem,bc,hgA,hsA,gs,hn,ap4];refine CO.intro km ?_;simp -implicitDefEqProofs only[go_sem];refine CO.intro ke ?_;simp -implicitDefEqProofs only[go_sem,hgA,hsA,gs,hn,ap4]
 have hbl:Bel (A qe).length (.agg (XC128 c (mlV rs) (mlV rt) (Bo ra) (Fl rl) (Fl rh) (.sl 1 (txs re)))):=.agg _ (fun i hi=>by
  have:∀y∈(XC128 c (mlV rs) (mlV rt) (Bo ra) (Fl rl) (Fl rh) (.sl 1 (txs re)):List AV),Bel (A qe).length y:=by
   intro y hy;simp only[List.mem_cons,List.not_mem_nil,or_false]at hy;rcases hy with rfl|rfl|rfl|rfl|rfl|rfl|rfl|rfl|rfl|rfl|rfl|rfl|rfl|rfl|rfl|rfl|rfl|rfl|rfl
   all_goals first|exact .pl _|exact .nils|exact z0x _ _|exact z1h _ _|exact z0z _ _
  exact this _ (List.getElem_mem hi))
 exact Fini.trim2 (σ':=A qe) (ex:=[_,_]) (by simp -implicitDefEqProofs only[go_sem,resA,z01,rvA,oneOf,gs]<;>rfl) rfl (Nat.le_of_eq (by simp only[hn])) hbl (fun o ho=>by
  rw[←hs q qe]at ho;rw[hn];rw[hn]at hbel
  exact z21 (o:=rob b qe) hbel (z3d _ _) o ho)
end
section
variable (A:Nat×Bool→St) (n p:Nat) (b:Byt) (hn:∀q,(A q).length=n) (hg:∀q,(A q)[p]?=some (rob b q)) (hs:∀q q',(A q).set p (rob b q')=A q') (hb:b.length≤50000)
include hn hg hs hb
set_option maxHeartbeats 8000000 in
theorem zda (q:Nat×Bool) (hq:Inb b q) (c:UInt8) (q1:Nat×Bool) (hc:runR byteR 0 b q=(c,q1)) (ok:Bool) (hf:fOf (c.toNat:Int)=(768,ok)) :
  Ans Tryz.prog 102 [.ptr p 0] (A q) (reV (bodyS b q).1) (A (bodyS b q).2):=by
 obtain⟨hgA,hsA,gs⟩:=rd_facts A n p b hn hg hs q;have k0:=z1f (A q++[B19]) p b q (hgA _ _) hq hb;have hin1:=z0f byteR 0 b q hq
 have hbS:bodyS b q=z0L (fun q1=>clS 768 (c.toNat:Int) b (took q1 0 ok)) mayR q1:=by
  unfold bodyS;rw[hc];simp only[hf]
 rw[hc]at k0 hin1;rw[hbS];simp only at k0 hin1;rw[hsA]at k0;have k1:=z1q (A q1++[B19,.box (XC768 c .nils (Fl 0))]) (c.toNat:Int);rw[hf]at k1;have k2:=z0b (A q1++[B19,.box (XC768 c .nils (Fl 0))]) p b q1 ok (hgA _ _) hin1 hb;rw[hsA]at k2;have hin2:=z1v b q1 ok hin1;unfold z0L;simp only;generalize took q1 0 ok=q2 at k2 hin2⊢;have wc:IntKind.i64.wrap (c.toNat:Int)=(c.toNat:Int):=wrapI (by have:=c.toNat_lt;omega)
 have hcl:clS 768 (c.toNat:Int) b q2=({ x0 (c.toNat:Int) with ls:=(runR setR [] b q2).1,val:=(valS b (runR setR [] b q2).2).1 },(valS b (runR setR [] b q2).2).2):=rfl
 rw[hcl];simp only;have k3:=zfQ (A q2++[B19,.box (XC768 c .nils (Fl 0))]) p b q2 (hgA _ _) hin2 hb;rw[hsA]at k3;have hin3:=z0f setR [] b q2 hin2;generalize runR setR [] b q2=w0 at k3 hin3⊢;obtain⟨v0,q3⟩:=w0;simp only at k3 hin3⊢;have k4:=z9e (A q3++[B19,.box (XC768 c (lsV v0) (Fl 0))]) p b q3 (hgA _ _) hin3 hb;rw[hsA]at k4;have hin4:=z0f wordR 0 b q3 hin3;unfold valS;generalize runR wordR 0 b q3=w1 at k4 hin4⊢;obtain⟨v1,qw⟩:=w1;simp only at k4 hin4⊢;have kv:=ze8 (A qw++[B19,.box (XC768 c (lsV v0) (Fl 0))]) v1;have kr:=z0b (A qw++[B19,.box (XC768 c (lsV v0) (Fl 0))]) p b qw (okV v1) (hgA _ _) hin4 hb;rw[hsA]at kr;have hinv:=z1v b qw (okV v1) hin4;generalize (if okV v1=true then v1 else 0)=fv at kv⊢
 generalize okV v1=okv at kv kr hinv⊢;generalize took qw 0 okv=q4 at kr hinv⊢;clear hin4;have hin4:=hinv;have hsub:Sub (.agg (XC768 c (lsV v0) (Fl fv))) (reV ({ x0 (c.toNat:Int) with ls:=v0,val:=fv })):=.agg (.cons (.refl _) <| .cons (.refl _) <| .cons (.refl _) <| .cons (.refl _) <| .cons (.refl _) <| .cons (.refl _) <| .cons (.refl _) <| .cons (.nils 3) <| .cons (.refl _) <| .cons (.refl _) <| .cons (.refl _) <| .cons (.nils 3) <| .cons (.nils 3) <| .cons (.refl _) <| .cons (.refl _) <| .cons (.refl _) <| .cons (.nils 1) <| .cons (.refl _) <| .cons (.refl _) <| .nil)
 have km:=(z2l (A q4++[B19,.box (XC768 c (lsV v0) (Fl fv))]) ({ x0 (c.toNat:Int) with ls:=v0,val:=fv })).subA (.cons hsub .nil)
 have ke:=z0b (A q4++[B19,.box (XC768 c (lsV v0) (Fl fv))]) p b q4 (mayR ({ x0 (c.toNat:Int) with ls:=v0,val:=fv })) (hgA _ _) hin4 hb
 rw[hsA]at ke;generalize mayR ({ x0 (c.toNat:Int) with ls:=v0,val:=fv })=okm at km ke⊢
 generalize took q4 0 okm=qe at ke⊢;refine Ans.subR ?_ hsub;refine Ans.of_run' t102 (fun hbel _=>?_)
 simp -implicitDefEqProofs only[c102,r102,go_sem,hgA,hsA,gs,hn,ap4];refine CO.intro k0 ?_;simp -implicitDefEqProofs only[go_sem,bc,wc,hgA,hsA,gs,hn,ap4];refine CO.intro k1 ?_;simp -implicitDefEqProofs only[go_sem];refine CO.intro k2 ?_;simp -implicitDefEqProofs only[go_sem,bc,hgA,hsA,gs,hn,ap4];refine CO.intro k3 ?_;simp -implicitDefEqProofs only[go_sem,bc,hgA,hsA,gs,hn,ap4];refine CO.intro k4 ?_;simp -implicitDefEqProofs only[go_sem];refine CO.intro kv ?_;simp -implicitDefEqProofs only[go_sem];refine CO.intro kr ?_;simp -implicitDefEqProofs only[go_sem,bc,hgA,hsA,gs,hn,ap4];refine CO.intro km ?_;simp -implicitDefEqProofs only[go_sem];refine CO.intro ke ?_;simp -implicitDefEqProofs only[go_sem,hgA,hsA,gs,hn,ap4]
 have hbl:Bel (A qe).length (.agg (XC768 c (lsV v0) (Fl fv))):=.agg _ (fun i hi=>by
  have:∀y∈(XC768 c (lsV v0) (Fl fv):List AV),Bel (A qe).length y:=by
   intro y hy;simp only[List.mem_cons,List.not_mem_nil,or_false]at hy;rcases hy with rfl|rfl|rfl|rfl|rfl|rfl|rfl|rfl|rfl|rfl|rfl|rfl|rfl|rfl|rfl|rfl|rfl|rfl|rfl
   all_goals first|exact .pl _|exact .nils|exact z0x _ _|exact z1h _ _|exact z0z _ _
  exact this _ (List.getElem_mem hi))
 exact Fini.trim2 (σ':=A qe) (ex:=[_,_]) (by simp -implicitDefEqProofs only[go_sem,resA,z01,rvA,oneOf,gs]<;>rfl) rfl (Nat.le_of_eq (by simp only[hn])) hbl (fun o ho=>by
  rw[←hs q qe]at ho;rw[hn];rw[hn]at hbel
  exact z21 (o:=rob b qe) hbel (z3d _ _) o ho)
set_option maxHeartbeats 8000000 in
theorem zeV (q:Nat×Bool) (hq:Inb b q) (c:UInt8) (q1:Nat×Bool) (hc:runR byteR 0 b q=(c,q1)) (ok:Bool) (hf:fOf (c.toNat:Int)=(16,ok)) :
  Ans Tryz.prog 102 [.ptr p 0] (A q) (reV (bodyS b q).1) (A (bodyS b q).2):=by
 obtain⟨hgA,hsA,gs⟩:=rd_facts A n p b hn hg hs q;have k0:=z1f (A q++[B19]) p b q (hgA _ _) hq hb;have hin1:=z0f byteR 0 b q hq
 have hbS:bodyS b q=z0L (fun q1=>clS 16 (c.toNat:Int) b (took q1 0 ok)) mayR q1:=by
  unfold bodyS;rw[hc];simp only[hf]
 rw[hc]at k0 hin1;rw[hbS];simp only at k0 hin1;rw[hsA]at k0;have k1:=z1q (A q1++[B19,.box (XC16 c .nils)]) (c.toNat:Int);rw[hf]at k1;have k2:=z0b (A q1++[B19,.box (XC16 c .nils)]) p b q1 ok (hgA _ _) hin1 hb;rw[hsA]at k2;have hin2:=z1v b q1 ok hin1;unfold z0L;simp only;generalize took q1 0 ok=q2 at k2 hin2⊢;have wc:IntKind.i64.wrap (c.toNat:Int)=(c.toNat:Int):=wrapI (by have:=c.toNat_lt;omega)
 have hcl:clS 16 (c.toNat:Int) b q2=({ x0 (c.toNat:Int) with mt:=(runR listR [] b q2).1 },(runR listR [] b q2).2):=rfl
 rw[hcl];simp only;have k3:=z7B (A q2++[B19,.box (XC16 c .nils)]) p b q2 (hgA _ _) hin2 hb;rw[hsA]at k3;have hin3:=z0f listR [] b q2 hin2;generalize runR listR [] b q2=w0 at k3 hin3⊢;obtain⟨v0,q3⟩:=w0;simp only at k3 hin3⊢;have hsub:Sub (.agg (XC16 c (mlV v0))) (reV ({ x0 (c.toNat:Int) with mt:=v0 })):=.agg (.cons (.refl _) <| .cons (.refl _) <| .cons (.refl _) <| .cons (.refl _) <| .cons (.refl _) <| .cons (.refl _) <| .cons (.refl _) <| .cons (.refl _) <| .cons (.refl _) <| .cons (.refl _) <| .cons (.refl _) <| .cons (.nils 3) <| .cons (.nils 3) <| .cons (.refl _) <| .cons (.refl _) <| .cons (.refl _) <| .cons (.nils 1) <| .cons (.nils 2) <| .cons (.refl _) <| .nil)
 have km:=(z2l (A q3++[B19,.box (XC16 c (mlV v0))]) ({ x0 (c.toNat:Int) with mt:=v0 })).subA (.cons hsub .nil)
 have ke:=z0b (A q3++[B19,.box (XC16 c (mlV v0))]) p b q3 (mayR ({ x0 (c.toNat:Int) with mt:=v0 })) (hgA _ _) hin3 hb
 rw[hsA]at ke;generalize mayR ({ x0 (c.toNat:Int) with mt:=v0 })=okm at km ke⊢
 generalize took q3 0 okm=qe at ke⊢;refine Ans.subR ?_ hsub;refine Ans.of_run' t102 (fun hbel _=>?_)
 simp -implicitDefEqProofs only[c102,r102,go_sem,hgA,hsA,gs,hn,ap4];refine CO.intro k0 ?_;simp -implicitDefEqProofs only[go_sem,bc,wc,hgA,hsA,gs,hn,ap4];refine CO.intro k1 ?_;simp -implicitDefEqProofs only[go_sem];refine CO.intro k2 ?_;simp -implicitDefEqProofs only[go_sem,bc,hgA,hsA,gs,hn,ap4];refine CO.intro k3 ?_;simp -implicitDefEqProofs only[go_sem,bc,hgA,hsA,gs,hn,ap4];refine CO.intro km ?_;simp -implicitDefEqProofs only[go_sem];refine CO.intro ke ?_;simp -implicitDefEqProofs only[go_sem,hgA,hsA,gs,hn,ap4]
 have hbl:Bel (A qe).length (.agg (XC16 c (mlV v0))):=.agg _ (fun i hi=>by
  have:∀y∈(XC16 c (mlV v0):List AV),Bel (A qe).length y:=by
   intro y hy;simp only[List.mem_cons,List.not_mem_nil,or_false]at hy;rcases hy with rfl|rfl|rfl|rfl|rfl|rfl|rfl|rfl|rfl|rfl|rfl|rfl|rfl|rfl|rfl|rfl|rfl|rfl|rfl
   all_goals first|exact .pl _|exact .nils|exact z0x _ _|exact z1h _ _|exact z0z _ _
  exact this _ (List.getElem_mem hi))
 exact Fini.trim2 (σ':=A qe) (ex:=[_,_]) (by simp -implicitDefEqProofs only[go_sem,resA,z01,rvA,oneOf,gs]<;>rfl) rfl (Nat.le_of_eq (by simp only[hn])) hbl (fun o ho=>by
  rw[←hs q qe]at ho;rw[hn];rw[hn]at hbel
  exact z21 (o:=rob b qe) hbel (z3d _ _) o ho)
end
theorem zdb (A:Nat×Bool→St) (n p:Nat) (b:Byt) (hn:∀q,(A q).length=n) (hg:∀q,(A q)[p]?=some (rob b q)) (hs:∀q q',(A q).set p (rob b q')=A q') (hb:b.length≤50000) (q:Nat×Bool) (hq:Inb b q) :
  Ans Tryz.prog 102 [.ptr p 0] (A q) (reV (bodyS b q).1) (A (bodyS b q).2):=by
 cases hc:runR byteR 0 b q with
 |mk c q1 =>
 have hm:=z8n (c.toNat:Int)
 cases hf:fOf (c.toNat:Int) with
 |mk f ok =>
 rw[hf]at hm;simp only[List.mem_cons,List.not_mem_nil,or_false]at hm;rcases hm with rfl|rfl|rfl|rfl|rfl|rfl|rfl|rfl|rfl
 · exact zg1 A n p b hn hg hs hb q hq c q1 hc ok hf
 · exact zg2 A n p b hn hg hs hb q hq c q1 hc ok hf
 · exact zg3 A n p b hn hg hs hb q hq c q1 hc ok hf
 · exact zd7 A n p b hn hg hs hb q hq c q1 hc ok hf
 · exact zd8 A n p b hn hg hs hb q hq c q1 hc ok hf
 · exact zg4 A n p b hn hg hs hb q hq c q1 hc ok hf
 · exact zd9 A n p b hn hg hs hb q hq c q1 hc ok hf
 · exact zda A n p b hn hg hs hb q hq c q1 hc ok hf
 · exact zeV A n p b hn hg hs hb q hq c q1 hc ok hf
def wholeO {α:Type} (o:Option (α×Byt)):Option α:=match o with
 |some (x,[])=>some x
 |_=>none
theorem z4B {α:Type} {b:Byt} {rd:Rd α} {st:Nat×Bool→α×(Nat×Bool)} (h:StepsR b rd st) (he:EndsR rd) :
  wholeO (rd b)=if !(st (0,false)).2.2&&decide ((st (0,false)).2.1=b.length) then some (st (0,false)).1 else none:=by
 cases hr:rd b with
 |none=>rw[h.top.2 hr];rfl
 |some p =>
  obtain⟨x,t⟩:=p;rw[h.top.1 x t hr];obtain⟨w,hw⟩:=he _ _ _ hr;have hl:b.length=w.length+t.length:=by rw[hw,List.length_append]
  cases t with
  |nil=>simp[wholeO]
  |cons c t =>
   have:¬(b.length-(c::t).length=b.length):=by simp only[List.length_cons]at hl⊢;omega
   simp only[wholeO,Bool.not_false,Bool.true_and,decide_eq_false this,Bool.false_eq_true,if_false]
abbrev noRe:ReM:=x0 0
def noReV:AV:=.agg [Sx ⟨#[]⟩,I 0,I 0,Sx ⟨#[]⟩,UN 0,UN 0,I 0,.nils,Bo false,Fl 0,Fl 0,.nils,.nils,Bo false,Fl 0,Fl 0,.nils,.nils,Fl 0]
theorem z9j:Sub noReV (reV noRe):=.agg (.cons (.refl _) (.cons (.refl _) (.cons (.refl _) (.cons (.refl _) (.cons (.refl _) (.cons (.refl _) (.cons (.refl _) (.cons (.nils 3) (.cons (.refl _) (.cons (.refl _) (.cons (.refl _) (.cons (.nils 3) (.cons (.nils 3) (.cons (.refl _) (.cons (.refl _) (.cons (.refl _) (.cons (.nils 1) (.cons (.nils 2) (.cons (.refl _) .nil)))))))))))))))))))
theorem z5C (n:Nat):Bel n noReV:=.agg _ fun i hi=>by
 have:∀y∈([Sx ⟨#[]⟩,I 0,I 0,Sx ⟨#[]⟩,UN 0,UN 0,I 0,.nils,Bo false,Fl 0,Fl 0,.nils,.nils,Bo false,Fl 0,Fl 0,.nils,.nils,Fl 0]:List AV),Bel n y:=by
  intro y hy;simp only[List.mem_cons,List.not_mem_nil,or_false]at hy;rcases hy with rfl|rfl|rfl|rfl|rfl|rfl|rfl|rfl|rfl|rfl|rfl|rfl|rfl|rfl|rfl|rfl|rfl|rfl|rfl
  all_goals first|exact .pl _|exact .nils
 exact this _ (List.getElem_mem hi)
theorem z8o (n:Nat) (r:ReM):Bel n (reV r):=.agg _ fun i hi=>by
 have:∀y∈reC r,Bel n y:=by
  intro y hy;unfold reC at hy;simp only[List.mem_cons,List.not_mem_nil,or_false]at hy;rcases hy with rfl|rfl|rfl|rfl|rfl|rfl|rfl|rfl|rfl|rfl|rfl|rfl|rfl|rfl|rfl|rfl|rfl|rfl|rfl
  all_goals first|exact .pl _|exact z0x _ _|exact z1h _ _|exact z0z _ _
 exact this _ (List.getElem_mem hi)
def z0Y (o:Option ReM):AV:=match o with
 |some x=>.tup [reV x,Bo true]
 |none=>.tup [reV noRe,Bo false]
def zbL (o:Option ReM):AV:=match o with
 |some x=>.tup [reV x,Bo true]
 |none=>.tup [noReV,Bo false]
theorem zbM (o:Option ReM):Sub (zbL o) (z0Y o):=by
 unfold zbL z0Y
 cases o with
 |none=>exact .tup (.cons z9j (.refl _))
 |some x=>exact .refl _
theorem z1k {n:Nat} {x:AV} {c:Bool} (h:Bel n x):Bel n (.tup [x,Bo c]):=.tup _ fun j hj=>by
 have:∀y∈([x,Bo c]:List AV),Bel n y:=by
  intro y hy;simp only[List.mem_cons,List.not_mem_nil,or_false]at hy;rcases hy with rfl|rfl
  · exact h
  · exact .pl _
 exact this _ (List.getElem_mem hj)
def fitQ (b:Byt) (q:Nat×Bool) (x:ReM):Option ReM:=if !q.2&&decide (q.1=b.length) then some x else none
theorem zaf (n:Nat) (o:Option ReM):Bel n (z0Y o):=by
 unfold z0Y
 cases o with
 |none=>exact z1k (z8o _ _)
 |some x=>exact z1k (z8o _ _)
section
variable (σ:St)
theorem zbN (p:Nat) (b:Byt) (q:Nat×Bool) (x:ReM) (h:σ[p]?=some (rob b q)):Ans Tryz.prog 101 [reV x,.ptr p 0,.sl 1 (byv b)] σ (z0Y (fitQ b q x)) σ:=by
 refine Ans.subR ?_ (zbM _);have hp:p<σ.length:=(List.getElem?_eq_some_iff.1 h).1;have hz:∀ob,(σ++[ob])[p]?=some (rob b q):=fun ob=>by rw[List.getElem?_append_left hp];exact h
 have h1:=z2s (σ++[B19]) p b q (hz _);have hbx:=z8o σ.length x;obtain⟨a,bad⟩:=q;refine Ans.of_run' t101 (fun hbel _=>?_)
 unfold zbL fitQ;unfold reV reC at hbx⊢
 cases bad with
 |true =>
  simp -implicitDefEqProofs only[c101,r101,go_sem,g0,s0];refine CO.intro h1 ?_;simp -implicitDefEqProofs only[go_sem,g0,s0];exact Fini.trim2 (σ':=σ) (ex:=[_]) (by simp -implicitDefEqProofs only[go_sem,resA,z01,rvA,oneOf,g0]<;>rfl) rfl (Nat.le_refl _) (z1k (z5C _)) hbel
 |false =>
  have e1:(((a:Nat):Int) != (b.length:Nat))= !decide (a=b.length):=by
   rw[bne];congr 1
   rw[Bool.eq_iff_iff];simp only[beq_iff_eq,decide_eq_true_eq];omega
  by_cases he:a=b.length
  · have e2:(((a:Nat):Int) != (b.length:Nat))=false:=by rw[e1,decide_eq_true he];rfl
    have e3:(!(a,false).2&&decide ((a,false).1=b.length))=true:=by simp[he]
    rw[if_pos e3];simp -implicitDefEqProofs only[c101,r101,go_sem,g0,s0];refine CO.intro h1 ?_;simp -implicitDefEqProofs only[go_sem,z02,e2,g0,s0];exact Fini.trim2 (σ':=σ) (ex:=[_]) (by simp -implicitDefEqProofs only[go_sem,resA,z01,rvA,oneOf,g0]<;>rfl) rfl (Nat.le_refl _) (z1k hbx) hbel
  · have e2:(((a:Nat):Int) != (b.length:Nat))=true:=by rw[e1,decide_eq_false he];rfl
    have e3:¬(!(a,false).2&&decide ((a,false).1=b.length))=true:=by simp[he]
    rw[if_neg e3];simp -implicitDefEqProofs only[c101,r101,go_sem,g0,s0];refine CO.intro h1 ?_;simp -implicitDefEqProofs only[go_sem,z02,e2,g0,s0];exact Fini.trim2 (σ':=σ) (ex:=[_]) (by simp -implicitDefEqProofs only[go_sem,resA,z01,rvA,oneOf,g0]<;>rfl) rfl (Nat.le_refl _) (z1k (z5C _)) hbel
theorem z7K (b:Byt) (hb:b.length≤50000):Ans Tryz.prog 75 [.sl 1 (byv b)] σ (z0Y (wholeO (bodyR b))) σ:=by
 rw[z4B (zae b) zbJ];have h1:=zdb (fun q=>σ++[B19,rob b q]) (σ.length+2) (σ.length+1) b (fun q=>by simp) (fun q=>g1 _ _ _ _) (fun q q'=>s1 _ _ _ _ _) hb (0,false) (Inb0 b)
 generalize bodyS b (0,false)=w at h1⊢;obtain⟨x,q⟩:=w;simp only at h1⊢;have h2:=zbN (σ++[B19,rob b q]) (σ.length+1) b q x (g1 _ _ _ _);unfold fitQ at h2;generalize (if(!q.2&&decide (q.1=b.length))=true then some x else none)=o at h2⊢
 have hbo:=zaf σ.length o
 have key:∃(y:ReM) (c:Bool),z0Y o=.tup [reV y,Bo c]:=by
  unfold z0Y
  cases o with
  |none=>exact⟨_,_,rfl⟩
  |some y=>exact⟨_,_,rfl⟩
 obtain⟨y,c,hy⟩:=key;rw[hy]at h2 hbo⊢;refine Ans.of_run' t75 (fun hbel _=>?_)
 unfold reV reC at *;simp -implicitDefEqProofs only[c75,r75,go_sem];refine CO.intro (new_ans _ b) ?_;simp -implicitDefEqProofs only[go_sem,List.append_assoc,List.length_append];refine CO.intro h1 ?_;simp -implicitDefEqProofs only[go_sem];refine CO.intro h2 ?_;simp -implicitDefEqProofs only[go_sem,g0,s0];exact Fini.trim2 (σ':=σ) (ex:=[_,_]) (by simp -implicitDefEqProofs only[go_sem,resA,z01,rvA,oneOf,g0]<;>rfl) rfl (Nat.le_refl _) hbo hbel
end
def dTab:List ByteArray:=[⟨#[45]⟩,⟨#[73]⟩,⟨#[73,84]⟩,⟨#[73,84]⟩,⟨#[83,69,77,66]⟩,⟨#[73,83,69,77,66]⟩,⟨#[73]⟩,⟨#[90]⟩,⟨#[82]⟩,⟨#[73]⟩,⟨#[76,86]⟩,⟨#[73]⟩,⟨#[77]⟩,⟨#[45]⟩,⟨#[73]⟩,⟨#[45]⟩,⟨#[45]⟩]
def dOf (op:Int):ByteArray:=if 1≤op∧op≤17 then dTab.getD (op.toNat-1) ⟨#[]⟩ else⟨#[]⟩
theorem zbO {op:Int} (h:op<1∨17<op):dOf op=⟨#[]⟩:=by unfold dOf;rw[if_neg (by omega)]
def hasC (s:ByteArray) (c:Nat):Bool:=!((List.range s.size).all fun i=>!((byteAt s i:Int)==(c:Int)))
section
variable (σ:St)
theorem z0l (op:Int):Ans Tryz.prog 77 [I op] σ (Sx (dOf op)) σ:=by
 refine Ans.of_run t77 ?_;rcases ops17 op with rfl|rfl|rfl|rfl|rfl|rfl|rfl|rfl|rfl|rfl|rfl|rfl|rfl|rfl|rfl|rfl|rfl|h
 all_goals first
  |(rw[zbO h]
    simp -implicitDefEqProofs only[c77,r77,go_sem,neI (op:=op) (k:=1) (by omega),neI (op:=op) (k:=2) (by omega),neI (op:=op) (k:=3) (by omega),neI (op:=op) (k:=4) (by omega),neI (op:=op) (k:=5) (by omega),neI (op:=op) (k:=6) (by omega),neI (op:=op) (k:=7) (by omega),neI (op:=op) (k:=8) (by omega),neI (op:=op) (k:=9) (by omega),neI (op:=op) (k:=10) (by omega),neI (op:=op) (k:=11) (by omega),neI (op:=op) (k:=12) (by omega),neI (op:=op) (k:=13) (by omega),neI (op:=op) (k:=14) (by omega),neI (op:=op) (k:=15) (by omega),neI (op:=op) (k:=16) (by omega),neI (op:=op) (k:=17) (by omega)]
    exact Fini.ret rfl)
  |(simp -implicitDefEqProofs only[c77,r77,go_sem]
    exact Fini.ret rfl)
theorem z2m (s:ByteArray):Ans Tryz.prog 104 [Sx s] σ (Bo (tokB s)) σ:=by
 have d1:decide ((4:Int)≤(s.size:Nat))=decide (4≤s.size):=intle 4 s.size;have d2:decide (((s.size:Nat):Int)≤16)=decide (s.size≤16):=intle s.size 16;refine Ans.of_run t104 ?_;unfold tokB
 cases h:decide (4≤s.size) with
 |false =>
  simp -implicitDefEqProofs only[c104,r104,go_sem,d1,h];exact Fini.ret rfl
 |true =>
  simp -implicitDefEqProofs only[c104,r104,go_sem,d1,d2,h];exact Fini.ret rfl
theorem z1s (x:Bnd):Ans Tryz.prog 106 [bandV x] σ (Bo (noBd x)) σ:=by
 obtain⟨a,lo,hi⟩:=x;refine Ans.of_run t106 ?_;unfold bandV noBd;simp only
 cases a with
 |true =>
  simp -implicitDefEqProofs only[c106,r106,go_sem];exact Fini.ret rfl
 |false =>
  simp -implicitDefEqProofs only[c106,r106,go_sem];refine CO.intro (z1i σ lo) ?_;unfold zF
  cases h:(((bitsF lo:Nat):Int)==0) with
  |false =>
   simp -implicitDefEqProofs only[go_sem,h];exact Fini.ret rfl
  |true =>
   simp -implicitDefEqProofs only[go_sem,h];refine CO.intro (z1i σ hi) ?_;simp -implicitDefEqProofs only[go_sem];exact Fini.ret rfl
theorem z1E (r:RuM):Ans Tryz.prog 109 [ruV r] σ (Bo (noRl r)) σ:=by
 have hb:=z1s σ (r.any,r.lo,r.hi)
 have e:noRl r=(emI r.src.length&&(emI r.tgt.length&&(noBd (r.any,r.lo,r.hi)&&emI r.eq.length))):=by
  unfold noRl;cases emI r.src.length<;>cases emI r.tgt.length<;>cases emI r.eq.length<;>cases noBd (r.any,r.lo,r.hi)<;>rfl
 rw[e];refine Ans.of_run t109 ?_;unfold ruV emI;unfold bandV at hb
 cases h1:(((r.src.length:Nat):Int)==0) with
 |false =>
  simp -implicitDefEqProofs only[c109,r109,go_sem,z0s,h1];exact Fini.ret rfl
 |true =>
 cases h2:(((r.tgt.length:Nat):Int)==0) with
 |false =>
  simp -implicitDefEqProofs only[c109,r109,go_sem,z0s,h1,h2];exact Fini.ret rfl
 |true =>
  simp -implicitDefEqProofs only[c109,r109,go_sem,z0s,z1l,h1,h2];refine CO.intro hb ?_
  cases noBd (r.any,r.lo,r.hi) with
  |false =>
   simp -implicitDefEqProofs only[go_sem];exact Fini.ret rfl
  |true =>
   simp -implicitDefEqProofs only[go_sem,z1l];exact Fini.ret rfl
theorem z2n (s:ByteArray) (c:Nat) (hs:s.size≤100000):Ans Tryz.prog 103 [Sx s,.pl (.int .u8 c)] σ (Bo (hasC s c)) σ:=by
 refine Ans.of_run t103 ?_;simp -implicitDefEqProofs only[c103,r103,go_sem];unfold hasC;refine Go.Ab.L.scan s.size (fun i=>!((byteAt s i:Int)==(c:Int))) (fun i=>mkE 17 [(0,Sx s),(1,.pl (.int .u8 c)),(5,I i)]) (fun _=>σ) ?_ ?_ rfl rfl
 · intro i hi hp J hJ;have hlt:((i:Int)<s.size)=True:=by simp;omega
   have hin:=wrap_succ (i:=i) (by omega)
   have hF:(!((byteAt s i:Int)==(c:Int)))=false→((List.range s.size).all fun i=>!((byteAt s i:Int)==(c:Int)))=false:=fun h=>List.all_eq_false.2 ⟨i,List.mem_range.2 hi,by rw[h];decide⟩
   cases h:((byteAt s i:Int)==(c:Int)) with
   |true =>
    rw[hF (by rw[h];rfl)]
    simp -implicitDefEqProofs only[mkE,go_sem,hlt,dec_lt hi,z09,h];exact Fini.ret rfl
   |false =>
    rw[h]at hJ;have hgo:=hJ rfl;simp -implicitDefEqProofs only[mkE,go_sem,hlt,dec_lt hi,z09,h,hin];exact hgo
 · intro hp J;have hd:decide ((s.size:Int)<s.size)=false:=by simp
   simp -implicitDefEqProofs only[mkE,go_sem,hd];refine Fini.ret' rfl (z16 ?_);rw[List.all_eq_true.2 fun i hi=>hp i (List.mem_range.1 hi)];rfl
end
theorem zeW (b:Byt):labR b=(textR 12 b).bind fun p=>(textR 24 p.2).map fun q=>((p.1,q.1),q.2):=rfl
section
variable (σ:St)
theorem zdc (v:ByteArray):Ans Tryz.prog 135 [Sx v] σ (Bo (valB v)) σ:=by
 have d1:decide ((1:Int)≤(v.size:Nat))=decide (1≤v.size):=intle 1 v.size;have d2:decide (((v.size:Nat):Int)≤24)=decide (v.size≤24):=intle v.size 24;refine Ans.of_run t135 ?_;unfold valB
 cases h:decide (1≤v.size) with
 |false =>
  simp -implicitDefEqProofs only[c135,r135,go_sem,d1,h];exact Fini.ret rfl
 |true =>
  simp -implicitDefEqProofs only[c135,r135,go_sem,d1,d2,h];exact Fini.ret rfl
theorem z2b (L:List Lab) (hs:∀x∈L,x.1.size≤100000):Ans Tryz.prog 110 [.sl 2 (lvs L)] σ (Bo (setB L)) σ:=by
 have e1:decide ((L.length:Int)<1)= !decide (1≤L.length):=by
  by_cases h:1≤L.length
  · rw[decide_eq_true h,decide_eq_false (by omega)];rfl
  · rw[decide_eq_false h,decide_eq_true (by omega)];rfl
 have e2:decide ((6:Int)<L.length)= !decide (L.length≤6):=by
  by_cases h:L.length≤6
  · rw[decide_eq_true h,decide_eq_false (by omega)];rfl
  · rw[decide_eq_false h,decide_eq_true (by omega)];rfl
 refine Ans.of_run t110 ?_;unfold setB
 cases h1:decide (1≤L.length) with
 |false =>
  simp -implicitDefEqProofs only[c110,r110,go_sem,z1z,e1,h1];exact Fini.ret rfl
 |true =>
 cases h2:decide (L.length≤6) with
 |false =>
  simp -implicitDefEqProofs only[c110,r110,go_sem,z1z,e1,e2,h1,h2];exact Fini.ret rfl
 |true =>
 have hl6:L.length≤6:=of_decide_eq_true h2;simp -implicitDefEqProofs only[c110,r110,go_sem,z1z,e1,e2,h1,h2];refine Go.Ab.L.scan L.length (labOk L) (fun i=>mkE 52 [(0,.sl 2 (lvs L)),(3,I i)]) (fun _=>σ) ?_ ?_ rfl rfl
 · intro i hi hp J hJ;have hx:=lvs_D L i hi;have hF:labOk L i=false→(List.range L.length).all (labOk L)=false:=fun h=>List.all_eq_false.2 ⟨i,List.mem_range.2 hi,by rw[h];decide⟩
   have hin:=wrap_succ (i:=i) (by omega)
   have d0:decide ((0:Int)<i)=decide (0<i):=by rw[Bool.eq_iff_iff];simp
   have hO:labOk L i=(nameB (L.getD i noLb).1&&(valB (L.getD i noLb).2&& !(decide (0<i)&&leS (L.getD i noLb).1 (L.getD (i-1) noLb).1))):=rfl
   have hsz:(L.getD i noLb).1.size≤100000:=by
    rw[List.getD_eq_getElem?_getD,List.getElem?_eq_getElem hi];exact hs _ (List.getElem_mem hi)
   rw[hO]at hJ hF;generalize L.getD i noLb=x at hJ hF hx hsz;obtain⟨nm,v⟩:=x;simp only at hJ hF hx hsz;have n1:=fun s=>z5v s nm hsz
   have n2:=fun s=>zdc s v
   simp -implicitDefEqProofs only[mkE,go_sem,z06,z1z,z0F hi,dec_lt hi,hx]
   first|refine CD.intro (n1 _) ?_|refine CS.intro n1 ?_
   cases hb1:nameB nm with
   |false =>
    rw[hb1]at hF;rw[hF rfl];simp -implicitDefEqProofs only[go_sem,z06];exact Fini.ret rfl
   |true =>
    rw[hb1]at hF hJ;simp -implicitDefEqProofs only[go_sem,z06,z1z,z0F hi,hx]
    first|refine CD.intro (n2 _) ?_|refine CS.intro n2 ?_
    cases hb2:valB v with
    |false =>
     rw[hb2]at hF;rw[hF rfl];simp -implicitDefEqProofs only[go_sem,z06];exact Fini.ret rfl
    |true =>
     rw[hb2]at hF hJ;by_cases hz:i=0
     · subst hz;have hgo:=hJ rfl;simp -implicitDefEqProofs only[go_sem,z06,d0,hin];exact hgo
     · have hpos:decide (0<i)=true:=decide_eq_true (by omega)
       have hx1:=lvs_D L (i-1) (by omega)
       have w1:IntKind.i64.wrap ((i:Int)-1)=((i-1:Nat):Int):=by rw[wrapN (by omega) (by omega)];omega
       have hlt1:(((i-1:Nat):Int)<L.length)=True:=by simp;omega
       rw[hpos]at hJ hF;generalize L.getD (i-1) noLb=x1 at hJ hF hx1;obtain⟨nm1,v1⟩:=x1;simp only at hJ hF hx1;have hle:(Op.bytesLess nm.toList nm1.toList||nm.toList==nm1.toList)=leS nm nm1:=rfl;simp -implicitDefEqProofs only[go_sem,z06,d0,hpos,w1,z1z,z0F hi,hx,hlt1,hx1,hle]
       cases h7:leS nm nm1 with
       |true =>
        rw[h7]at hF;rw[hF rfl];simp -implicitDefEqProofs only[go_sem];exact Fini.ret rfl
       |false =>
        rw[h7]at hJ;have hgo:=hJ rfl;simp -implicitDefEqProofs only[go_sem,hin];exact hgo
 · intro hp J;have hd:decide ((L.length:Int)<L.length)=false:=by simp
   simp -implicitDefEqProofs only[mkE,go_sem,z1z,hd];refine Fini.ret' rfl (z16 ?_);exact(List.all_eq_true.2 fun i hi=>hp i (List.mem_range.1 hi)).symm
end
theorem z5D (σ:St) (b:Byt) (hb:b.length≤50000):Ans Tryz.prog 140 [.sl 1 (byv b)] σ (readV (setR b) b lsV .nils) σ:=by
 refine Ans.of_run' t140 (fun hbel _=>?_)
 simp -implicitDefEqProofs only[c140,r140,go_sem];refine CO.intro (z19 σ b (by omega)) ?_
 cases hg:getN 0 b with
 |none =>
  have hR:setR b=none:=by simp only[setR,onlyR,rowR,numR,hg,Option.bind_none]
  rw[z0A hg,hR];simp -implicitDefEqProofs only[go_sem];exact Fini.ret rfl
 |some p =>
  obtain⟨n,t⟩:=p;rw[z0G hg];have e1:decide ((6:Int)<n)=decide (6<n):=decNN 6 n;by_cases h5:6<n
  · have hR:setR b=none:=by simp only[setR,onlyR,rowR,numR,hg,Option.bind_some,show ¬n≤6 by omega,if_false,Option.bind_none]
    rw[hR];simp -implicitDefEqProofs only[go_sem,e1,decide_eq_true h5];exact Fini.ret rfl
  · have hN:numR 6 b=some (n,t):=by simp only[numR,hg,Option.bind_some,show n≤6 by omega,if_true]
    have hR:setR b=(manyR labR n t).bind fun x=>if setB x.1 then some x else none:=by simp only[setR,onlyR,rowR,hN,Option.bind_some]
    obtain⟨hd0,_,hl0⟩:=(ends_num 6).drop (b:=b) (a:=0) (Nat.zero_le _) hN;have hwn:=wrapI (a:=n) (by omega)
    simp -implicitDefEqProofs only[go_sem,e1,decide_eq_false h5]
    refine Go.Ab.L.intro (α:={ p:Nat×List Lab×Nat // p.1≤n∧p.2.1.length=p.1∧p.2.2≤b.length∧(∀x∈p.2.1,x.1.size≤100000)∧manyR labR n t=(manyR labR (n-p.1) (b.drop p.2.2)).map fun r=>(p.2.1++r.1,r.2) }) (fun p=>n-p.1.1)
     (fun p=>mkE 71 [(0,.sl 1 (byv b)),(5,UN n),(6,I p.1.2.2),(8,.osl σ.length p.1.1),(9,I p.1.1)]) (fun p=>σ++[.row 2 (lvs p.1.2.1)]) ?_ ⟨(0,[],b.length-t.length),Nat.zero_le _,rfl,Nat.sub_le _ _,by simp,by rw[hd0];cases manyR labR n t<;>simp⟩ rfl rfl
    rintro⟨⟨i,l,at_⟩,hi,hll,hat,hsz,hm⟩ J hJ;simp only at hi hll hat hsz hm hJ;have hlm:(lvs l).length=i:=by rw[z1z,hll]
    have hbm:∀k,Bel k (.sl 2 (lvs l)):=fun k=>z0z _ _
    by_cases hlt:i<n
    · obtain⟨m,hmm⟩:∃m,n-i=m+1:=⟨n-i-1,by omega⟩
      rw[hmm,z5A,zeW]at hm;have d0:decide ((i:Int)<n)=true:=dec_lt hlt;have leA:(((at_:Nat):Int)≤(b.length:Nat))=True:=eq_true (by omega)
      simp -implicitDefEqProofs only[mkE,go_sem,hwn,d0,z02,leA,z0q,z0r,List.take_length,Int.le_refl];refine CO.intro (z13 _ (b.drop at_) 12 (by rw[List.length_drop];omega) (by decide)) ?_
      cases ht1:textR 12 (b.drop at_) with
      |none =>
       rw[ht1]at hm;simp only[Option.bind_none,Option.map_none]at hm;rw[hm]at hR;simp only[Option.bind_none]at hR;rw[z0C ht1,hR];simp -implicitDefEqProofs only[go_sem];exact Fini.trim2 (σ':=σ) rfl rfl (Nat.le_refl _) (by unfold readV;exact z0a .nils) hbel
      |some x1 =>
       obtain⟨nm,u2⟩:=x1;obtain⟨q1,q2,q3⟩:=(z0I 12).drop (b:=b) (a:=at_) hat ht1;have hs1:=((z0T (most:=12) (by decide)).bwd _ _ _ ht1).1
       have a1:=addN (a:=at_) (b:=(b.drop at_).length-u2.length) (by rw[List.length_drop];omega)
       have e2:at_+((b.drop at_).length-u2.length)=b.length-u2.length:=by rw[List.length_drop];omega
       rw[e2]at a1;have hle2:(((b.length-u2.length:Nat):Int)≤(b.length:Nat))=True:=eq_true (by omega)
       rw[z1e ht1];simp -implicitDefEqProofs only[go_sem,a1,z02,hle2,z0q,z0r,List.take_length,Int.le_refl,q1];refine CO.intro (z13 _ u2 24 (by omega) (by decide)) ?_
       rw[ht1]at hm;simp only[Option.bind_some]at hm
       cases ht2:textR 24 u2 with
       |none =>
        rw[ht2]at hm;simp only[Option.bind_none,Option.map_none]at hm;rw[hm]at hR;simp only[Option.bind_none]at hR;rw[z0C ht2,hR];simp -implicitDefEqProofs only[go_sem];exact Fini.trim2 (σ':=σ) rfl rfl (Nat.le_refl _) (by unfold readV;exact z0a .nils) hbel
       |some x2 =>
        obtain⟨v,u3⟩:=x2;have ht2':textR 24 (b.drop (b.length-u2.length))=some (v,u3):=by rw[q1];exact ht2
        obtain⟨z1,z2,z3⟩:=(z0I 24).drop (b:=b) (a:=b.length-u2.length) (by omega) ht2'
        have a2:=addN (a:=b.length-u2.length) (b:=u2.length-u3.length) (by omega)
        have e3:b.length-u2.length+(u2.length-u3.length)=b.length-u3.length:=by omega
        rw[e3]at a2;rw[ht2]at hm;simp only[Option.bind_some,Option.map_some]at hm;have hin:=wrap_succ (i:=i) (by omega)
        have hle:i+1≤4294967296:=by omega
        have hgo:=hJ ⟨(i+1,l++[(nm,v)],b.length-u3.length),by simp only;omega,by simp[hll],by simp only;omega,(by
         intro y hy;simp only[List.mem_append,List.mem_singleton]at hy;rcases hy with hy|rfl
         · exact hsz y hy
         · simp only;omega),(by
         simp only;rw[hm,z1,show n-(i+1)=m by omega]
         cases manyR labR m u3<;>simp)⟩ (by simp only;omega)
        have hsn:=z7G l (nm,v);rw[z1e ht2];simp -implicitDefEqProofs only[go_sem,a2,g0,s0,hlm,List.length_singleton,hle,hin];simp only[←hsn]at hgo;exact hgo
    · have hie:i=n:=by omega
      subst hie;have d0:decide ((i:Int)<i)=false:=by simp
      rw[Nat.sub_self]at hm;simp only[manyR,Option.map_some,List.append_nil]at hm;rw[hm]at hR;simp only[Option.bind_some]at hR;simp -implicitDefEqProofs only[mkE,go_sem,hwn,d0,g0,s0,hlm];refine CO.intro (z2b _ l hsz) ?_
      cases hlb:setB l with
      |false =>
       rw[hlb]at hR;simp only[Bool.false_eq_true,if_false]at hR;rw[hR];simp -implicitDefEqProofs only[go_sem];exact Fini.trim2 (σ':=σ) rfl rfl (Nat.le_refl _) (by unfold readV;exact z0a .nils) hbel
      |true =>
       rw[hlb]at hR;simp only[if_true]at hR;have hlen:b.length-(b.drop at_).length=at_:=by rw[List.length_drop];omega
       rw[hR];unfold readV;simp only[hlen];simp -implicitDefEqProofs only[go_sem];exact Fini.trim2 (σ':=σ) rfl rfl (Nat.le_refl _) (z0a (hbm _)) hbel
structure ReSm (r:ReM):Prop where
 mt:∀x∈r.mt,x.2.1.size≤100000
 ru:RSm r.ru
 ls:∀x∈r.ls,x.1.size≤100000
def docB (r:ReM) (s:ByteArray):Bool :=
 (hasC s 73||r.id==0)&&(decide (0≤r.id)&&(decide (r.id≤2147483647)&&((!hasC s 84||tokB r.txt)&&((hasC s 84||emS r.txt)&&((hasC s 83||emU r.st)&&((hasC s 83||emU r.en)&&(clkB r.st&&(clkB r.en&&((hasC s 90||r.sta==0)&&(decide (0≤r.sta)&&(decide (r.sta≤3)&&((hasC s 77||emI r.mt.length)&&((!hasC s 83|| !emI r.mt.length)&&(listB r.mt&&((hasC s 66||noBd (r.any,r.lo,r.hi))&&(mayB r.any r.lo r.hi&&((!hasC s 82||ruIs r.ru)&&((hasC s 82||noRl r.ru)&&(if hasC s 76 then setB r.ls else emI r.ls.length&&zF r.val)))))))))))))))))))
theorem ne_of {x:Int} {v:Bool} (h:(x==0)=v):(x != 0)= !v:=by rw[bne,h]
theorem lt_of {x:Int} {v:Bool} (h:decide (0≤x)=v):decide (x<0)= !v:=by
 rw[←h,Bool.eq_iff_iff];simp
theorem gt_of {x c:Int} {v:Bool} (h:decide (x≤c)=v):decide (c<x)= !v:=by
 rw[←h,Bool.eq_iff_iff];simp
abbrev S0:ByteArray:=⟨#[45]⟩
theorem hc_0:hasC S0 73=false∧hasC S0 84=false∧hasC S0 83=false∧hasC S0 90=false∧hasC S0 77=false∧hasC S0 66=false∧hasC S0 82=false∧hasC S0 76=false:=by decide +kernel
theorem hn_0:(S0.toList==(⟨#[]⟩:ByteArray).toList)=false:=by decide +kernel
abbrev S1:ByteArray:=⟨#[73]⟩
theorem hc_1:hasC S1 73=true∧hasC S1 84=false∧hasC S1 83=false∧hasC S1 90=false∧hasC S1 77=false∧hasC S1 66=false∧hasC S1 82=false∧hasC S1 76=false:=by decide +kernel
theorem hn_1:(S1.toList==(⟨#[]⟩:ByteArray).toList)=false:=by decide +kernel
abbrev S3:ByteArray:=⟨#[73,84]⟩
theorem hc_3:hasC S3 73=true∧hasC S3 84=true∧hasC S3 83=false∧hasC S3 90=false∧hasC S3 77=false∧hasC S3 66=false∧hasC S3 82=false∧hasC S3 76=false:=by decide +kernel
theorem hn_3:(S3.toList==(⟨#[]⟩:ByteArray).toList)=false:=by decide +kernel
abbrev S116:ByteArray:=⟨#[83,69,77,66]⟩
theorem zbP:hasC S116 73=false∧hasC S116 84=false∧hasC S116 83=true∧hasC S116 90=false∧hasC S116 77=true∧hasC S116 66=true∧hasC S116 82=false∧hasC S116 76=false:=by decide +kernel
theorem zg5:(S116.toList==(⟨#[]⟩:ByteArray).toList)=false:=by decide +kernel
abbrev S117:ByteArray:=⟨#[73,83,69,77,66]⟩
theorem zbQ:hasC S117 73=true∧hasC S117 84=false∧hasC S117 83=true∧hasC S117 90=false∧hasC S117 77=true∧hasC S117 66=true∧hasC S117 82=false∧hasC S117 76=false:=by decide +kernel
theorem zg6:(S117.toList==(⟨#[]⟩:ByteArray).toList)=false:=by decide +kernel
abbrev S8:ByteArray:=⟨#[90]⟩
theorem hc_8:hasC S8 73=false∧hasC S8 84=false∧hasC S8 83=false∧hasC S8 90=true∧hasC S8 77=false∧hasC S8 66=false∧hasC S8 82=false∧hasC S8 76=false:=by decide +kernel
theorem hn_8:(S8.toList==(⟨#[]⟩:ByteArray).toList)=false:=by decide +kernel
abbrev S128:ByteArray:=⟨#[82]⟩
theorem zbR:hasC S128 73=false∧hasC S128 84=false∧hasC S128 83=false∧hasC S128 90=false∧hasC S128 77=false∧hasC S128 66=false∧hasC S128 82=true∧hasC S128 76=false:=by decide +kernel
theorem zg7:(S128.toList==(⟨#[]⟩:ByteArray).toList)=false:=by decide +kernel
abbrev S768:ByteArray:=⟨#[76,86]⟩
theorem zbS:hasC S768 73=false∧hasC S768 84=false∧hasC S768 83=false∧hasC S768 90=false∧hasC S768 77=false∧hasC S768 66=false∧hasC S768 82=false∧hasC S768 76=true:=by decide +kernel
theorem zg8:(S768.toList==(⟨#[]⟩:ByteArray).toList)=false:=by decide +kernel
abbrev S16:ByteArray:=⟨#[77]⟩
theorem hc_16:hasC S16 73=false∧hasC S16 84=false∧hasC S16 83=false∧hasC S16 90=false∧hasC S16 77=true∧hasC S16 66=false∧hasC S16 82=false∧hasC S16 76=false:=by decide +kernel
theorem hn_16:(S16.toList==(⟨#[]⟩:ByteArray).toList)=false:=by decide +kernel
attribute [go_sem] Bool.not_false Bool.not_true hn_0 hn_1 hn_3 zg5 zg6 hn_8 zg7 zg8 hn_16
end Go.Proofs.YteakobbdgehlgaaGreatDoor
