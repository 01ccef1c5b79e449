/- What the package variables' readings give, in a call of this seat's laws. No condition. -/
import Derived.Test.YteakobbdgehlgaaGreatDoorRows
import Derived.Test.YteakobbdgehlgaaGreatDoorCards
import Derived.Test.YteakobbdgehlgaaGreatDoorTie
import Derived.Test.YteakobbdgehlgaaGreatDoorKRg3bH
import Derived.Test.YteakobbdgehlgaaGreatDoorKRowFH
import Derived.Test.YteakobbdgehlgaaGreatDoorKRq1H
import Derived.Test.YteakobbdgehlgaaGreatDoorAbGloH
import Derived.ProofKit
import Derived.LaidMore
import Derived.Stop.Joined
import Derived.SevenTiedAt
import Derived.Test.YteakobbdgehlgaaGreatDoorKZ3H
set_option linter.unusedSimpArgs false
set_option linter.unusedVariables false
set_option linter.unusedSectionVars false
namespace Go.Proofs.YteakobbdgehlgaaGreatDoor
open Go Go.Ab Go.ChangeShapes Go.WideShapes Go.ChangeAt Go.RowKit
set_option maxRecDepth 100000
theorem zf9:ownKnob Tryz.prog.godebug=none:=by kernel_rfl
theorem zfa:laidOutB Tryz.prog=true:=by kernel_rfl
def laidL : List (String × DataW Unit) := [("sordine/sha.keys", Rows.laid_sordine_sha_keys), ("sordine/sordineref1.k", Rows.laid_sordine_sordineref1_k)]
theorem gn0 : Tryz.prog.globalNamed "sordine/sha.keys" = some 0 := by kernel_rfl
theorem gn1 : Tryz.prog.globalNamed "sordine/sordineref1.k" = some 1 := by kernel_rfl
theorem gt0:(Tryz.prog.globals[0]?).map (·.type)=some 139:=by kernel_rfl
theorem gt1:(Tryz.prog.globals[1]?).map (·.type)=some 139:=by kernel_rfl
def gvK:List Int:=Sha.shaK.map fun n:Nat=>(n:Int)
theorem zic:gvK.map (Value.int .u32)=Sha.kV:=by kernel_rfl
theorem door_met (os:Os) (args:Array Value):laidMetH Tryz.prog laidL ((World.doorLaid Tryz.prog 19 os).forCall (fun _ _=>0) ⟨#[],args,[]⟩).memory :=
 laidMetH_of_parts3 (fuel:=8) (laidMet_of_run' 8 (by kernel_rfl) (by kernel_rfl)) (by kernel_rfl) (by kernel_rfl)
theorem zgQ {H:Type}:(Rows.laid_sordine_sha_keys:DataW H)=.agg (gvK.map fun v=>.lit (.int .u32 v)):=by kernel_rfl
theorem zgR {H:Type}:(Rows.laid_sordine_sordineref1_k:DataW H)=.agg (gvK.map fun v=>.lit (.int .u32 v)):=by kernel_rfl
theorem of_laid {W:World} (h:laidMetH Tryz.prog laidL W):∀o∈Sha.GG,Glo W o:=by
 intro o ho;rw[MakeChecks.laidMetH_plain _ _ _ (by kernel_rfl)]at h
 obtain⟨ps,⟨g0,t0,cs0,f0,p0,q0,hg0,ht0,hv0,hd0,⟨g1,t1,cs1,f1,p1,q1,hg1,ht1,hv1,hd1,_,_⟩,_⟩,_,_⟩:=h;obtain rfl:=Option.some.inj (gn0.symm.trans hg0);obtain rfl:=Option.some.inj (gt0.symm.trans ht0);obtain rfl:=Option.some.inj (gn1.symm.trans hg1);obtain rfl:=Option.some.inj (gt1.symm.trans ht1);rw[zgQ]at hd0;rw[zgR]at hd1;have k0:=z6P gn0 hv0 (z4p (vs:=gvK) (P:=Tryz.prog) (t:=139) (e:=102) (n:=64) (k:=.u32) (by kernel_rfl) (by kernel_rfl) (by kernel_rfl) (by kernel_rfl) hd0)
 have k1:=z6P gn1 hv1 (z4p (vs:=gvK) (P:=Tryz.prog) (t:=139) (e:=102) (n:=64) (k:=.u32) (by kernel_rfl) (by kernel_rfl) (by kernel_rfl) (by kernel_rfl) hd1)
 rw[zic]at k0 k1;simp only[List.mem_cons,List.not_mem_nil,or_false]at ho;rcases ho with rfl|rfl
 · exact k0
 · exact k1
theorem zdE {W:World} {x:AV} {v:Value} {R':Ref→Value→Prop} (h:Rep noM noR W x v):Rep noM R' W x v :=
 h.mono (fun b _ hm=>⟨hm,rfl⟩) fun r v h=>by cases r<;>simp[RefOK]at h
end Go.Proofs.YteakobbdgehlgaaGreatDoor
namespace Go.Proofs.YteakobbdgehlgaaGreatDoor
open Go Go.Ab Go.Cod
open Sha (bv txtR expB shaB z0s genB linkB z0x ChM z0f addCh takes boxC rowC z2X z0u kV heldM newCh)
set_option maxRecDepth 100000
attribute [local irreducible] Sha.shaB
structure SpM where
 ck:Nat
 a:AcM
 raw:Bool
 bd:Byt
 cd:Int
def spC (s:SpM):List AV:=UN s.ck::(acC s.a++[Bo s.raw,.sl 1 (byv s.bd),I s.cd])
def spV (s:SpM):AV:=.agg (spC s)
def bodyP (s:SpM):Byt:=if s.raw then s.bd else z65 (z08 s.a)
theorem z4q {s:SpM} (h:s.bd.length≤300):(bodyP s).length≤4000:=by
 unfold bodyP;split
 · omega
 · exact z9E _
def chM (o m:Int) (L:List RcM):ChM:=⟨heldM m,L,hdL o L⟩
def takP (o m:Int) (L:List RcM) (s:SpM):Bool:=takes (chM o m L) s.ck (bodyP s) s.cd
def recP (L:List RcM) (s:SpM):RcM:=⟨L.length,s.ck,bodyP s,s.cd⟩
def stepP (o m:Int) (L:List RcM) (s:SpM):List RcM:=if takP o m L s then L++[recP L s] else L
def noSp:SpM:=⟨0,noSt.a,false,[],0⟩
def plP (o m:Int) (l:List SpM):Nat→List RcM
 |0=>[]
 |i+1=>stepP o m (plP o m l i) (l.getD i noSp)
theorem zdF (o m:Int) (L:List RcM) (s:SpM):z0f (chM o m L) s.ck (bodyP s) s.cd=recP L s:=rfl
theorem zgS (o m:Int) (L:List RcM) (x:RcM):addCh (chM o m L) x=chM o m (L++[x]):=by unfold addCh chM;simp only;rw[z7u]
theorem zgT:bdB []=false:=by kernel_rfl
theorem zaN {c:ChM} {ck:Nat} {bd:Byt} {cd:Int} (h:takes c ck bd cd=true):rcIs (z0f c ck bd cd)=true:=by
 unfold takes at h;simp only[Bool.and_eq_true]at h;exact h.2.1
theorem z9H {r:RcM} (h:rcIs r=true):r.bd≠[]:=by
 intro e;unfold rcIs at h;rw[e,zgT]at h;simp at h
theorem zdG (c:ChM) (ck:Nat) (cd:Int):takes c ck [] cd=false:=by
 cases h:takes c ck [] cd with
 |false=>rfl
 |true=>exact absurd rfl (z9H (zaN h))
structure PlOk (m:Int) (L:List RcM):Prop where
 ne:∀r∈L,r.bd≠[]∧r.bd.length≤4000
theorem zdH {o m:Int} {L:List RcM} {s:SpM} (h:PlOk m L) (hs:s.bd.length≤300):PlOk m (stepP o m L s):=by
 unfold stepP;split
 · rename_i ht;refine⟨fun r hr=>?_⟩
   rcases List.mem_append.1 hr with hr|hr
   · exact h.ne r hr
   · obtain rfl:=List.mem_singleton.1 hr;exact⟨z9H (zaN ht),z4q hs⟩
 · exact h
theorem zdI (o m:Int) (l:List SpM):∀i,(∀j,j<i→(l.getD j noSp).bd.length≤300)→PlOk m (plP o m l i)
 |0,_=>⟨fun r hr=>nomatch hr⟩
 |i+1,h=>zdH (zdI o m l i fun j hj=>h j (by omega)) (h i (by omega))
section
variable (σ:St)
theorem zfb (s:SpM):Ans Tryz.prog 18 [.agg (spC s)] σ (.sl 1 (byv (bodyP s))) σ:=by
 have u1:=fun s'=>z9D s' s.a
 have u2:=fun s'=>zdD s' (z08 s.a) (zi9 (zdB s.a))
 unfold spC bodyP;unfold reV at u1 u2;generalize reC (z08 s.a)=rq at u1 u2;generalize z65 (z08 s.a)=bb at u2⊢;generalize s.bd=b;unfold acV acC at u1;unfold acC;refine Ans.of_run t18 ?_
 cases hr:s.raw with
 |true =>
  simp -implicitDefEqProofs only[c18,r18,go_sem,hr];exact Fini.ret rfl
 |false =>
  simp -implicitDefEqProofs only[c18,r18,go_sem,hr];refine CO.intro (u1 _) ?_;simp -implicitDefEqProofs only[go_sem];refine CO.intro (u2 _) ?_;simp -implicitDefEqProofs only[go_sem];exact Fini.ret rfl
theorem clone_nil:Ans Tryz.prog 44 [.sl 1 []] σ (.sl 1 []) σ:=Ans.splitSl (pre:=[]) (post:=[]) fun a cap=>by
 cases a with
 |none =>
  refine Ans.subR (r:=.nils) ?_ (Sub.nils 1);refine Ans.of_run t44 ?_;simp -implicitDefEqProofs only[c44,r44,go_sem,nilA2,nilA,Option.isNone_none];exact Fini.ret rfl
 |some a =>
  have e:nilA2 σ false (.pl (.slice (some a) 0 cap))=some false:=rfl;refine Ans.of_run' t44 (fun hbel _=>?_)
  have k0:((0:Nat)≤2^32)=True:=eq_true (by decide)
  simp -implicitDefEqProofs only[c44,r44,go_sem,nilA2,nilA,Option.isNone_some,g0,s0,k0];exact Fini.trim2 (σ':=σ) (ex:=[_]) rfl rfl (Nat.le_refl _) (.sl 1 [] fun i hi=>absurd hi (Nat.not_lt_zero _)) hbel
theorem z8I (p q:Nat) (c:ChM) (ck:Nat) (cd:Int) (hp:σ[p]?=some (boxC q c)) (hq:c.L≠[]→σ[q]?=some (.row 4 (c.L.map rcV))) (hpl:p<σ.length) (hql:c.L≠[]→q<σ.length) (hh:c.head.length=32) :
  Ans Tryz.prog 16 [.ptr p 0,UN ck,.sl 1 [],I cd] σ (Bo false) σ:=by
 have hcl:=fun s=>clone_nil s
 have hp':∀ex,(σ++ex)[p]?=some (boxC q c):=fun ex=>by rw[List.getElem?_append_left hpl];exact hp
 have hq':c.L≠[]→∀ex,(σ++ex)[q]?=some (.row 4 (c.L.map rcV)):=fun h ex=>by rw[List.getElem?_append_left (hql h)];exact hq h
 have hfu:∀ex,Ans Tryz.prog 13 [.ptr p 0] (σ++ex) (Bo (decide (c.most≤(c.L.length:Int)))) (σ++ex):=fun ex=>Sha.full_ans (σ++ex) p q c (hp' ex) (fun h=>hq' h ex)
 have hri:∀s,Ans Tryz.prog 45 [rcV (z0f c ck [] cd)] s (Bo (rcIs (z0f c ck [] cd))) s:=fun s=>z5a s (z0f c ck [] cd) (Nat.zero_le _)
 have h0:rcIs (z0f c ck [] cd)=false:=by
  cases h:rcIs (z0f c ck [] cd) with
  |false=>rfl
  |true=>exact absurd rfl (z9H h)
 rw[h0]at hri;have hrr:rcV (z0f c ck [] cd)=.agg [I (c.L.length:Nat),UN ck,.sl 1 [],I cd]:=rfl;simp only[hrr]at hri;have hml:=z4o c.L;unfold Sha.boxC Sha.rowC at hp hp';generalize decide (c.most≤(c.L.length:Int))=F at hfu;generalize bv c.head=hd at hp hp';refine Ans.of_run' t16 (fun hbel _=>?_)
 cases hE:c.L.isEmpty with
 |true =>
  have h0:c.L=[]:=by simpa using hE
  rw[h0]at hri;simp only[List.length_nil]at hri;simp only[hE,if_true]at hp hp';simp -implicitDefEqProofs only[c16,r16,go_sem,hp',hp,z00]
  first|refine CD.intro (hcl _) ?_|refine CS.intro hcl ?_
  simp -implicitDefEqProofs only[go_sem,hp',hp,g0,s0,z00];refine CD.intro (hfu _) ?_
  cases F with
  |true =>
   simp -implicitDefEqProofs only[go_sem,z00];exact Fini.trim2 (σ':=σ) (ex:=[_]) rfl rfl (Nat.le_refl _) (.pl _) hbel
  |false =>
   simp -implicitDefEqProofs only[go_sem,g0,z00];refine CD.intro (hri _) ?_;simp -implicitDefEqProofs only[go_sem,z00,g0];exact Fini.trim2 (σ':=σ) (ex:=[_]) rfl rfl (Nat.le_refl _) (.pl _) hbel
 |false =>
  have hq:=hq (by intro h;rw[h]at hE;cases hE)
  have hq':=hq' (by intro h;rw[h]at hE;cases hE)
  simp only[hE,Bool.false_eq_true,if_false]at hp hp';simp -implicitDefEqProofs only[c16,r16,go_sem,hp',hp,hq,hq',hml,z00]
  first|refine CD.intro (hcl _) ?_|refine CS.intro hcl ?_
  simp -implicitDefEqProofs only[go_sem,hp',hp,hq,hq',hml,g0,s0,z00];refine CD.intro (hfu _) ?_
  cases F with
  |true =>
   simp -implicitDefEqProofs only[go_sem,z00];exact Fini.trim2 (σ':=σ) (ex:=[_]) rfl rfl (Nat.le_refl _) (.pl _) hbel
  |false =>
   simp -implicitDefEqProofs only[go_sem,g0,z00];refine CD.intro (hri _) ?_;simp -implicitDefEqProofs only[go_sem,z00,g0];exact Fini.trim2 (σ':=σ) (ex:=[_]) rfl rfl (Nat.le_refl _) (.pl _) hbel
end
end Go.Proofs.YteakobbdgehlgaaGreatDoor
namespace Go.Proofs.YteakobbdgehlgaaGreatDoor
open Go Go.Ab Go.Cod Go.ChangeShapes Go.WideShapes Go.ChangeAt Go.RowKit
set_option maxRecDepth 100000
def QSp:List AV→Prop:=fun xs=>∃s:SpM,xs=spC s
theorem zfc (f:Nat):Reads Tryz.prog 45 f QSp:=by
 cases f with
 |zero=>exact Reads.zero
 |succ f =>
  have h:=Reads.struct (P:=Tryz.prog) (t:=45) (f:=f) (Qs:=[QInt .u64,QAct,QBool,QBytA,QInt .i64]) Tryz.underlying45 (by kernel_rfl) rfl (by
   intro p hp;simp only[List.zip_cons_cons,List.zip_nil_right,List.mem_cons,List.not_mem_nil,or_false]at hp;rcases hp with rfl|rfl|rfl|rfl|rfl
   · exact Reads.int Tryz.underlying28 f
   · exact zdC f
   · exact Reads.bool Tryz.underlying4 f
   · exact z6O f
   · exact Reads.int Tryz.underlying3 f)
  refine h.mono fun xs hq=>?_
  obtain⟨_,_,rfl,⟨g,hg,rfl⟩,_,_,rfl,⟨a,ha,rfl⟩,_,_,rfl,⟨r,rfl⟩,_,_,rfl,⟨b,rfl⟩,_,_,rfl,⟨c,hc,rfl⟩,rfl⟩:=hq;obtain⟨a1,a2⟩:=wf64i hg;obtain⟨n,rfl⟩:=Int.eq_ofNat_of_zero_le a1;exact⟨⟨n,a,r,b,c⟩,rfl⟩
theorem zfE:∀{ys:List (List AV)},(∀y∈ys,QSp y)→∃l:List SpM,ys.map (wrapC true)=l.map spV
 |[],_=>⟨[],rfl⟩
 |y::ys,h=>by
  obtain⟨s,rfl⟩:=h y List.mem_cons_self;obtain⟨l,h3⟩:=zfE (ys:=ys) fun z hz=>h z (List.mem_cons_of_mem _ hz)
  exact⟨s::l,by rw[List.map_cons,h3];rfl⟩
section
variable {H:Type} {enc:TypeId×Value→H} {W:World} {base:Nat} {v:Value} {d:DataW H} {ps:List MemPlace}
theorem zgU (hv:Value.okWide Tryz.prog W .any base 32 v) (h:DataW.Trod enc Tryz.prog W 0 (fun _=>true) true 32 v d ps):∃l:List SpM,Rep noM noR W (.sl 23 (l.map spV)) v:=by
 obtain⟨sa,len,cap,rfl⟩:=okWide_slice Tryz.underlying32 hv
 obtain⟨x,hx,hq⟩:=Reads.arg (P:=Tryz.prog) (t:=32) (Q:=QSlice 23 true QSp) (fun f=>by
  cases f with
  |zero=>exact Reads.zero
  |succ f=>exact Reads.slice true Tryz.underlying32 (by kernel_rfl) (by decide) (zfc f) (fun _ _ _=>rfl)) rfl h
 rcases hq with hq|⟨ys,hys,hl,hq⟩
 · simp only[List.cons.injEq,and_true]at hq;subst hq;exact⟨[],Sub.nils 23 _ _ _ _ hx⟩
 · obtain⟨l,h3⟩:=zfE hys;simp only[List.cons.injEq,and_true]at hq;subst hq;rw[h3]at hx;exact⟨l,hx⟩
end
end Go.Proofs.YteakobbdgehlgaaGreatDoor
namespace Go.Proofs.YteakobbdgehlgaaGreatDoor
open Go Go.Ab Go.Cod
open Sha (txtR expB shaB z0s genB linkB z0x ChM z0f addCh takes boxC rowC z2X z0u kV heldM newCh)
set_option maxRecDepth 100000
attribute [local irreducible] Sha.shaB
section
variable (σ:St) (p q:Nat) (o m:Int)
end
end Go.Proofs.YteakobbdgehlgaaGreatDoor
namespace Go.Proofs.YteakobbdgehlgaaGreatDoor
open Go Go.Ab Go.Cod
open Sha (txtR expB shaB z0s genB linkB z0x ChM z0f addCh takes boxC rowC z2X z0u kV heldM newCh GG glo0 glo1)
set_option maxRecDepth 100000
attribute [local irreducible] Sha.shaB
section
variable (o m:Int)
variable (L:List RcM) (s:SpM)
end
theorem zgV {l:List SpM} {i:Nat} (h:i<l.length):(l.map spV)[i]?=some (.agg (spC l[i])):=by
 rw[List.getElem?_map,List.getElem?_eq_getElem h];rfl
section
variable (o:Int) (L:List RcM) (s:SpM)
def layH:St:=GG++chZ GG.length (chM o 8 L)
theorem z8J:gloA (layH o L) 0=some kV∧gloA (layH o L) 1=some kV:=⟨z0u (σ:=GG) rfl _,z0u (σ:=GG) rfl _⟩
theorem z8K:(layH o L)[2]?=some (boxC 4 (chM o 8 L)):=by
 have h:=zia GG [] (chM o 8 L);rw[List.append_nil]at h;exact h
theorem zaO (h:L≠[]):(layH o L)[4]?=some (.row 4 (L.map rcV)):=by
 have h:=chZ_q GG [] (chM o 8 L) h;rw[List.append_nil]at h;exact h
theorem z7x:3≤(layH o L).length∧(L≠[]→5≤(layH o L).length):=by
 cases L with
 |nil=>exact⟨by show 3≤3;decide,fun h=>absurd rfl h⟩
 |cons=>exact⟨by show 3≤5;decide,fun _=>by show 5≤5;decide⟩
theorem zfd (hs:s.bd.length≤300) (hn:L.length≤1000):Ans Tryz.prog 16 [.ptr 2 0,UN s.ck,.sl 1 (byv (bodyP s)),I s.cd] (layH o L) (Bo (takP o 8 L s)) (layH o (stepP o 8 L s)):=by
 have hbl:=z4q hs;by_cases hne:bodyP s=[]
 · have ht:takP o 8 L s=false:=by unfold takP;rw[hne];exact zdG _ _ _
   unfold stepP;rw[ht,hne];exact z8I (layH o L) 2 4 (chM o 8 L) s.ck s.cd (z8K o L) (zaO o L) (by have:=z7x o L;omega) (fun h=>by have:=(z7x o L).2 h;omega) (z7v _ _)
 have h:=add_Z GG (chM o 8 L) (z7v _ _) hn s.ck (bodyP s) s.cd hne (by omega) rfl
 unfold stepP layH
 cases ht:takP o 8 L s with
 |false =>
  rw[show takes (chM o 8 L) s.ck (bodyP s) s.cd=false from ht]at h
  exact h
 |true =>
  rw[show takes (chM o 8 L) s.ck (bodyP s) s.cd=true from ht,zdF,zgS]at h
  exact h
theorem step8 (h:L.length≤8):(stepP o 8 L s).length≤8:=by
 unfold stepP;split
 · rename_i ht;unfold takP takes at ht;simp only[Bool.and_eq_true,Bool.not_eq_true',decide_eq_false_iff_not]at ht;have h1:¬(heldM 8≤(L.length:Int)):=ht.1;have h2:heldM 8=8:=rfl;rw[h2]at h1;rw[List.length_append,List.length_singleton];omega
 · exact h
theorem plP8 (l:List SpM):∀i,(plP o 8 l i).length≤8
 |0=>Nat.zero_le _
 |i+1=>step8 o _ _ (plP8 l i)
end
set_option maxHeartbeats 4000000 in
theorem z68 (o:Int) (l:List SpM):Ans Tryz.prog 5 [I o,.sl 23 (l.map spV)] GG (Bo true) GG:=by
 have hml:(l.map spV).length=l.length:=List.length_map ..;by_cases h12:12<l.length
 · have d0:decide ((12:Int)<(l.length:Int))=true:=decide_eq_true (by omega)
   refine Ans.of_run t5 ?_;simp -implicitDefEqProofs only[c5,r5,go_sem,hml,d0];refine CO.intro (Sha.runs_ans GG rfl rfl) ?_;simp -implicitDefEqProofs only[go_sem];exact Fini.ret rfl
 have d0:decide ((12:Int)<(l.length:Int))=false:=decide_eq_false (by omega)
 have hnew:Ans Tryz.prog 11 [I o,I 8] GG (.ptr 2 0) (layH o []):=Sha.new_ans GG o 8 (fun ex=>z0u Sha.gg0 ex)
 have hnp:∀s:St,nilA2 s true (.ptr 2 0)=some false:=fun _=>rfl
 have hhd:∀L,Ans Tryz.prog 21 [.ptr 2 0] (layH o L) (.agg (byv (hdL o L))) (layH o L):=fun L=>Sha.head_ans _ 2 4 (chM o 8 L) (z7v _ _) (z8K o L) (by have:=z7x o L;omega)
 have hln:∀L,Ans Tryz.prog 14 [.ptr 2 0] (layH o L) (I L.length) (layH o L):=fun L=>Sha.len_ans _ 2 4 (chM o 8 L) (z8K o L) (zaO o L)
 have hex:∀L:List RcM,L.length≤1000→(∀r∈L,r.bd.length≤40000)→Ans Tryz.prog 25 [.ptr 2 0] (layH o L) (.sl 1 (byv (expB L))) (layH o L):=fun L h1 h2=>Sha.export_ans _ 2 4 (chM o 8 L) (z8K o L) (zaO o L) h1 h2
 have hrc:∀L:List RcM,L.length≤1000→(∀r∈L,r.bd≠[]∧r.bd.length≤40000)→Ans Tryz.prog 24 [.ptr 2 0] (layH o L) (.sl 4 (L.map rcV)) (layH o L):=fun L h1 h2=>z9G _ 2 4 (chM o 8 L) (z8K o L) (zaO o L) h1 h2
 have hsha:∀L b,b.length≤60000→Ans Tryz.prog 27 [.sl 1 (byv b)] (layH o L) (.agg (byv (shaB b))) (layH o L):=fun L b h=>Sha.sha_ans _ b (by omega) (fun ex=>z0u (z8J o L).1 ex)
 have hge:∀s,Ans Tryz.prog 28 [I o] s (.sl 1 (byv (genB o))) s:=fun s=>Sha.genesis_ans s o
 have hlk:∀s h r,h.length=32→r.length≤50000→Ans Tryz.prog 29 [.agg (byv h),.sl 1 (byv r)] s (.sl 1 (byv (linkB h r))) s:=fun s h r a b=>Sha.link_ans s h r a b
 have heq:∀h:Byt,h.length=32→eqCells (List.replicate 32 .int) (byv h) (byv h)=some true:=fun h a=>by rw[zgM 32 h h a a,beq_self_eq_true]
 simp only[List.reduceReplicate]at heq;have hd0:=hhd [];have e0:hdL o []=shaB (genB o):=rfl;rw[e0]at hd0;have hs0:=hsha [] (genB o) (show 9≤60000 by decide)
 have eq0:=heq (shaB (genB o)) (z0s _);have l0:=z05 (shaB (genB o));have l32:(shaB (genB o)).length=32:=z0s _;refine Ans.of_run' t5 (fun hbel _=>?_)
 simp -implicitDefEqProofs only[c5,r5,go_sem,hml,d0];refine CO.intro hnew ?_;simp -implicitDefEqProofs only[go_sem,hnp];refine CO.intro hd0 ?_;simp -implicitDefEqProofs only[go_sem];refine CO.intro (hge _) ?_;simp -implicitDefEqProofs only[go_sem];refine CO.intro hs0 ?_;simp -implicitDefEqProofs only[go_sem,eq0]
 refine Go.Ab.L.intro (α:={ i:Nat // i≤l.length∧∀j,j<i→(l.getD j noSp).bd.length≤300 }) (fun i=>l.length-i.1) (fun i=>mkE 159 [(1,.sl 23 (l.map spV)),(5,.ptr 2 0),(6,I i.1)])
  (fun i=>layH o (plP o 8 l i.1)) ?_ ⟨0,Nat.zero_le _,fun j hj=>absurd hj (Nat.not_lt_zero _)⟩ rfl rfl
 rintro⟨i,hi,hall⟩ J hJ;simp only at hJ⊢;have hok:=zdI o 8 l i hall;have hpl:=plP8 o l i;have hbd:∀r∈plP o 8 l i,r.bd.length≤40000:=fun r hr=>by have:=(hok.ne r hr).2;omega
 by_cases hlt:i<l.length
 · have hd:decide ((i:Int)<(l.length:Int))=true:=decide_eq_true (by omega)
   have hii:((i:Int)<(l.length:Int))=True:=eq_true (by omega)
   have hx:=zgV hlt;have egt:l.getD i noSp=l[i]:=by rw[List.getD_eq_getElem?_getD,List.getElem?_eq_getElem hlt];rfl
   have hrun:=Sha.runs_ans (layH o (plP o 8 l i)) (z8J o _).1 (z8J o _).2;have hbm:=z05 l[i].bd;have hb:=fun s=>zfb s l[i]
   have hst:plP o 8 l (i+1)=stepP o 8 (plP o 8 l i) l[i]:=by rw[plP,egt]
   by_cases h300:300<l[i].bd.length
   · have d3:decide ((300:Int)<(l[i].bd.length:Int))=true:=decide_eq_true (by omega)
     have hexx:layH o (plP o 8 l i)=GG++chZ GG.length (chM o 8 (plP o 8 l i)):=rfl;generalize chZ GG.length (chM o 8 (plP o 8 l i))=ex at hexx;generalize layH o (plP o 8 l i)=A at *;unfold spC acC at hx;simp -implicitDefEqProofs only[mkE,go_sem,hml,hd,hii,hx,hbm,d3];refine CO.intro hrun ?_;simp -implicitDefEqProofs only[go_sem];exact Fini.trim2 (σ':=GG) (ex:=ex) rfl hexx (Nat.le_refl _) (.pl _) hbel
   · have d3:decide ((300:Int)<(l[i].bd.length:Int))=false:=decide_eq_false (by omega)
     have hca:=zfd o (plP o 8 l i) l[i] (by omega) (by omega)
     rw[←hst]at hca
     have hgo:=hJ ⟨i+1,by omega,fun j hj=>by
      rcases Nat.lt_or_eq_of_le (Nat.lt_succ_iff.1 hj) with h|rfl
      · exact hall j h
      · rw[egt];omega⟩ (by simp only;omega)
     simp only at hgo;have wi:IntKind.i64.wrap ((i:Int)+1)=((i+1:Nat):Int):=wrap_succ (i:=i) (by omega)
     have k1:=hhd (plP o 8 l i);have k2:=hln (plP o 8 l i);have k3:=hex (plP o 8 l i) (by omega) hbd
     have m1:=z05 (hdL o (plP o 8 l i));have m2:=z7v o (plP o 8 l i);have a1:(byv (hdL o (plP o 8 l i))).all AV.one=true:=Sha.bv_all _;have t1:List.take 32 (byv (hdL o (plP o 8 l i)))=byv (hdL o (plP o 8 l i)):=List.take_of_length_le (by rw[m1,m2];exact Nat.le_refl _)
     have str:∀b:Byt,((⟨b.toArray⟩:ByteArray).toList==(⟨b.toArray⟩:ByteArray).toList)=true:=fun b=>beq_self_eq_true _
     cases ht:takP o 8 (plP o 8 l i) l[i] with
     |false =>
      have eL:plP o 8 l (i+1)=plP o 8 l i:=by rw[hst];unfold stepP;rw[ht];rfl
      rw[ht,eL]at hca;rw[eL]at hgo;have eq1:=heq (hdL o (plP o 8 l i)) m2;generalize hdL o (plP o 8 l i)=H1 at *;generalize expB (plP o 8 l i)=X at *;generalize layH o (plP o 8 l i)=A at *;generalize bodyP l[i]=bb at *;unfold spC acC at hx hb;simp -implicitDefEqProofs only[mkE,go_sem,hml,hd,hii,hx,hbm,d3];refine CO.intro k1 ?_;simp -implicitDefEqProofs only[go_sem];refine CO.intro k2 ?_;simp -implicitDefEqProofs only[go_sem];refine CO.intro k3 ?_;simp -implicitDefEqProofs only[go_sem,m1,m2,a1,hml,hii,hx];refine CD.intro (hb _) ?_;simp -implicitDefEqProofs only[go_sem,hml,hii,hx];refine CD.intro hca ?_;simp -implicitDefEqProofs only[go_sem];refine CD.intro k1 ?_;simp -implicitDefEqProofs only[go_sem,m1,m2,t1,eq1];refine CD.intro k2 ?_;simp -implicitDefEqProofs only[go_sem,nz];refine CD.intro k3 ?_;simp -implicitDefEqProofs only[go_sem,z0A,bc,z24,z1R,AV.isStr,ne_self,str,wi];exact hgo
     |true =>
      have eL:plP o 8 l (i+1)=plP o 8 l i++[recP (plP o 8 l i) l[i]]:=by rw[hst];unfold stepP;rw[ht];rfl
      have hne2:=(zdI o 8 l (i+1) (fun j hj=>by
       rcases Nat.lt_or_eq_of_le (Nat.lt_succ_iff.1 hj) with h|rfl
       · exact hall j h
       · rw[egt];omega)).ne
      have k4:=hrc (plP o 8 l (i+1)) (by have:=plP8 o l (i+1);omega) (fun r hr=>⟨(hne2 r hr).1,by have:=(hne2 r hr).2;omega⟩)
      have k5:=hhd (plP o 8 l (i+1));have hbr:=fun s=>z3h s (recP (plP o 8 l i) l[i]) (Nat.le_trans (z4q (s:=l[i]) (by omega)) (by decide))
      have hbl:=Sha.bytesRc_le (recP (plP o 8 l i) l[i]) (Nat.le_trans (z4q (s:=l[i]) (by omega)) (by decide))
      have k6:=hlk (layH o (plP o 8 l (i+1))) (hdL o (plP o 8 l i)) (z0B (recP (plP o 8 l i) l[i])) m2 hbl;have k7:=hsha (plP o 8 l (i+1)) (linkB (hdL o (plP o 8 l i)) (z0B (recP (plP o 8 l i) l[i]))) (by rw[z0x,m2];omega)
      have eH:hdL o (plP o 8 l (i+1))=shaB (linkB (hdL o (plP o 8 l i)) (z0B (recP (plP o 8 l i) l[i]))):=by rw[eL,z7u]
      rw[eH]at k5;have eq1:=heq _ (z0s (linkB (hdL o (plP o 8 l i)) (z0B (recP (plP o 8 l i) l[i]))));have hrl:=z4o (plP o 8 l (i+1));have hll:(plP o 8 l (i+1)).length=(plP o 8 l i).length+1:=by rw[eL];simp
      have hgn:((plP o 8 l (i+1)).map rcV)[(plP o 8 l i).length]?=some (.agg [I (plP o 8 l i).length,UN l[i].ck,.sl 1 (byv (bodyP l[i])),I l[i].cd]):=by
       rw[eL,List.map_append,List.getElem?_append_right (by rw[List.length_map];exact Nat.le_refl _),List.length_map,Nat.sub_self];rfl
      have hrx:rcV (recP (plP o 8 l i) l[i])=.agg [I (plP o 8 l i).length,UN l[i].ck,.sl 1 (byv (bodyP l[i])),I l[i].cd]:=rfl;simp only[hrx]at hbr;have wn:IntKind.i64.wrap (((plP o 8 l i).length:Int)+1)=(((plP o 8 l i).length+1:Nat):Int):=wrap_succ (by omega)
      have hii2:(((plP o 8 l i).length:Int)<(((plP o 8 l i).length+1:Nat):Int))=True:=eq_true (by omega)
      rw[ht]at hca;rw[hll]at hrl;generalize shaB (linkB (hdL o (plP o 8 l i)) (z0B (recP (plP o 8 l i) l[i])))=H2 at *;generalize linkB (hdL o (plP o 8 l i)) (z0B (recP (plP o 8 l i) l[i]))=lkb at *;generalize z0B (recP (plP o 8 l i) l[i])=rb at *;generalize hdL o (plP o 8 l i)=H1 at *;generalize expB (plP o 8 l i)=X at *;generalize layH o (plP o 8 l i)=A at *;generalize layH o (plP o 8 l (i+1))=A' at *;generalize (plP o 8 l (i+1)).map rcV=R at *;generalize bodyP l[i]=bb at *;generalize (plP o 8 l i).length=n at *;unfold spC acC at hx hb;simp -implicitDefEqProofs only[mkE,go_sem,hml,hd,hii,hx,hbm,d3];refine CO.intro k1 ?_;simp -implicitDefEqProofs only[go_sem];refine CO.intro k2 ?_;simp -implicitDefEqProofs only[go_sem];refine CO.intro k3 ?_;simp -implicitDefEqProofs only[go_sem,m1,m2,a1,hml,hii,hx];refine CD.intro (hb _) ?_;simp -implicitDefEqProofs only[go_sem,hml,hii,hx];refine CD.intro hca ?_;simp -implicitDefEqProofs only[go_sem];refine CO.intro k4 ?_;simp -implicitDefEqProofs only[go_sem,hrl,wn,nz,hgn,hii2,hml,hii,hx,z0A,bc,z24,z1R,AV.isStr];refine CD.intro (hb _) ?_;simp -implicitDefEqProofs only[go_sem,hrl,wn,nz,hgn,hii2,hml,hii,hx,z0A,bc,z24,z1R,AV.isStr,ne_self,str];refine CD.intro k5 ?_;simp -implicitDefEqProofs only[go_sem,hrl,hgn,hii2,m1,m2,t1];refine CD.intro (hbr _) ?_;simp -implicitDefEqProofs only[go_sem,m1,m2,t1];refine CD.intro k6 ?_;simp -implicitDefEqProofs only[go_sem];refine CD.intro k7 ?_;simp -implicitDefEqProofs only[go_sem,eq1,wi];exact hgo
 · have hi':i=l.length:=by omega
   subst hi';have hd:decide (((l.length:Nat):Int)<(l.length:Int))=false:=decide_eq_false (by omega)
   have k2:=hln (plP o 8 l l.length);have k7:=Sha.runs_ans (layH o (plP o 8 l l.length)) (z8J o _).1 (z8J o _).2;have d8:decide (((plP o 8 l l.length).length:Int)≤8)=true:=decide_eq_true (by omega)
   have hexx:layH o (plP o 8 l l.length)=GG++chZ GG.length (chM o 8 (plP o 8 l l.length)):=rfl;generalize chZ GG.length (chM o 8 (plP o 8 l l.length))=ex at hexx;generalize layH o (plP o 8 l l.length)=A at *;simp -implicitDefEqProofs only[mkE,go_sem,hml,hd];refine CO.intro k2 ?_;simp -implicitDefEqProofs only[go_sem,d8];refine CO.intro k7 ?_;simp -implicitDefEqProofs only[go_sem];exact Fini.trim2 (σ':=GG) (ex:=ex) rfl hexx (Nat.le_refl _) (.pl _) hbel
end Go.Proofs.YteakobbdgehlgaaGreatDoor
