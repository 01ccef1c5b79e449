/- What the package variables' readings give, in a call of this seat's laws. No condition. -/
import Derived.Test.YteakobbdgehlgaaGreatDoorRows
import Derived.Test.YteakobbdgehlgaaGreatDoorCards
import Derived.Test.YteakobbdgehlgaaGreatDoorTie
import Derived.Test.YteakobbdgehlgaaGreatDoorKFullD
import Derived.Test.YteakobbdgehlgaaGreatDoorKRowFD
import Derived.Test.YteakobbdgehlgaaGreatDoorKShB1D
import Derived.Test.YteakobbdgehlgaaGreatDoorAbGloD
import Derived.ProofKit
import Derived.LaidMore
import Derived.Stop.Joined
import Derived.SevenTiedAt
set_option linter.unusedSimpArgs false
set_option linter.unusedVariables false
set_option linter.unusedSectionVars false
namespace Go.Proofs.YteakobbdgehlgaaGreatDoor
open Go Go.Ab Go.ChangeShapes Go.WideShapes Go.ChangeAt Go.RowKit
set_option maxRecDepth 100000
theorem zdK:ownKnob Tryz.prog.godebug=none:=by kernel_rfl
theorem zdL:laidOutB Tryz.prog=true:=by kernel_rfl
def laidL : List (String × DataW Unit) := [("sordine/sha.keys", Rows.laid_sordine_sha_keys), ("sordine/sordineref1.k", Rows.laid_sordine_sordineref1_k)]
theorem gn0 : Tryz.prog.globalNamed "sordine/sha.keys" = some 0 := by kernel_rfl
theorem gn1 : Tryz.prog.globalNamed "sordine/sordineref1.k" = some 1 := by kernel_rfl
theorem gt0:(Tryz.prog.globals[0]?).map (·.type)=some 139:=by kernel_rfl
theorem gt1:(Tryz.prog.globals[1]?).map (·.type)=some 139:=by kernel_rfl
def gvK:List Int:=Sha.shaK.map fun n:Nat=>(n:Int)
theorem zgt:gvK.map (Value.int .u32)=Sha.kV:=by kernel_rfl
theorem door_met (os:Os) (args:Array Value):laidMetH Tryz.prog laidL ((World.doorLaid Tryz.prog 19 os).forCall (fun _ _=>0) ⟨#[],args,[]⟩).memory :=
 laidMetH_of_parts3 (fuel:=8) (laidMet_of_run' 8 (by kernel_rfl) (by kernel_rfl)) (by kernel_rfl) (by kernel_rfl)
theorem zfe {H:Type}:(Rows.laid_sordine_sha_keys:DataW H)=.agg (gvK.map fun v=>.lit (.int .u32 v)):=by kernel_rfl
theorem zff {H:Type}:(Rows.laid_sordine_sordineref1_k:DataW H)=.agg (gvK.map fun v=>.lit (.int .u32 v)):=by kernel_rfl
theorem of_laid {W:World} (h:laidMetH Tryz.prog laidL W):∀o∈Sha.GG,Glo W o:=by
 intro o ho;rw[MakeChecks.laidMetH_plain _ _ _ (by kernel_rfl)]at h
 obtain⟨ps,⟨g0,t0,cs0,f0,p0,q0,hg0,ht0,hv0,hd0,⟨g1,t1,cs1,f1,p1,q1,hg1,ht1,hv1,hd1,_,_⟩,_⟩,_,_⟩:=h;obtain rfl:=Option.some.inj (gn0.symm.trans hg0);obtain rfl:=Option.some.inj (gt0.symm.trans ht0);obtain rfl:=Option.some.inj (gn1.symm.trans hg1);obtain rfl:=Option.some.inj (gt1.symm.trans ht1);rw[zfe]at hd0;rw[zff]at hd1;have k0:=z6p gn0 hv0 (z49 (vs:=gvK) (P:=Tryz.prog) (t:=139) (e:=102) (n:=64) (k:=.u32) (by kernel_rfl) (by kernel_rfl) (by kernel_rfl) (by kernel_rfl) hd0)
 have k1:=z6p gn1 hv1 (z49 (vs:=gvK) (P:=Tryz.prog) (t:=139) (e:=102) (n:=64) (k:=.u32) (by kernel_rfl) (by kernel_rfl) (by kernel_rfl) (by kernel_rfl) hd1)
 rw[zgt]at k0 k1;simp only[List.mem_cons,List.not_mem_nil,or_false]at ho;rcases ho with rfl|rfl
 · exact k0
 · exact k1
theorem zc6 {W:World} {x:AV} {v:Value} {R':Ref→Value→Prop} (h:Rep noM noR W x v):Rep noM R' W x v :=
 h.mono (fun b _ hm=>⟨hm,rfl⟩) fun r v h=>by cases r<;>simp[RefOK]at h
end Go.Proofs.YteakobbdgehlgaaGreatDoor
namespace Go.Proofs.YteakobbdgehlgaaGreatDoor.Sha
open Go Go.Ab Go.Cod
set_option maxRecDepth 100000
def txtR (r:RcM):List UInt8:=txtB ⟨(z0X r).toArray⟩
def expB (L:List RcM):List UInt8:=putN L.length++(L.map txtR).flatten
theorem txtR_len (r:RcM) (h:r.bd.length≤40000):(txtR r).length≤50010:=by
 have h1:=bytesRc_le r h;have h2:=z9d ⟨(z0X r).toArray⟩ (by rw[z20];omega)
 rw[z20]at h2;unfold txtR;omega
theorem flat_txt (L:List RcM) (h:∀r∈L,r.bd.length≤40000):((L.map txtR).flatten).length≤L.length*50010:=by
 induction L with
 |nil=>simp
 |cons x L ih =>
  have h1:=txtR_len x (h x (by simp))
  have h2:=ih fun r hr=>h r (by simp[hr])
  simp only[List.map_cons,List.flatten_cons,List.length_append,List.length_cons];omega
theorem expP_succ (L:List RcM) (i:Nat) (hi:i<L.length):((L.take (i+1)).map txtR).flatten=((L.take i).map txtR).flatten++txtR L[i]:=by
 rw[List.take_succ_eq_append_getElem hi,List.map_append,List.flatten_append,List.map_singleton,List.flatten_singleton]
section
variable (σ:St)
end
theorem eqCells_bv:∀(n:Nat) (a b:List UInt8),a.length=n→b.length=n→eqCells (List.replicate n .int) (bv a) (bv b)=some (a==b)
 |0,[],[],_,_=>rfl
 |n+1,p::ps,q::qs,h,h'=>by
  have e:(((p.toNat:Nat):Int)==((q.toNat:Nat):Int))=(p==q):=by
   rw[Bool.eq_iff_iff];simp only[beq_iff_eq];constructor
   · intro h;exact UInt8.toNat_inj.mp (by omega)
   · intro h;rw[h]
  have ih:=eqCells_bv n ps qs (by simpa using h) (by simpa using h')
  unfold bv at ih⊢;rw[List.replicate_succ,List.map_cons,List.map_cons,eqCells,ih];simp only[z2z,if_true,e];rfl
section
variable (σ:St)
theorem dgenesis_ans (o:Int):Ans Tryz.prog 67 [I o] σ (.sl 1 (bv (genB o))) σ:=by
 have hu:=zc5 o;have hp:∀s,Ans Tryz.prog 82 [UN (ownU o)] s (.sl 1 (bv (wrdB (ownU o)))) s:=fun s=>z4z s (ownU o)
 have hl:=z0N (wrdB (ownU o));have hw:=wrdB_len (ownU o);have e:AV.pl (.int .u8 0)::bv (wrdB (ownU o))=bv (genB o):=rfl;have k1:((1:Nat)+8≤2^32)=True:=eq_true (by decide)
 refine Ans.of_run' t67 (fun hbel _=>?_)
 simp -implicitDefEqProofs only[c67,r67,go_sem,hu];refine CO.intro (hp _) ?_;have hgl:(bv (genB o)).length=9:=rfl;simp -implicitDefEqProofs only[go_sem,z3l,hl,hw,k1,G0,S0,List.cons_append,List.nil_append,e,hgl];exact Fini.trim2 (σ':=σ) (ex:=[_]) rfl rfl (Nat.le_refl _) (z4h _ _) hbel
end
end Go.Proofs.YteakobbdgehlgaaGreatDoor.Sha
namespace Go.Proofs.YteakobbdgehlgaaGreatDoor
open Go Go.Ab Go.Cod
set_option maxRecDepth 100000
def noR0:RcM:=⟨0,0,[],0⟩
def lastC (L:List RcM):Nat:=(L.getD (L.length-1) noR0).ck
def goE (m:Nat) (t0:Byt):Nat→Option (List RcM×Byt)
 |0=>some ([],t0)
 |n+1=>(goE m t0 n).bind fun p=>(textR m p.2).bind fun s=>(rdRc s.1.data.toList).bind fun x=>if x.ix=(n:Int)∧lastC p.1≤x.ck then some (p.1++[x],s.2) else none
def rdE (b:Byt):Option (List RcM):=(numR 200 b).bind fun p=>(goE b.length p.2 p.1).bind fun q=>if q.2=[] then some q.1 else none
theorem z6U {m:Nat} {t:Byt} {i:Nat} (h:goE m t i=none):∀{n:Nat},i≤n→goE m t n=none
 |0,hn=>by have h0:i=0:=by omega
           subst h0;exact h
 |n+1,hn=>by
  rcases Nat.lt_or_eq_of_le hn with h1|rfl
  · rw[goE,z6U h (by omega:i≤n)];rfl
  · exact h
theorem z5G {m:Nat} {t:Byt}:∀{n:Nat} {p:List RcM×Byt},goE m t n=some p→p.1.length=n
 |0,p,h=>by simp only[goE,Option.some.injEq]at h;subst h;rfl
 |n+1,p,h=>by
  rw[goE]at h
  cases h1:goE m t n with
  |none=>rw[h1]at h;cases h
  |some p1 =>
   rw[h1]at h;simp only[Option.bind_some]at h
   cases h2:textR m p1.2 with
   |none=>rw[h2]at h;cases h
   |some s =>
    rw[h2]at h;simp only[Option.bind_some]at h
    cases h3:rdRc s.1.data.toList with
    |none=>rw[h3]at h;cases h
    |some x =>
     rw[h3]at h;simp only[Option.bind_some]at h;split at h
     · cases h;simp[z5G h1]
     · cases h
theorem z8u {m:Nat} {t:Byt} (hm:m<2^64):∀{n:Nat} {p:List RcM×Byt},goE m t n=some p→∃w,t=w++p.2
 |0,p,h=>by simp only[goE,Option.some.injEq]at h;subst h;exact⟨[],rfl⟩
 |n+1,p,h=>by
  rw[goE]at h
  cases h1:goE m t n with
  |none=>rw[h1]at h;cases h
  |some p1 =>
   obtain⟨w,hw⟩:=z8u hm h1;rw[h1]at h;simp only[Option.bind_some]at h
   cases h2:textR m p1.2 with
   |none=>rw[h2]at h;cases h
   |some s =>
    obtain⟨w2,hw2⟩:=z0I m p1.2 s.1 s.2 h2;rw[h2]at h;simp only[Option.bind_some]at h
    cases h3:rdRc s.1.data.toList with
    |none=>rw[h3]at h;cases h
    |some x =>
     rw[h3]at h;simp only[Option.bind_some]at h;split at h
     · cases h;exact⟨w++w2,by rw[hw,hw2,List.append_assoc]⟩
     · cases h
def expW (o:Option (List RcM)):AV:=match o with
 |some L=>.tup [.sl 4 (L.map rcV),Bo true]
 |none=>.tup [.nils,Bo false]
theorem z4U (n:Nat) (o:Option (List RcM)):Bel n (expW o):=by
 unfold expW
 cases o with
 |none=>exact z1k .nils
 |some L =>
  refine z1k (.sl 4 _ fun i hi=>?_)
  rw[List.getElem_map];exact bel_rcV _ _
end Go.Proofs.YteakobbdgehlgaaGreatDoor
namespace Go.Proofs.YteakobbdgehlgaaGreatDoor
open Go Go.Ab Go.Cod
open Sha (txtR expB shaB z28 genB linkB z2h)
set_option maxRecDepth 100000
attribute [local irreducible] Sha.shaB
def OkL (L:List RcM):Prop:=∀i (h:i<L.length),rcIs L[i]=true∧L[i].ix=(i:Int)∧lastC (L.take i)≤L[i].ck
theorem zfg:OkL []:=fun i h=>absurd h (Nat.not_lt_zero _)
theorem zdM {L:List RcM} {x:RcM} (h:OkL L) (h1:rcIs x=true) (h2:x.ix=(L.length:Int)) (h3:lastC L≤x.ck):OkL (L++[x]):=by
 intro i hi;by_cases hlt:i<L.length
 · obtain⟨a,b,c⟩:=h i hlt;rw[List.getElem_append_left hlt,List.take_append_of_le_length (by omega)]
   exact⟨a,b,c⟩
 · have hi':i=L.length:=by simp at hi;omega
   subst hi';rw[List.getElem_append_right (Nat.le_refl _),List.take_left];simp only[Nat.sub_self,List.getElem_cons_zero];exact⟨h1,h2,h3⟩
theorem z9v {x:RcM} (h:rcIs x=true):txtR x=txtB ⟨(putRc x).toArray⟩:=by unfold txtR z0X;rw[if_pos h]
theorem zc7 {m:Nat} {t:Byt} (hm:m<2^64):∀{n:Nat} {p:List RcM×Byt},goE m t n=some p→t=(p.1.map txtR).flatten++p.2∧OkL p.1
 |0,p,h=>by simp only[goE,Option.some.injEq]at h;subst h;exact⟨rfl,zfg⟩
 |n+1,p,h=>by
  rw[goE]at h
  cases h1:goE m t n with
  |none=>rw[h1]at h;cases h
  |some p1 =>
   obtain⟨ht,hok⟩:=zc7 hm h1;have hlen:=z5G h1;rw[h1]at h;simp only[Option.bind_some]at h
   cases h2:textR m p1.2 with
   |none=>rw[h2]at h;cases h
   |some s =>
    obtain⟨hs1,hs2⟩:=(z0T hm).bwd _ _ _ h2;rw[h2]at h;simp only[Option.bind_some]at h
    cases h3:rdRc s.1.data.toList with
    |none=>rw[h3]at h;cases h
    |some x =>
     obtain⟨hx1,hx2⟩:=zdF (by rw[z1m];omega) h3
     rw[h3]at h;simp only[Option.bind_some]at h;split at h
     · rename_i hc;cases h;refine⟨?_,zdM hok hx2 (by rw[hlen];exact hc.1) hc.2⟩
       have e:txtR x=txtB s.1:=by rw[z9v hx2,←hx1,zaM]
       rw[List.map_append,List.flatten_append,List.append_assoc,List.map_singleton,List.flatten_singleton,e,←hs2];exact ht
     · cases h
theorem z6V {b:Byt} {L:List RcM} (hb:b.length<2^64) (h:rdE b=some L):b=expB L∧OkL L∧L.length≤200:=by
 unfold rdE at h
 cases h1:numR 200 b with
 |none=>rw[h1]at h;cases h
 |some p =>
  obtain⟨n,t⟩:=p;obtain⟨hn,hbt⟩:=(z2j (most:=200) (by decide)).bwd _ _ _ h1
  rw[h1]at h;simp only[Option.bind_some]at h
  cases h2:goE b.length t n with
  |none=>rw[h2]at h;cases h
  |some q =>
   obtain⟨ht,hok⟩:=zc7 hb h2;have hlen:=z5G h2;rw[h2]at h;simp only[Option.bind_some]at h;split at h
   · rename_i hq;cases h;refine⟨?_,hok,by omega⟩
     unfold expB;rw[hq,List.append_nil]at ht;rw[hlen,←ht];exact hbt
   · cases h
theorem zdN {L:List RcM} {x:RcM} (h:x∈L):(txtR x).length≤((L.map txtR).flatten).length:=by
 induction L with
 |nil=>cases h
 |cons y L ih =>
  simp only[List.map_cons,List.flatten_cons,List.length_append];rcases List.mem_cons.1 h with rfl|h
  · omega
  · have:=ih h;omega
def hdL (o:Int) (L:List RcM):List UInt8:=L.foldl (fun h r=>shaB (linkB h (z0X r))) (shaB (genB o))
theorem z9w (o:Int) (L:List RcM) (x:RcM):hdL o (L++[x])=shaB (linkB (hdL o L) (z0X x)):=by unfold hdL;rw[List.foldl_append];rfl
theorem z4m (o:Int) (L:List RcM):(hdL o L).length=32:=by
 rcases List.eq_nil_or_concat L with rfl|⟨M,x,rfl⟩
 · exact z28 _
 · rw[List.concat_eq_append,z9w];exact z28 _
def imB (o:Int) (L:List RcM):List Byt:=genB o::(List.range L.length).map fun i=>linkB (hdL o (L.take i)) (z0X (L.getD i noR0))
theorem z3e (o:Int) (L:List RcM):(imB o L).length=L.length+1:=by unfold imB;simp
theorem z9x (o:Int) (L:List RcM) (x:RcM):imB o (L++[x])=imB o L++[linkB (hdL o L) (z0X x)]:=by
 unfold imB;rw[List.length_append,List.length_singleton,List.range_succ,List.map_append,List.map_singleton,List.cons_append,List.take_left,List.getD_eq_getElem?_getD,List.getElem?_append_right (Nat.le_refl _),Nat.sub_self];congr 2
 refine List.map_congr_left fun i hi=>?_
 have hi:=List.mem_range.1 hi;rw[List.take_append_of_le_length (by omega),List.getD_eq_getElem?_getD,List.getElem?_append_left hi,List.getD_eq_getElem?_getD]
theorem zgu (o:Int) (L:List RcM) (i:Nat) (hi:i<L.length):(imB o L).getD (i+1) []=linkB (hdL o (L.take i)) (z0X (L.getD i noR0)):=by
 unfold imB;rw[List.getD_cons_succ,List.getD_eq_getElem?_getD,List.getElem?_map,List.getElem?_range hi];rfl
theorem z8v (o:Int) (L:List RcM) (i:Nat) (hi:i≤L.length):shaB ((imB o L).getD i [])=hdL o (L.take i):=by
 cases i with
 |zero=>rfl
 |succ i =>
  rw[zgu o L i (by omega),List.take_succ_eq_append_getElem (by omega),z9w]
  congr 3
  rw[List.getD_eq_getElem?_getD,List.getElem?_eq_getElem (by omega)];rfl
end Go.Proofs.YteakobbdgehlgaaGreatDoor
namespace Go.Proofs.YteakobbdgehlgaaGreatDoor
open Go Go.Ab Go.Cod
set_option maxRecDepth 100000
theorem z2y (L:List RcM):(L.map rcV).length=L.length:=List.length_map ..
theorem z4a {L:List RcM} {i:Nat} (h:L.length=i+1):(L.map rcV)[i]?=some (rcV (L.getD i noR0))∧lastC L=(L.getD i noR0).ck:=by
 refine⟨?_,?_⟩
 · rw[List.getElem?_map,List.getD_eq_getElem?_getD,List.getElem?_eq_getElem (by omega)];rfl
 · unfold lastC;rw[h];rfl
theorem z9y (u r:Byt):(u++r).drop ((u++r).length-r.length)=r:=by rw[List.length_append,Nat.add_sub_cancel,List.drop_left]
abbrev EnvE (b:Byt) (p i n:Nat):Env:=mkE 70 [(0,.sl 1 (byv b)),(4,.ptr p 0),(5,.osl (p+1) i),(15,I n),(16,I i)]
set_option maxHeartbeats 1000000 in
theorem z4V (σ:St) (b:Byt) (hb:b.length≤50000):Ans Tryz.prog 32 [.sl 1 (byv b)] σ (expW (rdE b)) σ:=by
 have hin0:Inb b (0,false):=Nat.zero_le _;have hbw:=z4U σ.length (rdE b);have hne:Bel σ.length (expW none):=z4U σ.length none;refine Ans.of_run' t32 (fun hbel _=>?_)
 simp -implicitDefEqProofs only[c32,r32,go_sem];refine CO.intro (new_ans σ b) ?_;simp -implicitDefEqProofs only[go_sem,List.append_assoc,List.length_append];have hn:=z22 (σ++[rob b (0,false),.row 4 []]) σ.length b (0,false) 200 (by decide) (g0 _ _ _) hin0 hb
 rw[s0]at hn
 cases h1:numR 200 b with
 |none =>
  have e0:rdE b=none:=by unfold rdE;rw[h1];rfl
  rw[e0];rw[z0V (show numR 200 (b.drop 0)=none from h1)]at hn
  refine CO.intro hn ?_;simp -implicitDefEqProofs only[go_sem];refine Go.Ab.L.count 0 (fun i=>mkE 70 [(0,.sl 1 (byv b)),(4,.ptr σ.length 0),(5,.osl (σ.length+1) 0),(15,I 0),(16,I 0)]) (fun _=>σ++[rob b (0,true),.row 4 []]) ?_ ?_ rfl rfl
  · intro i hi;omega
  · intro J;have h3:=z2s (σ++[rob b (0,true),.row 4 []]) σ.length b (0,true) (g0 _ _ _);simp -implicitDefEqProofs only[mkE,go_sem];refine CO.intro h3 ?_;simp -implicitDefEqProofs only[go_sem];exact Fini.trim2 (σ':=σ) (ex:=[_,_]) rfl rfl (Nat.le_refl _) hne hbel
 |some p =>
  obtain⟨n,t⟩:=p;have hnm:=(z2j (most:=200) (by decide)).bwd _ _ _ h1
  obtain⟨hn2,hbt⟩:=hnm;obtain⟨hdr,-,hle⟩:=(ends_num 200).drop (b:=b) (a:=0) (by omega) h1
  rw[z0H (show numR 200 (b.drop 0)=some (n,t) from h1)]at hn
  refine CO.intro hn ?_;have hwn:IntKind.i64.wrap (n:Int)=(n:Int):=wrapI (by omega)
  simp -implicitDefEqProofs only[go_sem,hwn];have hlt:b.length=(putN n).length+t.length:=by rw[←List.length_append,←hbt]
  refine Go.Ab.L.intro (α:={ p:Nat×List RcM×Byt // p.1≤n∧goE b.length t p.1=some (p.2.1,p.2.2) }) (fun p=>n-p.1.1)
   (fun p=>EnvE b σ.length p.1.1 n) (fun p=>σ++[rob b (b.length-p.1.2.2.length,false),.row 4 (p.1.2.1.map rcV)]) ?_ ⟨(0,[],t),Nat.zero_le _,rfl⟩ rfl rfl
  rintro⟨⟨i,L,r⟩,hi,hg⟩ J hJ;simp only at hi hg hJ⊢;have hlen:=z5G hg;simp only at hlen;obtain⟨w,hw⟩:=z8u (by omega) hg
  simp only at hw;have hbr:b=(putN n++w)++r:=by rw[List.append_assoc,←hw,←hbt]
  have hbl:b.length=(putN n++w).length+r.length:=by rw[←List.length_append,←hbr]
  have hrd:b.drop (b.length-r.length)=r:=by
   have:=z9y (putN n++w) r;rw[←hbr]at this;exact this
  have hin:Inb b (b.length-r.length,false):=Nat.sub_le _ _;by_cases hlt2:i<n
  case neg =>
   have hin':i=n:=by omega
   subst hin';have d0:decide ((i:Int)<(i:Int))=false:=decide_eq_false (by omega)
   have h3:=z2s (σ++[rob b (b.length-r.length,false),.row 4 (L.map rcV)]) σ.length b (b.length-r.length,false) (g0 _ _ _);have hml:=z2y L;simp -implicitDefEqProofs only[mkE,go_sem,d0];refine CO.intro h3 ?_;by_cases hr:r=[]
   · have e1:(((b.length-r.length:Nat):Int) != (b.length:Nat))=false:=by rw[hr];simp
     have e0:rdE b=some L:=by unfold rdE;rw[h1];simp only[Option.bind_some];rw[hg];simp only[Option.bind_some];rw[if_pos hr]
     rw[e0]at hbw⊢;simp -implicitDefEqProofs only[go_sem,z02,e1,g1,s1,hml,hlen];exact Fini.trim2 (σ':=σ) (ex:=[_,_]) rfl rfl (Nat.le_refl _) hbw hbel
   · have hr2:0<r.length:=List.length_pos_iff.2 hr
     have e1:(((b.length-r.length:Nat):Int) != (b.length:Nat))=true:=by
      rw[bne,Bool.not_eq_true',beq_eq_false_iff_ne];omega
     have e0:rdE b=none:=by unfold rdE;rw[h1];simp only[Option.bind_some];rw[hg];simp only[Option.bind_some];rw[if_neg hr]
     rw[e0];simp -implicitDefEqProofs only[go_sem,z02,e1];exact Fini.trim2 (σ':=σ) (ex:=[_,_]) rfl rfl (Nat.le_refl _) hne hbel
  have d0:decide ((i:Int)<(n:Int))=true:=decide_eq_true (by omega)
  have hfail:goE b.length t (i+1)=none→rdE b=none:=fun h=>by unfold rdE;rw[h1];simp only[Option.bind_some];rw[z6U h (by omega:i+1≤n)];rfl
  have htx:=z2F (σ++[rob b (b.length-r.length,false),.row 4 (L.map rcV)]) σ.length b (b.length-r.length,false) b.length (by omega) (g0 _ _ _) hin hb
  rw[s0]at htx
  cases h2:textR b.length r with
  |none =>
   rw[z0V (by rw[hrd];exact h2)]at htx
   have hrc:=z6o (σ++[rob b (b.length-r.length,true),.row 4 (L.map rcV)]) [] (by decide)
   rw[show rdRc []=none by kernel_rfl]at hrc
   rw[hfail (by rw[goE,hg];simp only[Option.bind_some];rw[h2];rfl)]
   simp -implicitDefEqProofs only[mkE,go_sem,d0,z02];refine CO.intro htx ?_;have hz:z3h ⟨#[]⟩=byv []:=rfl;simp -implicitDefEqProofs only[go_sem,hz];refine CO.intro hrc ?_;unfold rcW noRcV;simp -implicitDefEqProofs only[go_sem];exact Fini.trim2 (σ':=σ) (ex:=[_,_]) rfl rfl (Nat.le_refl _) hne hbel
  |some sp =>
   obtain⟨s,r2⟩:=sp;have hsz:s.size≤b.length:=((z0T (most:=b.length) (by omega)).bwd _ _ _ h2).1
   rw[z0H (by rw[hrd];exact h2)]at htx
   have hrc:=z6o (σ++[rob b (b.length-r2.length,false),.row 4 (L.map rcV)]) s.data.toList (by rw[z1m];omega)
   simp -implicitDefEqProofs only[mkE,go_sem,d0,z02];refine CO.intro htx ?_;simp -implicitDefEqProofs only[go_sem,z3s];refine CO.intro hrc ?_
   cases h3:rdRc s.data.toList with
   |none =>
    rw[hfail (by rw[goE,hg];simp only[Option.bind_some];rw[h2];simp only[Option.bind_some];rw[h3];rfl)]
    unfold rcW noRcV;simp -implicitDefEqProofs only[go_sem];exact Fini.trim2 (σ':=σ) (ex:=[_,_]) rfl rfl (Nat.le_refl _) hne hbel
   |some x =>
    have hstep:goE b.length t (i+1)=if x.ix=(i:Int)∧lastC L≤x.ck then some (L++[x],r2) else none:=by
     rw[goE,hg];simp only[Option.bind_some];rw[h2];simp only[Option.bind_some];rw[h3];rfl
    have hrx:rcV x=.agg [I x.ix,UN x.ck,.sl 1 (byv x.bd),I x.cd]:=rfl;unfold rcW;simp only;rw[hrx];by_cases hix:x.ix=(i:Int)
    case neg =>
     have e1:(x.ix != (i:Int))=true:=by rw[bne,Bool.not_eq_true',beq_eq_false_iff_ne];exact hix
     rw[hfail (by rw[hstep,if_neg (fun h=>hix h.1)])]
     simp -implicitDefEqProofs only[go_sem,e1];exact Fini.trim2 (σ':=σ) (ex:=[_,_]) rfl rfl (Nat.le_refl _) hne hbel
    have e1:(x.ix != (i:Int))=false:=by rw[hix,bne,beq_self_eq_true];rfl
    have hml:=z2y L;have wi:IntKind.i64.wrap ((i:Int)+1)=((i+1:Nat):Int):=wrap_succ (i:=i) (by omega)
    have hle2:i+1≤4294967296:=by omega
    have hsn:L.map rcV++[.agg [I x.ix,UN x.ck,.sl 1 (byv x.bd),I x.cd]]=(L++[x]).map rcV:=by rw[List.map_append];rfl
    by_cases hck:lastC L≤x.ck
    case neg =>
     rw[hfail (by rw[hstep,if_neg (fun h=>hck h.2)])]
     cases i with
     |zero =>
      have:lastC L=0:=by rw[List.length_eq_zero_iff.1 hlen];rfl
      omega
     |succ k =>
      have d1:decide ((0:Int)<((k+1:Nat):Int))=true:=decide_eq_true (by omega)
      have ws:IntKind.i64.wrap (((k+1:Nat):Int)-1)=(k:Int):=by rw[show((k+1:Nat):Int)-1=(k:Int) by omega];exact wrapI (by omega)
      obtain⟨hx1,hx2⟩:=z4a hlen;have hk0:((k:Int)<((k+1:Nat):Int))=True:=eq_true (by omega)
      have hry:rcV (L.getD k noR0)=.agg [I (L.getD k noR0).ix,UN (L.getD k noR0).ck,.sl 1 (byv (L.getD k noR0).bd),I (L.getD k noR0).cd]:=rfl;rw[hry]at hx1;have e2:decide ((x.ck:Int)<((L.getD k noR0).ck:Int))=true:=decide_eq_true (by omega)
      simp -implicitDefEqProofs only[go_sem,e1,d1,ws,hk0,g1,hml,hlen,hx1,e2];exact Fini.trim2 (σ':=σ) (ex:=[_,_]) rfl rfl (Nat.le_refl _) hne hbel
    have hgo:=hJ ⟨(i+1,L++[x],r2),by simp only;omega,by simp only;rw[hstep,if_pos ⟨hix,hck⟩]⟩ (by simp only;omega)
    simp only at hgo;rw[←hsn]at hgo
    cases i with
    |zero =>
     have d1:decide ((0:Int)<((0:Nat):Int))=false:=rfl;simp -implicitDefEqProofs only[go_sem,e1,d1,g1,s1,hml,hlen,hle2,List.length_singleton,wi];exact hgo
    |succ k =>
     have d1:decide ((0:Int)<((k+1:Nat):Int))=true:=decide_eq_true (by omega)
     have ws:IntKind.i64.wrap (((k+1:Nat):Int)-1)=(k:Int):=by rw[show((k+1:Nat):Int)-1=(k:Int) by omega];exact wrapI (by omega)
     obtain⟨hx1,hx2⟩:=z4a hlen;have hk0:((k:Int)<((k+1:Nat):Int))=True:=eq_true (by omega)
     have hry:rcV (L.getD k noR0)=.agg [I (L.getD k noR0).ix,UN (L.getD k noR0).ck,.sl 1 (byv (L.getD k noR0).bd),I (L.getD k noR0).cd]:=rfl;rw[hry]at hx1;have e2:decide ((x.ck:Int)<((L.getD k noR0).ck:Int))=false:=decide_eq_false (by omega)
     simp -implicitDefEqProofs only[go_sem,e1,d1,ws,hk0,g1,s1,hml,hlen,hx1,e2,hle2,List.length_singleton,wi];exact hgo
end Go.Proofs.YteakobbdgehlgaaGreatDoor
namespace Go.Proofs.YteakobbdgehlgaaGreatDoor
open Go Go.Ab Go.Cod
open Sha (txtR expB shaB z28 genB linkB z2h)
set_option maxRecDepth 100000
theorem ne_self (x:ByteArray):(x.toList != x.toList)=false:=by simp
theorem nz (n:Int):(n != n)=false:=by simp
theorem z4W {L:List RcM} {i:Nat} (h:i<L.length):(L.map rcV)[i]?=some (.agg [I L[i].ix,UN L[i].ck,.sl 1 (byv L[i].bd),I L[i].cd]):=by
 rw[List.getElem?_map,List.getElem?_eq_getElem h];rfl
theorem z4E (σ:St) (L:List RcM) (hL:L.length≤1000):Ans Tryz.prog 23 [.sl 4 (L.map rcV),.sl 4 (L.map rcV)] σ (Bo true) σ:=by
 have hml:=z2y L;refine Ans.of_run t23 ?_;simp -implicitDefEqProofs only[c23,r23,go_sem,hml,nz];refine Go.Ab.L.count L.length (fun i=>mkE 69 [(0,.sl 4 (L.map rcV)),(1,.sl 4 (L.map rcV)),(5,I i)]) (fun _=>σ) ?_ ?_ rfl rfl
 · intro i hi J hJ;have hd:decide ((i:Int)<(L.length:Int))=true:=decide_eq_true (by omega)
   have hii:((i:Int)<(L.length:Int))=True:=eq_true (by omega)
   have hx:=z4W hi;have wi:IntKind.i64.wrap ((i:Int)+1)=((i+1:Nat):Int):=wrap_succ (i:=i) (by omega)
   simp -implicitDefEqProofs only[mkE,go_sem,hml,hd,hii,hx,nz,ne_self,z1N,bc,z1W,z1R,AV.isStr,wi];exact hJ
 · intro J;have hd:decide ((L.length:Int)<(L.length:Int))=false:=decide_eq_false (by omega)
   simp -implicitDefEqProofs only[mkE,go_sem,hml,hd];exact Fini.ret rfl
theorem z6W (σ:St) (X:List Byt) (hL:X.length≤1000):Ans Tryz.prog 36 [.sl 1 (bsv X),.sl 1 (bsv X)] σ (Bo true) σ:=by
 have hml:=z24 X;refine Ans.of_run t36 ?_;simp -implicitDefEqProofs only[c36,r36,go_sem,hml,nz];refine Go.Ab.L.count X.length (fun i=>mkE 28 [(0,.sl 1 (bsv X)),(1,.sl 1 (bsv X)),(5,I i)]) (fun _=>σ) ?_ ?_ rfl rfl
 · intro i hi J hJ;have hd:decide ((i:Int)<(X.length:Int))=true:=decide_eq_true (by omega)
   have hii:((i:Int)<(X.length:Int))=True:=eq_true (by omega)
   have hx:=z4k X i hi;have wi:IntKind.i64.wrap ((i:Int)+1)=((i+1:Nat):Int):=wrap_succ (i:=i) (by omega)
   simp -implicitDefEqProofs only[mkE,go_sem,hml,hd,hii,hx,nz,ne_self,z1N,bc,z1W,z1R,AV.isStr,wi];exact hJ
 · intro J;have hd:decide ((X.length:Int)<(X.length:Int))=false:=decide_eq_false (by omega)
   simp -implicitDefEqProofs only[mkE,go_sem,hml,hd];exact Fini.ret rfl
theorem z8w (σ:St) (L:List RcM) (hL:L.length≤1000) (hb:∀r∈L,r.bd.length≤40000):Ans Tryz.prog 26 [.sl 4 (L.map rcV)] σ (.sl 1 (byv (expB L))) σ:=by
 have hml:=z2y L;have wu:IntKind.u64.wrap ((L.length:Nat):Int)=((L.length:Nat):Int):=z1u (by omega)
 have hput:=z4P σ L.length (by omega)
 have hpn:=z0J (n:=L.length) (by omega)
 refine Ans.of_run' t26 (fun hbel _=>?_)
 simp -implicitDefEqProofs only[c26,r26,go_sem,hml,wu];refine CO.intro hput ?_;simp -implicitDefEqProofs only[go_sem];refine Go.Ab.L.count L.length (fun i=>mkE 25 [(0,.sl 4 (L.map rcV)),(3,.osl σ.length (putN L.length++((L.take i).map txtR).flatten).length),(4,I i)]) (fun i=>σ++[.row 1 (byv (putN L.length++((L.take i).map txtR).flatten))]) ?_ ?_ ?_ ?_
 · intro i hi J hJ;have hd:decide ((i:Int)<(L.length:Int))=true:=decide_eq_true (by omega)
   have hii:((i:Int)<(L.length:Int))=True:=eq_true (by omega)
   have hx:=z4W hi;have hbi:=hb _ (List.getElem_mem hi);have hrb:=fun s=>z4D s L[i] (by omega)
   have hbl:=Sha.bytesRc_le L[i] hbi;have hpt:∀s,Ans Tryz.prog 53 [Sx ⟨(z0X L[i]).toArray⟩] s (.sl 1 (byv (txtR L[i]))) s:=fun s=>z4w s ⟨(z0X L[i]).toArray⟩ (by rw[z20];omega)
   have wi:IntKind.i64.wrap ((i:Int)+1)=((i+1:Nat):Int):=wrap_succ (i:=i) (by omega)
   rw[Sha.expP_succ _ _ hi,←List.append_assoc]at hJ;have hfl:=Sha.flat_txt (L.take i) fun r hr=>hb r (List.mem_of_mem_take hr)
   have hfl2:(L.take i).length≤1000:=by rw[List.length_take];omega
   have htl:=Sha.txtR_len L[i] hbi;have hX:(putN L.length++((L.take i).map txtR).flatten).length≤60000000:=by rw[List.length_append];omega
   generalize putN L.length++((L.take i).map txtR).flatten=X at hJ hX⊢;have k1:((X++txtR L[i]).length≤2^32)=True:=eq_true (by rw[List.length_append];omega)
   generalize txtR L[i]=Y at *;have hXl:=z02 X;have hYl:=z02 Y;simp -implicitDefEqProofs only[mkE,go_sem,hd,hml,hii,hx];refine CO.intro (hrb _) ?_;simp -implicitDefEqProofs only[go_sem,z1N,bc,z1W,z1R,AV.isStr];refine CO.intro (hpt _) ?_;simp -implicitDefEqProofs only[go_sem,g0,s0,hXl,hYl,k1,z1N,bc,wi,←z1c,←List.length_append];exact hJ
 · intro J;have hd:decide ((L.length:Int)<(L.length:Int))=false:=decide_eq_false (by omega)
   rw[List.take_length];have hel:=z02 (putN L.length++(L.map txtR).flatten);simp -implicitDefEqProofs only[mkE,go_sem,hml,hd,g0,s0,hel];exact Fini.trim2 (σ':=σ) (ex:=[_]) rfl rfl (Nat.le_refl _) (z1P _ _) hbel
 · rw[List.take_zero,List.map_nil,List.flatten_nil,List.append_nil];rfl
 · rw[List.take_zero,List.map_nil,List.flatten_nil,List.append_nil]
end Go.Proofs.YteakobbdgehlgaaGreatDoor
namespace Go.Proofs.YteakobbdgehlgaaGreatDoor
open Go Go.Ab Go.Cod
open Sha (txtR expB shaB z28 genB linkB z2h gloA_app kV)
set_option maxRecDepth 100000
attribute [local irreducible] Sha.shaB
theorem zc8 (n:Nat) (X:List Byt):∀x∈bsv X,Bel n x:=by
 intro x hx;obtain⟨b,_,rfl⟩:=List.mem_map.1 hx;exact z1P _ _
theorem zc9 {b:Byt} {L:List RcM} (hb:b.length<2^64) (h:rdE b=some L):∀x∈L,x.bd.length≤b.length:=by
 obtain⟨h1,h2,h3⟩:=z6V hb h;intro x hx;have hm:=zdN hx;obtain⟨i,hi,rfl⟩:=List.getElem_of_mem hx;have e:(expB L).length=(putN L.length).length+((L.map txtR).flatten).length:=by unfold expB;rw[List.length_append]
 have e2:(txtR L[i]).length=(putN (putRc L[i]).length).length+(putRc L[i]).length:=by
  rw[z9v (h2 i hi).1];unfold txtB;rw[List.length_append,z20]
 have e3:L[i].bd.length≤(putRc L[i]).length:=by
  unfold putRc txtB;simp only[List.length_append];omega
 rw[h1];omega
theorem z6X (o:Int) (L:List RcM) (hb:∀r∈L,r.bd.length≤40000):∀x∈imB o L,x.length≤60000:=by
 intro x hx;unfold imB at hx;rcases List.mem_cons.1 hx with rfl|hx
 · show(9:Nat)≤60000;decide
 · obtain⟨i,hi,rfl⟩:=List.mem_map.1 hx;have hi:=List.mem_range.1 hi;have e:L.getD i noR0=L[i]:=by rw[List.getD_eq_getElem?_getD,List.getElem?_eq_getElem hi];rfl
   have:=Sha.bytesRc_le L[i] (hb _ (List.getElem_mem hi));rw[z2h,z4m,e];omega
def boxR (L:List RcM):St:=L.map fun r=>.box (rcC r)
section
variable (σ:St)
theorem z5H {o:Int} {b:Byt} (hb:b.length≤40000) (h:rdE b=none):Ans Tryz.prog 35 [I o,.sl 1 (byv b)] σ (.tup [.nils,Bo false]) σ:=by
 have k:=z4V σ b (by omega)
 rw[h]at k;unfold expW at k;refine Ans.of_run t35 ?_;simp -implicitDefEqProofs only[c35,r35,go_sem];refine CO.intro k ?_;simp -implicitDefEqProofs only[go_sem];exact Fini.ret rfl
theorem z5I {o:Int} {b:Byt} {L:List RcM} (hb:b.length≤40000) (h:rdE b=some L) (hG:∀ex,gloA (σ++ex) 0=some kV) :
  Ans Tryz.prog 35 [I o,.sl 1 (byv b)] σ (.tup [.osl σ.length (L.length+1),Bo true]) (σ++[.row 1 (bsv (imB o L))]):=by
 have k:=z4V σ b (by omega)
 rw[h]at k;unfold expW at k;have kg:Ans Tryz.prog 28 [I o] σ (.sl 1 (byv (genB o))) σ:=Sha.genesis_ans σ o;have hml:=z2y L;obtain⟨hbe,hok,hn⟩:=z6V (by omega) h
 have hbd:=zc9 (by omega) h
 refine Ans.of_run' t35 (fun hbel _=>?_)
 simp -implicitDefEqProofs only[c35,r35,go_sem];refine CO.intro k ?_;simp -implicitDefEqProofs only[go_sem];refine CO.intro kg ?_;simp -implicitDefEqProofs only[go_sem,hml];refine Go.Ab.L.count L.length (fun i=>mkE 41 [(8,.osl σ.length (i+1)),(21,.sl 4 (L.map rcV)),(22,I L.length),(23,I i)]) (fun i=>σ++(.row 1 (bsv (imB o (L.take i)))::boxR (L.take i))) ?_ ?_ rfl rfl
 · intro i hi J hJ;have hd:decide ((i:Int)<(L.length:Int))=true:=decide_eq_true (by omega)
   have hii:((i:Int)<(L.length:Int))=True:=eq_true (by omega)
   have hx:=z4W hi;have hbi:=hbd _ (List.getElem_mem hi);have wi:IntKind.i64.wrap ((i:Int)+1)=((i+1:Nat):Int):=wrap_succ (i:=i) (by omega)
   have hts:L.take (i+1)=L.take i++[L[i]]:=List.take_succ_eq_append_getElem hi;rw[hts,z9x]at hJ;have hbx:boxR (L.take i++[L[i]])=boxR (L.take i)++[.box (rcC L[i])]:=by unfold boxR;rw[List.map_append];rfl
   rw[hbx]at hJ;have hil:=z3e o (L.take i);have htl:(L.take i).length=i:=by rw[List.length_take];omega
   have him:=z6X o (L.take i) fun r hr=>by have:=hbd r (List.mem_of_mem_take hr);omega
   have hsh:=z8v o (L.take i) i (by omega)
   rw[List.take_of_length_le (by omega:(L.take i).length≤i)]at hsh
   have hXi:((imB o (L.take i)).getD i []).length≤60000:=by
    rw[List.getD_eq_getElem?_getD,List.getElem?_eq_getElem (by rw[hil];omega)]
    exact him _ (List.getElem_mem _)
   have hgi:(bsv (imB o (L.take i)))[i]?=some (.sl 1 (byv ((imB o (L.take i)).getD i []))):=by
    rw[z4k _ i (by rw[hil];omega),List.getD_eq_getElem?_getD,List.getElem?_eq_getElem (by rw[hil];omega)];rfl
   have hrb:=fun s=>z8p s L[i] (by omega)
   have hbl:=Sha.bytesRc_le L[i] (by omega)
   have hlk:=fun s=>Sha.link_ans s (hdL o (L.take i)) (z0X L[i]) (z4m _ _) hbl
   have hsa:=fun ex=>Sha.sha_ans (σ++ex) ((imB o (L.take i)).getD i []) (by omega) (fun ex2=>by rw[List.append_assoc];exact hG _)
   rw[hsh]at hsa;have hlen:(bsv (imB o (L.take i))).length=i+1:=by rw[z24,hil,htl]
   have hbsn:bsv (imB o (L.take i))++[.sl 1 (byv (linkB (hdL o (L.take i)) (z0X L[i])))]=bsv (imB o (L.take i)++[linkB (hdL o (L.take i)) (z0X L[i])]):=by unfold bsv;rw[List.map_append];rfl
   rw[←hbsn]at hJ;generalize (imB o (L.take i)).getD i []=img at *;generalize bsv (imB o (L.take i))=X at *;generalize hdL o (L.take i)=hd0 at *;have hle2:i+1+1≤4294967296:=by omega
   have hk0:((i:Int)<((i+1:Nat):Int))=True:=eq_true (by omega)
   obtain⟨S,eS⟩:∃S,S=σ++(.row 1 X::boxR (L.take i)):=⟨_,rfl⟩;have hS0:∀ex,(S++ex)[σ.length]?=some (.row 1 X):=fun ex=>by rw[eS,List.append_assoc];exact g0 σ _ _
   have hS1:∀y ex,(S++ex).set σ.length y=σ++(y::(boxR (L.take i)++ex)):=fun y ex=>by rw[eS,List.append_assoc];exact s0 σ _ _ _
   have hsa':∀ex,Ans Tryz.prog 27 [.sl 1 (byv img)] (S++ex) (.agg (byv hd0)) (S++ex):=fun ex=>by
    have:=hsa (.row 1 X::boxR (L.take i)++ex);rw[←List.append_assoc,←eS]at this;exact this
   rw[←eS];simp -implicitDefEqProofs only[mkE,go_sem,hd,hml,hii,hx,g0,s0,hS0,hlen,hk0,hgi];refine CD.intro (hsa' _) ?_;simp -implicitDefEqProofs only[go_sem,g0,s0];refine CD.intro (hrb _) ?_;simp -implicitDefEqProofs only[go_sem];refine CD.intro (hlk _) ?_;simp -implicitDefEqProofs only[go_sem,hS0,hS1,hlen,hle2,List.length_singleton,wi,hgi];exact hJ
 · intro J;have hd:decide ((L.length:Int)<(L.length:Int))=false:=decide_eq_false (by omega)
   rw[List.take_length];simp -implicitDefEqProofs only[mkE,go_sem,hd];have hst:σ++(.row 1 (bsv (imB o L))::boxR L)=(σ++[.row 1 (bsv (imB o L))])++boxR L:=by rw[List.append_assoc];rfl
   refine Fini.trim2 (h:=?_) (he:=hst) (hl:=?_) (hb:=?_) (ho:=?_)
   · rfl
   · rw[List.length_append];exact Nat.le_add_right _ _
   · refine .tup _ fun k hk=>?_
     match k,hk with
     |0,_=>exact .osl _ _ (by simp)
     |1,_=>exact .pl _
   · intro y hy;rcases List.mem_append.1 hy with hy|hy
     · exact zaT (hbel y hy) (by simp)
     · obtain rfl:=List.mem_singleton.1 hy;exact zc8 _ _
end
section
variable (σ:St)
theorem zca (h r:List UInt8) (hh:h.length=32) (hr:r.length≤50000):Ans Tryz.prog 68 [.agg (byv h),.sl 1 (byv r)] σ (.sl 1 (byv (linkB h r))) σ:=by
 have hl:=z02 h;have ha:(byv h).all AV.one=true:=Sha.bv_all h;have htk:List.take 32 (byv h)=byv h:=List.take_of_length_le (by rw[hl,hh];exact Nat.le_refl _)
 have hrl:=z02 r
 have e:(AV.pl (.int .u8 1)::byv h)++byv r=byv (linkB h r):=by
  unfold linkB;rw[List.flatten_cons,List.flatten_cons,List.flatten_cons,List.flatten_nil,List.append_nil,z1c,z1c];rfl
 have e':AV.pl (.int .u8 1)::(byv h++byv r)=byv (linkB h r):=e;have k1:((1:Nat)+32≤2^32)=True:=eq_true (by decide)
 have k2:((1:Nat)+32+r.length≤2^32)=True:=eq_true (by omega)
 have k3:(33+r.length≤2^32)=True:=eq_true (by omega)
 have hll:(byv (linkB h r)).length=33+r.length:=by rw[z02,z2h,hh]
 refine Ans.of_run' t68 (fun hbel _=>?_)
 simp -implicitDefEqProofs only[c68,r68,go_sem,hl,hh,ha,htk,z1N,bc,k1,g0,s0,hrl,k2,k3,e',hll];exact Fini.trim2 (σ':=σ) (ex:=[_]) rfl rfl (Nat.le_refl _) (z1P _ _) hbel
theorem z5J {o:Int} {L:List RcM} (hn:L.length≤1000) (hbd:∀r∈L,r.bd.length≤40000) (hG:∀ex,gloA (σ++ex) 1=some kV) :
  Ans Tryz.prog 37 [I o,.sl 4 (L.map rcV)] σ (.sl 1 (bsv (imB o L))) σ:=by
 have kg:Ans Tryz.prog 67 [I o] σ (.sl 1 (byv (genB o))) σ:=Sha.dgenesis_ans σ o;have hml:=z2y L;refine Ans.of_run' t37 (fun hbel _=>?_)
 simp -implicitDefEqProofs only[c37,r37,go_sem];refine CO.intro kg ?_;simp -implicitDefEqProofs only[go_sem];refine Go.Ab.L.count L.length (fun i=>mkE 31 [(1,.sl 4 (L.map rcV)),(5,.osl σ.length (i+1)),(6,I i)]) (fun i=>σ++[.row 1 (bsv (imB o (L.take i)))]) ?_ ?_ rfl rfl
 · intro i hi J hJ;have hd:decide ((i:Int)<(L.length:Int))=true:=decide_eq_true (by omega)
   have hii:((i:Int)<(L.length:Int))=True:=eq_true (by omega)
   have hx:=z4W hi;have hbi:=hbd _ (List.getElem_mem hi);have wi:IntKind.i64.wrap ((i:Int)+1)=((i+1:Nat):Int):=wrap_succ (i:=i) (by omega)
   have hts:L.take (i+1)=L.take i++[L[i]]:=List.take_succ_eq_append_getElem hi;rw[hts,z9x]at hJ;have hil:=z3e o (L.take i);have htl:(L.take i).length=i:=by rw[List.length_take];omega
   have him:=z6X o (L.take i) fun r hr=>hbd r (List.mem_of_mem_take hr)
   have hsh:=z8v o (L.take i) i (by omega)
   rw[List.take_of_length_le (by omega:(L.take i).length≤i)]at hsh
   have hXi:((imB o (L.take i)).getD i []).length≤60000:=by
    rw[List.getD_eq_getElem?_getD,List.getElem?_eq_getElem (by rw[hil];omega)]
    exact him _ (List.getElem_mem _)
   have hgi:(bsv (imB o (L.take i)))[i]?=some (.sl 1 (byv ((imB o (L.take i)).getD i []))):=by
    rw[z4k _ i (by rw[hil];omega),List.getD_eq_getElem?_getD,List.getElem?_eq_getElem (by rw[hil];omega)];rfl
   have hrb:=fun s=>z4D s L[i] (by omega)
   have hbl:=Sha.bytesRc_le L[i] (by omega)
   have hlk:=fun s=>zca s (hdL o (L.take i)) (z0X L[i]) (z4m _ _) hbl
   have hsa:∀ex,Ans Tryz.prog 42 [.sl 1 (byv ((imB o (L.take i)).getD i []))] (σ++ex) (.agg (byv (shaB ((imB o (L.take i)).getD i [])))) (σ++ex):=fun ex=>Sha.dsha_ans (σ++ex) ((imB o (L.take i)).getD i []) (by omega) (fun ex2=>by rw[List.append_assoc];exact hG _)
   rw[hsh]at hsa;have hlen:(bsv (imB o (L.take i))).length=i+1:=by rw[z24,hil,htl]
   have hbsn:bsv (imB o (L.take i))++[.sl 1 (byv (linkB (hdL o (L.take i)) (z0X L[i])))]=bsv (imB o (L.take i)++[linkB (hdL o (L.take i)) (z0X L[i])]):=by unfold bsv;rw[List.map_append];rfl
   rw[←hbsn]at hJ;generalize (imB o (L.take i)).getD i []=img at *;generalize bsv (imB o (L.take i))=X at *;generalize hdL o (L.take i)=hd0 at *;have hle2:i+1+1≤4294967296:=by omega
   have hk0:((i:Int)<((i+1:Nat):Int))=True:=eq_true (by omega)
   simp -implicitDefEqProofs only[mkE,go_sem,hd,hml,hii,hx,g0,s0,hlen,hk0,hgi];refine CD.intro (hsa _) ?_;simp -implicitDefEqProofs only[go_sem,hii,hml,hx];refine CD.intro (hrb _) ?_;simp -implicitDefEqProofs only[go_sem];refine CD.intro (hlk _) ?_;simp -implicitDefEqProofs only[go_sem,g0,s0,hlen,hle2,List.length_singleton,wi,hgi];exact hJ
 · intro J;have hd:decide ((L.length:Int)<(L.length:Int))=false:=decide_eq_false (by omega)
   have hil:(bsv (imB o L)).length=L.length+1:=by rw[z24,z3e]
   rw[List.take_length];simp -implicitDefEqProofs only[mkE,go_sem,hml,hd,g0,s0,hil];exact Fini.trim2 (σ':=σ) (ex:=[_]) rfl rfl (Nat.le_refl _) (.sl 1 _ fun i hi=>zc8 _ _ _ (List.getElem_mem hi)) hbel
theorem z9z {o:Int} {L:List RcM}:(bsv (imB o L))[L.length]?=some (.sl 1 (byv ((imB o L).getD L.length []))):=by
 have hil:=z3e o L;rw[z4k _ L.length (by rw[hil];omega),List.getD_eq_getElem?_getD,List.getElem?_eq_getElem (by rw[hil];omega)];rfl
theorem z9A {o:Int} {L:List RcM} (hbd:∀r∈L,r.bd.length≤40000):((imB o L).getD L.length []).length≤60000:=by
 have hil:=z3e o L;rw[List.getD_eq_getElem?_getD,List.getElem?_eq_getElem (by rw[hil];omega)]
 exact z6X o L hbd _ (List.getElem_mem _)
theorem z9B (o:Int) (L:List RcM):shaB ((imB o L).getD L.length [])=hdL o L:=by
 rw[z8v o L L.length (Nat.le_refl _),List.take_length]
theorem zcb {o:Int} {L:List RcM} (hn:L.length≤1000) (hbd:∀r∈L,r.bd.length≤40000) (hG:∀ex,gloA (σ++ex) 1=some kV) :
  Ans Tryz.prog 22 [I o,.sl 4 (L.map rcV)] σ (.agg (byv (hdL o L))) σ:=by
 have km:=fun ex=>z5J (σ++ex) (o:=o) hn hbd (fun ex2=>by rw[List.append_assoc];exact hG _)
 have hil:(bsv (imB o L)).length=L.length+1:=by rw[z24,z3e]
 have hx:=z9z (o:=o) (L:=L);have hs:∀ex,Ans Tryz.prog 42 [.sl 1 (byv ((imB o L).getD L.length []))] (σ++ex) (.agg (byv (shaB ((imB o L).getD L.length [])))) (σ++ex):=fun ex=>Sha.dsha_ans (σ++ex) _ (by have:=z9A (o:=o) hbd;omega) (fun ex2=>by rw[List.append_assoc];exact hG _)
 rw[z9B]at hs;have ws:IntKind.i64.wrap (((L.length+1:Nat):Int)-1)=(L.length:Int):=by rw[show((L.length+1:Nat):Int)-1=(L.length:Int) by omega];exact wrapI (by omega)
 have hk0:((L.length:Int)<((L.length+1:Nat):Int))=True:=eq_true (by omega)
 have hl:=z02 (hdL o L);have h32:=z4m o L;have ha:(byv (hdL o L)).all AV.one=true:=Sha.bv_all _;have htk:List.take 32 (byv (hdL o L))=byv (hdL o L):=List.take_of_length_le (by rw[hl,h32];exact Nat.le_refl _)
 have hba:Bel σ.length (.agg (byv (hdL o L))):=Sha.bel_bva _ _;generalize hdL o L=hd0 at *;refine Ans.of_run' t22 (fun hbel _=>?_)
 simp -implicitDefEqProofs only[c22,r22,go_sem];refine CO.intro (km _) ?_;simp -implicitDefEqProofs only[go_sem,hil,ws,hk0,hx];refine CO.intro (hs _) ?_;simp -implicitDefEqProofs only[go_sem,hl,h32,ha,htk,g0,s0];exact Fini.trim2 (σ':=σ) (ex:=[_]) (by simp -implicitDefEqProofs only[go_sem,resA,z01,rvA,oneOf,g0,hl,h32,htk]<;>rfl) rfl (Nat.le_refl _) hba hbel
end
def z32:Byt:=List.replicate 32 0
def vfyH (o:Int) (r:Option (List RcM)):Byt:=match r with
 |none=>z32
 |some L=>hdL o L
def vfyV (o:Int) (r:Option (List RcM)):AV:=.tup [.agg (byv (vfyH o r)),Bo r.isSome]
theorem zdO (n:Nat) (o:Int) (r:Option (List RcM)):Bel n (vfyV o r):=z1k (Sha.bel_bva _ _)
section
variable (σ:St)
theorem z4n (o:Int) (b:Byt) (hb:b.length≤40000) (hG:∀ex,gloA (σ++ex) 0=some kV):Ans Tryz.prog 34 [I o,.sl 1 (byv b)] σ (vfyV o (rdE b)) σ:=by
 have hbv:=zdO σ.length o (rdE b);have hzb:byv z32=List.replicate 32 (.pl (.int .u8 0)):=rfl;simp only[List.reduceReplicate]at hzb
 cases h:rdE b with
 |none =>
  rw[h]at hbv;have k:=z5H (σ++[.box (byv z32)]) (o:=o) hb h;unfold vfyV vfyH at hbv⊢;simp only at hbv⊢;rw[hzb]at hbv k⊢;refine Ans.of_run' t34 (fun hbel _=>?_)
  simp -implicitDefEqProofs only[c34,r34,go_sem];refine CO.intro k ?_;simp -implicitDefEqProofs only[go_sem,g0,s0];exact Fini.trim2 (σ':=σ) (ex:=[_]) (by simp -implicitDefEqProofs only[go_sem,resA,z01,rvA,oneOf,g0]<;>rfl) rfl (Nat.le_refl _) hbv hbel
 |some L =>
  rw[h]at hbv;have hbd:∀r∈L,r.bd.length≤40000:=fun r hr=>by have:=zc9 (by omega) h r hr;omega
  have k:=z5I (σ++[.box (byv z32)]) (o:=o) hb h (fun ex=>by rw[List.append_assoc];exact hG _)
  have hil:(bsv (imB o L)).length=L.length+1:=by rw[z24,z3e]
  have hx:=z9z (o:=o) (L:=L);have hs:∀ex,Ans Tryz.prog 27 [.sl 1 (byv ((imB o L).getD L.length []))] (σ++ex) (.agg (byv (shaB ((imB o L).getD L.length [])))) (σ++ex):=fun ex=>Sha.sha_ans (σ++ex) _ (by have:=z9A (o:=o) hbd;omega) (fun ex2=>by rw[List.append_assoc];exact hG _)
  rw[z9B]at hs;obtain⟨-,-,hn⟩:=z6V (by omega) h
  have ws:IntKind.i64.wrap (((L.length+1:Nat):Int)-1)=(L.length:Int):=by rw[show((L.length+1:Nat):Int)-1=(L.length:Int) by omega];exact wrapI (by omega)
  have hk0:((L.length:Int)<((L.length+1:Nat):Int))=True:=eq_true (by omega)
  have hl:=z02 (hdL o L);have h32:=z4m o L;have ha:(byv (hdL o L)).all AV.one=true:=Sha.bv_all _;have htk:List.take 32 (byv (hdL o L))=byv (hdL o L):=List.take_of_length_le (by rw[hl,h32];exact Nat.le_refl _)
  unfold vfyV vfyH at hbv⊢;simp only at hbv⊢;rw[List.append_assoc,List.length_append]at k;generalize hdL o L=hd0 at *;rw[hzb]at k;refine Ans.of_run' t34 (fun hbel _=>?_)
  simp -implicitDefEqProofs only[c34,r34,go_sem];refine CO.intro k ?_;simp -implicitDefEqProofs only[go_sem,g0,s0,g1,s1,hil,ws,hk0,hx];refine CO.intro (hs _) ?_;simp -implicitDefEqProofs only[go_sem,hl,h32,ha,htk,g0,s0];exact Fini.trim2 (σ':=σ) (ex:=[_,_]) (by simp -implicitDefEqProofs only[go_sem,resA,z01,rvA,oneOf,g0,hl,h32,htk]<;>rfl) rfl (Nat.le_refl _) hbv hbel
theorem z8x (n:Nat) (a b:Byt) (ha:a.length=n) (hb:b.length=n):eqCells (List.replicate n .int) (byv a) (byv b)=some (a==b):=Sha.eqCells_bv n a b ha hb
theorem rdE_0:rdE [0]=some []:=by kernel_rfl
theorem zgv:rdE [0,0]=none:=by kernel_rfl
theorem z5K (hG:∀ex,gloA (σ++ex) 0=some kV):Ans Tryz.prog 31 [] σ (Bo true) σ:=by
 have k1:=z4n σ 7 [0] (by decide) hG
 have k2:=z4n σ 7 [0,0] (by decide) hG
 have k3:=z4V σ [0] (by decide)
 have kg:Ans Tryz.prog 28 [I 7] σ (.sl 1 (byv (genB 7))) σ:=Sha.genesis_ans σ 7;have ks:Ans Tryz.prog 27 [.sl 1 (byv (genB 7))] σ (.agg (byv (shaB (genB 7)))) σ:=Sha.sha_ans σ (genB 7) (show(9:Nat)≤100000 by decide) hG
 rw[rdE_0]at k1 k3;rw[zgv]at k2;unfold vfyV vfyH at k1 k2;unfold expW at k3;simp only at k1 k2 k3;have e0:hdL 7 []=shaB (genB 7):=rfl;rw[e0]at k1;have h32:(shaB (genB 7)).length=32:=z28 _;have eq1:=z8x 32 (shaB (genB 7)) (shaB (genB 7)) h32 h32;rw[beq_self_eq_true]at eq1;simp only[List.reduceReplicate]at eq1;have hl:=z02 (shaB (genB 7));have ha:(byv (shaB (genB 7))).all AV.one=true:=Sha.bv_all _;have htk:List.take 32 (byv (shaB (genB 7)))=byv (shaB (genB 7)):=List.take_of_length_le (by rw[hl,h32];exact Nat.le_refl _)
 generalize shaB (genB 7)=hd0 at *;have hzl:=z02 z32;have hz32:z32.length=32:=rfl;have hza:(byv z32).all AV.one=true:=Sha.bv_all _;have k1:Ans Tryz.prog 34 [I 7,.sl 1 [.pl (.int .u8 0)]] σ (.tup [.agg (byv hd0),Bo true]) σ:=k1;have k2:Ans Tryz.prog 34 [I 7,.sl 1 [.pl (.int .u8 0),.pl (.int .u8 0)]] σ (.tup [.agg (byv z32),Bo false]) σ:=k2;have k3:Ans Tryz.prog 32 [.sl 1 [.pl (.int .u8 0)]] σ (.tup [.sl 4 [],Bo true]) σ:=k3;have z00:((((0:Nat):Int))==0)=true:=rfl;refine Ans.of_run t31 ?_;simp -implicitDefEqProofs only[c31,r31,go_sem];refine CO.intro k1 ?_;simp -implicitDefEqProofs only[go_sem,hl,h32,ha,htk];refine CO.intro k2 ?_;simp -implicitDefEqProofs only[go_sem,hzl,hz32,hza];refine CO.intro k3 ?_;simp -implicitDefEqProofs only[go_sem,hl,h32,htk];refine CD.intro kg ?_;simp -implicitDefEqProofs only[go_sem];refine CD.intro ks ?_;simp -implicitDefEqProofs only[go_sem,eq1,z00];exact Fini.ret rfl
end
end Go.Proofs.YteakobbdgehlgaaGreatDoor
namespace Go.Proofs.YteakobbdgehlgaaGreatDoor
open Go Go.Ab Go.Cod
set_option maxRecDepth 100000
abbrev EnvD (b:Byt) (p i n at_:Nat):Env:=mkE 85 [(0,.sl 1 (byv b)),(4,UN n),(5,I at_),(7,.osl p i),(8,I i)]
set_option maxHeartbeats 1000000 in
theorem zcc (σ:St) (b:Byt) (hb:b.length≤50000):Ans Tryz.prog 33 [.sl 1 (byv b)] σ (expW (rdE b)) σ:=by
 have hbw:=z4U σ.length (rdE b);have hne:Bel σ.length (expW none):=z4U σ.length none;have k1:=z19 σ b (by omega)
 refine Ans.of_run' t33 (fun hbel _=>?_)
 simp -implicitDefEqProofs only[c33,r33,go_sem];refine CO.intro k1 ?_
 cases h0:getN 0 b with
 |none =>
  have e0:rdE b=none:=by unfold rdE numR;rw[h0];rfl
  rw[e0,z0A h0];simp -implicitDefEqProofs only[go_sem];exact Fini.trim2 (σ':=σ) (ex:=[]) rfl (List.append_nil _).symm (Nat.le_refl _) hne hbel
 |some p =>
 obtain⟨n,t⟩:=p;rw[z0G h0];by_cases hn:n≤200
 case neg =>
  have e0:rdE b=none:=by unfold rdE numR;rw[h0];simp only[Option.bind_some];rw[if_neg hn];rfl
  have d1:decide ((200:Int)<(n:Int))=true:=decide_eq_true (by omega)
  rw[e0];simp -implicitDefEqProofs only[go_sem,d1];exact Fini.trim2 (σ':=σ) (ex:=[]) rfl (List.append_nil _).symm (Nat.le_refl _) hne hbel
 have h1:numR 200 b=some (n,t):=by unfold numR;rw[h0];simp only[Option.bind_some];rw[if_pos hn]
 have d1:decide ((200:Int)<(n:Int))=false:=decide_eq_false (by omega)
 obtain⟨hn2,hbt⟩:=(z2j (most:=200) (by decide)).bwd _ _ _ h1
 have hlt:b.length=(putN n).length+t.length:=by rw[←List.length_append,←hbt]
 have hwn:IntKind.i64.wrap (n:Int)=(n:Int):=wrapI (by omega)
 simp -implicitDefEqProofs only[go_sem,d1]
 refine Go.Ab.L.intro (α:={ p:Nat×List RcM×Byt // p.1≤n∧goE b.length t p.1=some (p.2.1,p.2.2) }) (fun p=>n-p.1.1)
  (fun p=>EnvD b σ.length p.1.1 n (b.length-p.1.2.2.length)) (fun p=>σ++[.row 4 (p.1.2.1.map rcV)]) ?_ ⟨(0,[],t),Nat.zero_le _,rfl⟩ rfl rfl
 rintro⟨⟨i,L,r⟩,hi,hg⟩ J hJ;simp only at hi hg hJ⊢;have hlen:=z5G hg;simp only at hlen;obtain⟨w,hw⟩:=z8u (by omega) hg
 simp only at hw;have hbr:b=(putN n++w)++r:=by rw[List.append_assoc,←hw,←hbt]
 have hbl:b.length=(putN n++w).length+r.length:=by rw[←List.length_append,←hbr]
 have hrd:b.drop (b.length-r.length)=r:=by
  have:=z9y (putN n++w) r;rw[←hbr]at this;exact this
 have hml:=z2y L;by_cases hlt2:i<n
 case neg =>
  have hin':i=n:=by omega
  subst hin';have d0:decide ((i:Int)<(i:Int))=false:=decide_eq_false (by omega)
  by_cases hr:r=[]
  · have e1:(((b.length-r.length:Nat):Int) != (b.length:Nat))=false:=by rw[hr];simp
    have e0:rdE b=some L:=by unfold rdE;rw[h1];simp only[Option.bind_some];rw[hg];simp only[Option.bind_some];rw[if_pos hr]
    rw[e0]at hbw⊢;simp -implicitDefEqProofs only[mkE,go_sem,hwn,d0,z02,e1,g0,s0,hml,hlen];exact Fini.trim2 (σ':=σ) (ex:=[_]) rfl rfl (Nat.le_refl _) hbw hbel
  · have hr2:0<r.length:=List.length_pos_iff.2 hr
    have e1:(((b.length-r.length:Nat):Int) != (b.length:Nat))=true:=by
     rw[bne,Bool.not_eq_true',beq_eq_false_iff_ne];omega
    have e0:rdE b=none:=by unfold rdE;rw[h1];simp only[Option.bind_some];rw[hg];simp only[Option.bind_some];rw[if_neg hr]
    rw[e0];simp -implicitDefEqProofs only[mkE,go_sem,hwn,d0,z02,e1];exact Fini.trim2 (σ':=σ) (ex:=[_]) rfl rfl (Nat.le_refl _) hne hbel
 have d0:decide ((i:Int)<(n:Int))=true:=decide_eq_true (by omega)
 have hfail:goE b.length t (i+1)=none→rdE b=none:=fun h=>by unfold rdE;rw[h1];simp only[Option.bind_some];rw[z6U h (by omega:i+1≤n)];rfl
 have hlo:(((b.length-r.length:Nat):Int)≤(b.length:Nat))=True:=eq_true (by omega)
 have htx:=z13 (σ++[.row 4 (L.map rcV)]) r b.length (by omega) (by omega)
 cases h2:textR b.length r with
 |none =>
  rw[z0C h2]at htx;rw[hfail (by rw[goE,hg];simp only[Option.bind_some];rw[h2];rfl)]
  simp -implicitDefEqProofs only[mkE,go_sem,hwn,d0,z02,z0q,z0r,List.take_length,Int.le_refl,hlo,hrd,Int.toNat_natCast];refine CO.intro htx ?_;simp -implicitDefEqProofs only[go_sem];exact Fini.trim2 (σ':=σ) (ex:=[_]) rfl rfl (Nat.le_refl _) hne hbel
 |some sp =>
  obtain⟨s,r2⟩:=sp;obtain⟨hsz,hr2⟩:=(z0T (most:=b.length) (by omega)).bwd _ _ _ h2
  have hr2l:r.length=(txtB s).length+r2.length:=by rw[hr2,List.length_append]
  rw[z1e h2]at htx;have hrc:=z8r (σ++[.row 4 (L.map rcV)]) s.data.toList (by rw[z1m];omega)
  have a2:IntKind.i64.wrap (((b.length-r.length:Nat):Int)+((r.length-r2.length:Nat):Int))=((b.length-r2.length:Nat):Int):=by
   rw[wrapN (by omega) (by omega)];omega
  simp -implicitDefEqProofs only[mkE,go_sem,hwn,d0,z02,z0q,z0r,List.take_length,Int.le_refl,hlo,hrd,Int.toNat_natCast];refine CO.intro htx ?_;simp -implicitDefEqProofs only[go_sem,a2,z3s];refine CO.intro hrc ?_
  cases h3:rdRc s.data.toList with
  |none =>
   rw[hfail (by rw[goE,hg];simp only[Option.bind_some];rw[h2];simp only[Option.bind_some];rw[h3];rfl)]
   unfold rcW noRcV;simp -implicitDefEqProofs only[go_sem];exact Fini.trim2 (σ':=σ) (ex:=[_]) rfl rfl (Nat.le_refl _) hne hbel
  |some x =>
   have hstep:goE b.length t (i+1)=if x.ix=(i:Int)∧lastC L≤x.ck then some (L++[x],r2) else none:=by
    rw[goE,hg];simp only[Option.bind_some];rw[h2];simp only[Option.bind_some];rw[h3];rfl
   have hrx:rcV x=.agg [I x.ix,UN x.ck,.sl 1 (byv x.bd),I x.cd]:=rfl;unfold rcW;simp only;rw[hrx];by_cases hix:x.ix=(i:Int)
   case neg =>
    have e1:(x.ix != (i:Int))=true:=by rw[bne,Bool.not_eq_true',beq_eq_false_iff_ne];exact hix
    rw[hfail (by rw[hstep,if_neg (fun h=>hix h.1)])]
    simp -implicitDefEqProofs only[go_sem,e1];exact Fini.trim2 (σ':=σ) (ex:=[_]) rfl rfl (Nat.le_refl _) hne hbel
   have e1:(x.ix != (i:Int))=false:=by rw[hix,bne,beq_self_eq_true];rfl
   have wi:IntKind.i64.wrap ((i:Int)+1)=((i+1:Nat):Int):=wrap_succ (i:=i) (by omega)
   have hle2:i+1≤4294967296:=by omega
   have hsn:L.map rcV++[.agg [I x.ix,UN x.ck,.sl 1 (byv x.bd),I x.cd]]=(L++[x]).map rcV:=by rw[List.map_append];rfl
   by_cases hck:lastC L≤x.ck
   case neg =>
    rw[hfail (by rw[hstep,if_neg (fun h=>hck h.2)])]
    cases i with
    |zero =>
     have:lastC L=0:=by rw[List.length_eq_zero_iff.1 hlen];rfl
     omega
    |succ k =>
     have d1:decide ((0:Int)<((k+1:Nat):Int))=true:=decide_eq_true (by omega)
     have ws:IntKind.i64.wrap (((k+1:Nat):Int)-1)=(k:Int):=by rw[show((k+1:Nat):Int)-1=(k:Int) by omega];exact wrapI (by omega)
     obtain⟨hx1,hx2⟩:=z4a hlen;have hk0:((k:Int)<((k+1:Nat):Int))=True:=eq_true (by omega)
     have hry:rcV (L.getD k noR0)=.agg [I (L.getD k noR0).ix,UN (L.getD k noR0).ck,.sl 1 (byv (L.getD k noR0).bd),I (L.getD k noR0).cd]:=rfl;rw[hry]at hx1;have e2:decide ((x.ck:Int)<((L.getD k noR0).ck:Int))=true:=decide_eq_true (by omega)
     simp -implicitDefEqProofs only[go_sem,e1,d1,ws,hk0,g0,hml,hlen,hx1,e2];exact Fini.trim2 (σ':=σ) (ex:=[_]) rfl rfl (Nat.le_refl _) hne hbel
   have hgo:=hJ ⟨(i+1,L++[x],r2),by simp only;omega,by simp only;rw[hstep,if_pos ⟨hix,hck⟩]⟩ (by simp only;omega)
   simp only at hgo;rw[←hsn]at hgo
   cases i with
   |zero =>
    have d1:decide ((0:Int)<((0:Nat):Int))=false:=rfl;simp -implicitDefEqProofs only[go_sem,e1,d1,g0,s0,hml,hlen,hle2,List.length_singleton,wi];exact hgo
   |succ k =>
    have d1:decide ((0:Int)<((k+1:Nat):Int))=true:=decide_eq_true (by omega)
    have ws:IntKind.i64.wrap (((k+1:Nat):Int)-1)=(k:Int):=by rw[show((k+1:Nat):Int)-1=(k:Int) by omega];exact wrapI (by omega)
    obtain⟨hx1,hx2⟩:=z4a hlen;have hk0:((k:Int)<((k+1:Nat):Int))=True:=eq_true (by omega)
    have hry:rcV (L.getD k noR0)=.agg [I (L.getD k noR0).ix,UN (L.getD k noR0).ck,.sl 1 (byv (L.getD k noR0).bd),I (L.getD k noR0).cd]:=rfl;rw[hry]at hx1;have e2:decide ((x.ck:Int)<((L.getD k noR0).ck:Int))=false:=decide_eq_false (by omega)
    simp -implicitDefEqProofs only[go_sem,e1,d1,ws,hk0,g0,s0,hml,hlen,hx1,e2,hle2,List.length_singleton,wi];exact hgo
end Go.Proofs.YteakobbdgehlgaaGreatDoor
namespace Go.Proofs.YteakobbdgehlgaaGreatDoor
open Go Go.Ab Go.Cod
open Sha (txtR expB shaB z28 genB linkB z2h gloA_app kV)
set_option maxRecDepth 100000
attribute [local irreducible] Sha.shaB
theorem zdP (b:Byt):((⟨b.toArray⟩:ByteArray).toList==(⟨b.toArray⟩:ByteArray).toList)=true:=beq_self_eq_true _
set_option maxHeartbeats 1000000 in
theorem z5N (σ:St) (o:Int) (b:Byt) (hG:∀ex,gloA (σ++ex) 0=some kV) (hG1:∀ex,gloA (σ++ex) 1=some kV):Ans Tryz.prog 6 [I o,.sl 1 (byv b)] σ (Bo true) σ:=by
 have hbl:=z02 b;by_cases h900:900<b.length
 · have d0:decide ((900:Int)<(b.length:Int))=true:=decide_eq_true (by omega)
   refine Ans.of_run t6 ?_;simp -implicitDefEqProofs only[c6,r6,go_sem,hbl,d0];refine CO.intro (z5K σ hG) ?_;simp -implicitDefEqProofs only[go_sem];exact Fini.ret rfl
 have d0:decide ((900:Int)<(b.length:Int))=false:=decide_eq_false (by omega)
 have k1:=z4V σ b (by omega)
 have k2:=zcc σ b (by omega)
 have k3:=z4n σ o b (by omega) hG
 cases h:rdE b with
 |none =>
  have k4:=z5H σ (o:=o) (b:=b) (by omega) h
  rw[h]at k1 k2 k3;unfold vfyV vfyH at k3;unfold expW at k1 k2;simp only[Option.isSome_none,Option.isSome_some]at k1 k2 k3;have k5:Ans Tryz.prog 23 [.nils,.nils] σ (Bo true) σ:=(z4E σ [] (by decide)).subA (.cons (.nils 4) (.cons (.nils 4) .nil))
  have hzl:=z02 z32;have hz32:z32.length=32:=rfl;have hza:(byv z32).all AV.one=true:=Sha.bv_all _;have htk:List.take 32 (byv z32)=byv z32:=List.take_of_length_le (by rw[hzl,hz32];exact Nat.le_refl _)
  have hzb:byv z32=List.replicate 32 (.pl (.int .u8 0)):=rfl;simp only[List.reduceReplicate]at hzb;have eq1:=z8x 32 z32 z32 hz32 hz32;rw[beq_self_eq_true]at eq1;simp only[List.reduceReplicate]at eq1;have z00:((0:Int)==0)=true:=rfl;refine Ans.of_run t6 ?_;simp -implicitDefEqProofs only[c6,r6,go_sem,hbl,d0];refine CO.intro k1 ?_;simp -implicitDefEqProofs only[go_sem];refine CO.intro k2 ?_;simp -implicitDefEqProofs only[go_sem];refine CO.intro k3 ?_;simp -implicitDefEqProofs only[go_sem,hzl,hz32,hza];refine CO.intro k4 ?_;simp -implicitDefEqProofs only[go_sem];refine CO.intro k5 ?_;simp -implicitDefEqProofs only[go_sem,hzl,hz32,htk,←hzb,eq1,z00];refine CO.intro (z5K σ hG) ?_;simp -implicitDefEqProofs only[go_sem];exact Fini.ret rfl
 |some L =>
  obtain⟨hbe,hok,hn⟩:=z6V (by omega) h
  have hbd:∀r∈L,r.bd.length≤40000:=fun r hr=>by have:=zc9 (by omega) h r hr;omega
  have k4:=z5I σ (o:=o) (b:=b) (by omega) h hG
  rw[h]at k1 k2 k3;unfold vfyV vfyH at k3;unfold expW at k1 k2;simp only[Option.isSome_none,Option.isSome_some]at k1 k2 k3;have k5:=fun s=>z4E s L (by omega)
  have k6:=zcb (σ++[.dead]) (o:=o) (L:=L) (by omega) hbd (fun ex=>by rw[List.append_assoc];exact hG1 _)
  have k7:=z5J (σ++[.dead]) (o:=o) (L:=L) (by omega) hbd (fun ex=>by rw[List.append_assoc];exact hG1 _)
  have k8:=z6W (σ++[.dead]) (imB o L) (by rw[z3e];omega)
  have k9:=z8w (σ++[.dead]) L (by omega) hbd
  have k0:=z5K (σ++[.dead]) (fun ex=>by rw[List.append_assoc];exact hG _)
  rw[←hbe]at k9;have hil:(bsv (imB o L)).length=L.length+1:=by rw[z24,z3e]
  have hl:=z02 (hdL o L);have h32:=z4m o L;have ha:(byv (hdL o L)).all AV.one=true:=Sha.bv_all _;have htk:List.take 32 (byv (hdL o L))=byv (hdL o L):=List.take_of_length_le (by rw[hl,h32];exact Nat.le_refl _)
  have eq1:=z8x 32 (hdL o L) (hdL o L) h32 h32;rw[beq_self_eq_true]at eq1;simp only[List.reduceReplicate]at eq1;generalize hdL o L=hd0 at *;generalize bsv (imB o L)=X at *;refine Ans.of_run' t6 (fun hbel _=>?_)
  simp -implicitDefEqProofs only[c6,r6,go_sem,hbl,d0];refine CO.intro k1 ?_;simp -implicitDefEqProofs only[go_sem];refine CO.intro k2 ?_;simp -implicitDefEqProofs only[go_sem];refine CO.intro k3 ?_;simp -implicitDefEqProofs only[go_sem,hl,h32,ha];refine CO.intro k4 ?_;simp -implicitDefEqProofs only[go_sem,g0,s0,hil];refine CO.intro (k5 _) ?_;simp -implicitDefEqProofs only[go_sem,hl,h32,htk];refine CD.intro k6 ?_;simp -implicitDefEqProofs only[go_sem,eq1];refine CD.intro k7 ?_;simp -implicitDefEqProofs only[go_sem];refine CD.intro k8 ?_;simp -implicitDefEqProofs only[go_sem];refine CD.intro k9 ?_;simp -implicitDefEqProofs only[go_sem,z1N,bc,z1W,z1R,AV.isStr,zdP];refine CD.intro k0 ?_;simp -implicitDefEqProofs only[go_sem];exact Fini.trim2 (σ':=σ) (ex:=[_]) rfl rfl (Nat.le_refl _) (.pl _) hbel
end Go.Proofs.YteakobbdgehlgaaGreatDoor
