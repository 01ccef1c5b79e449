/- What the package variables' readings give, in a call of this seat's laws. No condition. -/
import Derived.Test.YteakobbdgehlgaaGreatDoorRows
import Derived.Test.YteakobbdgehlgaaGreatDoorCards
import Derived.Test.YteakobbdgehlgaaGreatDoorTie
import Derived.Test.YteakobbdgehlgaaGreatDoorKFullE3
import Derived.Test.YteakobbdgehlgaaGreatDoorKRowFE3
import Derived.Test.YteakobbdgehlgaaGreatDoorKRq2cE3
import Derived.Test.YteakobbdgehlgaaGreatDoorAbGloE3
import Derived.ProofKit
import Derived.LaidMore
import Derived.Stop.Joined
import Derived.SevenTiedAt
import Derived.Test.YteakobbdgehlgaaGreatDoorKRc6E3
import Derived.Test.YteakobbdgehlgaaGreatDoorKRc12E3
import Derived.Test.YteakobbdgehlgaaGreatDoorKRd3E3
import Derived.Test.YteakobbdgehlgaaGreatDoorKShA1E3
set_option linter.unusedSimpArgs false
set_option linter.unusedVariables false
set_option linter.unusedSectionVars false
set_option maxRecDepth 100000
set_option maxHeartbeats 4000000
namespace Go.Proofs.YteakobbdgehlgaaGreatDoor
open Go Go.Ab Go.ChangeShapes Go.WideShapes Go.ChangeAt Go.RowKit
theorem zg3:ownKnob Tryz.prog.godebug=none:=by kernel_rfl
theorem zg4:laidOutB Tryz.prog=true:=by kernel_rfl
theorem gn0 : Tryz.prog.globalNamed "sordine/sha.keys" = some 0 := by kernel_rfl
theorem gt0:(Tryz.prog.globals[0]?).map (·.type)=some 139:=by kernel_rfl
def gvK:List Int:=Sha.shaK.map fun n:Nat=>(n:Int)
theorem zjs:gvK.map (Value.int .u32)=Sha.kV:=by kernel_rfl
theorem zia {H:Type}:(Rows.laid_sordine_sha_keys:DataW H)=.agg (gvK.map fun v=>.lit (.int .u32 v)):=by kernel_rfl
theorem z6r {W:World} {x:AV} {v:Value} {R':Ref→Value→Prop} (h:Rep noM noR W x v):Rep noM R' W x v :=
 h.mono (fun b _ hm=>⟨hm,rfl⟩) fun r v h=>by cases r<;>simp[RefOK]at h
def z91 : List (String × DataW Unit) := [("sordine/sha.keys", Rows.laid_sordine_sha_keys)]
theorem zeb (os:Os) (args:Array Value):laidMetH Tryz.prog z91 ((World.doorLaid Tryz.prog 19 os).forCall (fun _ _=>0) ⟨#[],args,[]⟩).memory :=
 laidMetH_of_parts3 (fuel:=8) (laidMet_of_run' 8 (by kernel_rfl) (by kernel_rfl)) (by kernel_rfl) (by kernel_rfl)
abbrev G1:St:=[Sha.glo0]
theorem g1_0:∀ex,gloA (G1++ex) 0=some Sha.kV:=fun ex=>Sha.gloA_app (σ:=G1) rfl ex
theorem zg5 {W:World} (h:laidMetH Tryz.prog z91 W):∀o∈G1,Glo W o:=by
 intro o ho;rw[MakeChecks.laidMetH_plain _ _ _ (by kernel_rfl)]at h
 obtain⟨ps,⟨g0,t0,cs0,f0,p0,q0,m0,j0,y0,u0,_,_⟩,_,_⟩:=h;obtain rfl:=Option.some.inj (gn0.symm.trans m0);obtain rfl:=Option.some.inj (gt0.symm.trans j0);rw[zia]at u0;have k0:=zcb gn0 y0 (z7S (vs:=gvK) (P:=Tryz.prog) (t:=139) (e:=102) (n:=64) (k:=.u32) (by kernel_rfl) (by kernel_rfl) (by kernel_rfl) (by kernel_rfl) u0)
 rw[zjs]at k0;simp only[List.mem_cons,List.not_mem_nil,or_false]at ho;rcases ho with rfl
 exact k0
end Go.Proofs.YteakobbdgehlgaaGreatDoor
namespace Go.Proofs.YteakobbdgehlgaaGreatDoor.Sha
open Go Go.Ab Go.Cod
def txtR (r:RcM):List UInt8:=txtB ⟨(z0k r).toArray⟩
def expB (L:List RcM):List UInt8:=putN L.length++(L.map txtR).flatten
theorem zb1 (r:RcM) (h:r.bd.length≤40000):(txtR r).length≤50010:=by
 have h1:=bytesRc_le r h;have h2:=z1B ⟨(z0k r).toArray⟩ (by rw[z1E];omega)
 rw[z1E]at h2;unfold txtR;omega
theorem zg6 (L:List RcM) (h:∀r∈L,r.bd.length≤40000):((L.map txtR).flatten).length≤L.length*50010:=by
 induction L with
 |nil=>simp
 |cons x L ih =>
  have h1:=zb1 x (h x (by simp))
  have h2:=ih fun r hr=>h r (by simp[hr])
  simp only[List.map_cons,List.flatten_cons,List.length_append,List.length_cons];omega
theorem zec (L:List RcM) (i:Nat) (hi:i<L.length):((L.take (i+1)).map txtR).flatten=((L.take i).map txtR).flatten++txtR L[i]:=by
 rw[List.take_succ_eq_append_getElem hi,List.map_append,List.flatten_append,List.map_singleton,List.flatten_singleton]
section
variable (σ:St)
theorem export_ans (p q:Nat) (c:ChM) (hp:σ[p]?=some (boxC q c)) (hq:c.L≠[]→σ[q]?=some (.row 4 (c.L.map rcV))) (hL:c.L.length≤1000)
  (hb:∀r∈c.L,r.bd.length≤40000):Ans Tryz.prog 25 [.ptr p 0] σ (.sl 1 (bv (expB c.L))) σ:=by
 have k0:p<σ.length:=by
  rcases Nat.lt_or_ge p σ.length with h|h
  · exact h
  · rw[List.getElem?_eq_none h]at hp;cases hp
 have wu:IntKind.u64.wrap ((c.L.length:Nat):Int)=((c.L.length:Nat):Int):=z1q (by omega)
 have u0:=z9y σ c.L.length (by omega)
 have hpn:=z0n (n:=c.L.length) (by omega)
 unfold boxC rowC at hp
 cases hE:c.L.isEmpty with
 |true =>
  have h0:c.L=[]:=by simpa using hE
  rw[hE]at hp;simp only[if_true]at hp;have q0:∀ex,(σ++ex)[p]?=some (.box (I c.most::.nils::bv c.head)):=fun ex=>by rw[List.getElem?_append_left k0];exact hp
  have e0:expB c.L=[0]:=by rw[h0];unfold expB;rw[List.length_nil,z2w (by decide)];rfl
  rw[e0];rw[h0,List.length_nil,z2w (by decide)]at u0
  have w0:IntKind.u64.wrap 0=0:=rfl;have u0:Ans Tryz.prog 50 [.pl (.int .u64 0)] σ (.osl σ.length 1) (σ++[.row 1 (bv [0])]):=u0;have z1:(bv [0]).length=1:=rfl;refine Ans.of_run' t25 (fun y0 _=>?_)
  simp -implicitDefEqProofs only[c25,r25,go_sem,hp,List.drop_succ_cons,List.drop_zero,List.head?_cons,w0];refine CO.intro u0 ?_;simp -implicitDefEqProofs only[go_sem,q0,List.drop_succ_cons,List.drop_zero,List.head?_cons];refine Go.Ab.L.count 0 (fun i=>mkE 30 [(3,.osl σ.length 1),(16,.nils),(17,I 0),(18,I 0)]) (fun i=>σ++[.row 1 (bv [0])]) ?_ ?_ rfl rfl
  · intro i hi;omega
  · intro J;simp -implicitDefEqProofs only[mkE,go_sem,G0,S0,z1];exact Fini.trim2 (σ':=σ) (ex:=[_]) rfl rfl (Nat.le_refl _) (z4M _ _) y0
 |false =>
  have hq:=hq (by intro h;rw[h]at hE;cases hE)
  have j0:(c.L.map rcV).length=c.L.length:=List.length_map ..;rw[hE]at hp;simp only[Bool.false_eq_true,if_false]at hp
  have x1:q<σ.length:=by
   rcases Nat.lt_or_ge q σ.length with h|h
   · exact h
   · rw[List.getElem?_eq_none h]at hq;cases hq
  have q0:∀ex,(σ++ex)[p]?=some (.box (I c.most::.osl q c.L.length::bv c.head)):=fun ex=>by rw[List.getElem?_append_left k0];exact hp
  have n0:∀ex,(σ++ex)[q]?=some (.row 4 (c.L.map rcV)):=fun ex=>by rw[List.getElem?_append_left x1];exact hq
  refine Ans.of_run' t25 (fun y0 _=>?_)
  simp -implicitDefEqProofs only[c25,r25,go_sem,hp,hq,j0,wu,List.drop_succ_cons,List.drop_zero,List.head?_cons];refine CO.intro u0 ?_;simp -implicitDefEqProofs only[go_sem,q0,n0,j0,List.drop_succ_cons,List.drop_zero,List.head?_cons];refine Go.Ab.L.count c.L.length (fun i=>mkE 30 [(3,.osl σ.length (putN c.L.length++((c.L.take i).map txtR).flatten).length),(16,.osl q c.L.length),(17,I c.L.length),(18,I i)]) (fun i=>σ++[.row 1 (bv (putN c.L.length++((c.L.take i).map txtR).flatten))]) ?_ ?_ ?_ ?_
  · intro i hi J hJ;have hd:decide ((i:Int)<((c.L.length:Nat):Int))=true:=decide_eq_true (by omega)
    have l0:((i:Int)<((c.L.length:Nat):Int))=True:=eq_true (by omega)
    have hx:(c.L.map rcV)[i]?=some (.agg [I c.L[i].ix,UN c.L[i].ck,.sl 1 (byv c.L[i].bd),I c.L[i].cd]):=by rw[List.getElem?_map,List.getElem?_eq_getElem hi];rfl
    have m0:=hb _ (List.getElem_mem hi);have f0:=fun s=>z3u s c.L[i] (by omega)
    have hbl:=bytesRc_le c.L[i] m0;have o0:∀s,Ans Tryz.prog 51 [Sx ⟨(z0k c.L[i]).toArray⟩] s (.sl 1 (bv (txtR c.L[i]))) s:=fun s=>z5M s ⟨(z0k c.L[i]).toArray⟩ (by rw[z1E];omega)
    have wi:IntKind.i64.wrap ((i:Int)+1)=((i+1:Nat):Int):=wrap_succ (i:=i) (by omega)
    rw[zec _ _ hi,←List.append_assoc]at hJ;have hfl:=zg6 (c.L.take i) fun r hr=>hb r (List.mem_of_mem_take hr)
    have y1:(c.L.take i).length≤1000:=by rw[List.length_take];omega
    have htl:=zb1 c.L[i] m0;have hX:(putN c.L.length++((c.L.take i).map txtR).flatten).length≤60000000:=by rw[List.length_append];omega
    generalize putN c.L.length++((c.L.take i).map txtR).flatten=X at hJ hX⊢;have r0:=z1c X;have t0:=z1c (txtR c.L[i]);have k1:((X++txtR c.L[i]).length≤2^32)=True:=eq_true (by rw[List.length_append];omega)
    have u1:=z5I (txtR c.L[i]);generalize txtR c.L[i]=Y at *;simp -implicitDefEqProofs only[mkE,go_sem,hd,n0,j0,l0,hx];refine CO.intro (f0 _) ?_;simp -implicitDefEqProofs only[go_sem,z0q,bc,z1L,z1A,AV.isStr];refine CO.intro (o0 _) ?_;simp -implicitDefEqProofs only[go_sem,G0,S0,r0,k1,z5I,t0,wi,←zgv,←List.length_append];exact hJ
  · intro J;have hd:decide ((c.L.length:Int)<((c.L.length:Nat):Int))=false:=decide_eq_false (by omega)
    rw[List.take_length];have d0:=z1c (putN c.L.length++(c.L.map txtR).flatten);simp -implicitDefEqProofs only[mkE,go_sem,hd,G0,S0,d0];exact Fini.trim2 (σ':=σ) (ex:=[_]) rfl rfl (Nat.le_refl _) (z4M _ _) y0
  · rw[List.take_zero,List.map_nil,List.flatten_nil,List.append_nil];rfl
  · rw[List.take_zero,List.map_nil,List.flatten_nil,List.append_nil];rfl
end
theorem eqCells_bv:∀(n:Nat) (a b:List UInt8),a.length=n→b.length=n→eqCells (List.replicate n .int) (bv a) (bv b)=some (a==b)
 |0,[],[],_,_=>rfl
 |n+1,p::ps,q::qs,h,h'=>by
  have e:(((p.toNat:Nat):Int)==((q.toNat:Nat):Int))=(p==q):=by
   rw[Bool.eq_iff_iff];simp only[beq_iff_eq];constructor
   · intro h;exact UInt8.toNat_inj.mp (by omega)
   · intro h;rw[h]
  have ih:=eqCells_bv n ps qs (by simpa using h) (by simpa using h')
  unfold bv at ih⊢;rw[List.replicate_succ,List.map_cons,List.map_cons,eqCells,ih];simp only[z2G,if_true,e];rfl
section
variable (σ:St)
end
end Go.Proofs.YteakobbdgehlgaaGreatDoor.Sha
namespace Go.Proofs.YteakobbdgehlgaaGreatDoor
open Go Go.Ab Go.Cod
def noR0:RcM:=⟨0,0,[],0⟩
def lastC (L:List RcM):Nat:=(L.getD (L.length-1) noR0).ck
def goE (m:Nat) (t0:Byt):Nat→Option (List RcM×Byt)
 |0=>some ([],t0)
 |n+1=>(goE m t0 n).bind fun p=>(textR m p.2).bind fun s=>(rdRc s.1.data.toList).bind fun x=>if x.ix=(n:Int)∧lastC p.1≤x.ck then some (p.1++[x],s.2) else none
def rdE (b:Byt):Option (List RcM):=(numR 200 b).bind fun p=>(goE b.length p.2 p.1).bind fun q=>if q.2=[] then some q.1 else none
theorem zb2 {m:Nat} {t:Byt} {i:Nat} (h:goE m t i=none):∀{n:Nat},i≤n→goE m t n=none
 |0,hn=>by have h0:i=0:=by omega
           subst h0;exact h
 |n+1,hn=>by
  rcases Nat.lt_or_eq_of_le hn with h1|rfl
  · rw[goE,zb2 h (by omega:i≤n)];rfl
  · exact h
theorem z7T {m:Nat} {t:Byt}:∀{n:Nat} {p:List RcM×Byt},goE m t n=some p→p.1.length=n
 |0,p,h=>by simp only[goE,Option.some.injEq]at h;subst h;rfl
 |n+1,p,h=>by
  rw[goE]at h
  cases h1:goE m t n with
  |none=>rw[h1]at h;cases h
  |some p1 =>
   rw[h1]at h;simp only[Option.bind_some]at h
   cases h2:textR m p1.2 with
   |none=>rw[h2]at h;cases h
   |some s =>
    rw[h2]at h;simp only[Option.bind_some]at h
    cases h3:rdRc s.1.data.toList with
    |none=>rw[h3]at h;cases h
    |some x =>
     rw[h3]at h;simp only[Option.bind_some]at h;split at h
     · cases h;simp[z7T h1]
     · cases h
theorem zed {m:Nat} {t:Byt} (hm:m<2^64):∀{n:Nat} {p:List RcM×Byt},goE m t n=some p→∃w,t=w++p.2
 |0,p,h=>by simp only[goE,Option.some.injEq]at h;subst h;exact⟨[],rfl⟩
 |n+1,p,h=>by
  rw[goE]at h
  cases h1:goE m t n with
  |none=>rw[h1]at h;cases h
  |some p1 =>
   obtain⟨w,hw⟩:=zed hm h1;rw[h1]at h;simp only[Option.bind_some]at h
   cases h2:textR m p1.2 with
   |none=>rw[h2]at h;cases h
   |some s =>
    obtain⟨w2,u0⟩:=z1X m p1.2 s.1 s.2 h2;rw[h2]at h;simp only[Option.bind_some]at h
    cases h3:rdRc s.1.data.toList with
    |none=>rw[h3]at h;cases h
    |some x =>
     rw[h3]at h;simp only[Option.bind_some]at h;split at h
     · cases h;exact⟨w++w2,by rw[hw,u0,List.append_assoc]⟩
     · cases h
def expW (o:Option (List RcM)):AV:=match o with
 |some L=>.tup [.sl 4 (L.map rcV),Bo true]
 |none=>.tup [.nils,Bo false]
theorem zb3 (n:Nat) (o:Option (List RcM)):Bel n (expW o):=by
 unfold expW
 cases o with
 |none=>exact z2X .nils
 |some L =>
  refine z2X (.sl 4 _ fun i hi=>?_)
  rw[List.getElem_map];exact bel_rcV _ _
open Sha (txtR expB shaB z0D genB linkB z0J)
attribute [local irreducible] Sha.shaB
def OkL (L:List RcM):Prop:=∀i (h:i<L.length),rcIs L[i]=true∧L[i].ix=(i:Int)∧lastC (L.take i)≤L[i].ck
theorem zib:OkL []:=fun i h=>absurd h (Nat.not_lt_zero _)
theorem zg7 {L:List RcM} {x:RcM} (h:OkL L) (h1:rcIs x=true) (h2:x.ix=(L.length:Int)) (h3:lastC L≤x.ck):OkL (L++[x]):=by
 intro i hi;by_cases hlt:i<L.length
 · obtain⟨a,b,c⟩:=h i hlt;rw[List.getElem_append_left hlt,List.take_append_of_le_length (by omega)]
   exact⟨a,b,c⟩
 · have u0:i=L.length:=by simp at hi;omega
   subst u0;rw[List.getElem_append_right (Nat.le_refl _),List.take_left];simp only[Nat.sub_self,List.getElem_cons_zero];exact⟨h1,h2,h3⟩
theorem zb4 {x:RcM} (h:rcIs x=true):txtR x=txtB ⟨(putRc x).toArray⟩:=by unfold txtR z0k;rw[if_pos h]
theorem zee {m:Nat} {t:Byt} (hm:m<2^64):∀{n:Nat} {p:List RcM×Byt},goE m t n=some p→t=(p.1.map txtR).flatten++p.2∧OkL p.1
 |0,p,h=>by simp only[goE,Option.some.injEq]at h;subst h;exact⟨rfl,zib⟩
 |n+1,p,h=>by
  rw[goE]at h
  cases h1:goE m t n with
  |none=>rw[h1]at h;cases h
  |some p1 =>
   obtain⟨ht,y0⟩:=zee hm h1;have hlen:=z7T h1;rw[h1]at h;simp only[Option.bind_some]at h
   cases h2:textR m p1.2 with
   |none=>rw[h2]at h;cases h
   |some s =>
    obtain⟨hs1,q0⟩:=(z1w hm).bwd _ _ _ h2;rw[h2]at h;simp only[Option.bind_some]at h
    cases h3:rdRc s.1.data.toList with
    |none=>rw[h3]at h;cases h
    |some x =>
     obtain⟨hx1,u0⟩:=zfY (by rw[z1k];omega) h3
     rw[h3]at h;simp only[Option.bind_some]at h;split at h
     · rename_i hc;cases h;refine⟨?_,zg7 y0 u0 (by rw[hlen];exact hc.1) hc.2⟩
       have e:txtR x=txtB s.1:=by rw[zb4 u0,←hx1,zcF]
       rw[List.map_append,List.flatten_append,List.append_assoc,List.map_singleton,List.flatten_singleton,e,←q0];exact ht
     · cases h
theorem z3L {b:Byt} {L:List RcM} (hb:b.length<2^64) (h:rdE b=some L):b=expB L∧OkL L∧L.length≤200:=by
 unfold rdE at h
 cases h1:numR 200 b with
 |none=>rw[h1]at h;cases h
 |some p =>
  obtain⟨n,t⟩:=p;obtain⟨hn,y0⟩:=(z1i (most:=200) (by decide)).bwd _ _ _ h1
  rw[h1]at h;simp only[Option.bind_some]at h
  cases h2:goE b.length t n with
  |none=>rw[h2]at h;cases h
  |some q =>
   obtain⟨ht,u0⟩:=zee hb h2;have hlen:=z7T h2;rw[h2]at h;simp only[Option.bind_some]at h;split at h
   · rename_i hq;cases h;refine⟨?_,u0,by omega⟩
     unfold expB;rw[hq,List.append_nil]at ht;rw[hlen,←ht];exact y0
   · cases h
theorem zg8 {L:List RcM} {x:RcM} (h:x∈L):(txtR x).length≤((L.map txtR).flatten).length:=by
 induction L with
 |nil=>cases h
 |cons y L ih =>
  simp only[List.map_cons,List.flatten_cons,List.length_append];rcases List.mem_cons.1 h with rfl|h
  · omega
  · have:=ih h;omega
def hdL (o:Int) (L:List RcM):List UInt8:=L.foldl (fun h r=>shaB (linkB h (z0k r))) (shaB (genB o))
theorem z3x (o:Int) (L:List RcM) (x:RcM):hdL o (L++[x])=shaB (linkB (hdL o L) (z0k x)):=by unfold hdL;rw[List.foldl_append];rfl
theorem z4b (o:Int) (L:List RcM):(hdL o L).length=32:=by
 rcases List.eq_nil_or_concat L with rfl|⟨M,x,rfl⟩
 · exact z0D _
 · rw[List.concat_eq_append,z3x];exact z0D _
def imB (o:Int) (L:List RcM):List Byt:=genB o::(List.range L.length).map fun i=>linkB (hdL o (L.take i)) (z0k (L.getD i noR0))
theorem z4c (o:Int) (L:List RcM):(imB o L).length=L.length+1:=by unfold imB;simp
theorem z4D (o:Int) (L:List RcM) (x:RcM):imB o (L++[x])=imB o L++[linkB (hdL o L) (z0k x)]:=by
 unfold imB;rw[List.length_append,List.length_singleton,List.range_succ,List.map_append,List.map_singleton,List.cons_append,List.take_left,List.getD_eq_getElem?_getD,List.getElem?_append_right (Nat.le_refl _),Nat.sub_self];congr 2
 refine List.map_congr_left fun i hi=>?_
 have hi:=List.mem_range.1 hi;rw[List.take_append_of_le_length (by omega),List.getD_eq_getElem?_getD,List.getElem?_append_left hi,List.getD_eq_getElem?_getD]
theorem zjt (o:Int) (L:List RcM) (i:Nat) (hi:i<L.length):(imB o L).getD (i+1) []=linkB (hdL o (L.take i)) (z0k (L.getD i noR0)):=by
 unfold imB;rw[List.getD_cons_succ,List.getD_eq_getElem?_getD,List.getElem?_map,List.getElem?_range hi];rfl
theorem zef (o:Int) (L:List RcM) (i:Nat) (hi:i≤L.length):shaB ((imB o L).getD i [])=hdL o (L.take i):=by
 cases i with
 |zero=>rfl
 |succ i =>
  rw[zjt o L i (by omega),List.take_succ_eq_append_getElem (by omega),z3x]
  congr 3
  rw[List.getD_eq_getElem?_getD,List.getElem?_eq_getElem (by omega)];rfl
abbrev ltS (a b:ByteArray):Bool:=Op.bytesLess a.toList b.toList
theorem zic:∀a∈names,∀b∈names,((a.toList==b.toList)||(ltS a b||ltS b a))=true:=by decide +kernel
theorem zju:∀a∈names,∀b∈names,a=b∨ltS a b=true∨ltS b a=true:=fun a ha b hb=>by
 have:=zic a ha b hb;simp only[Bool.or_eq_true]at this;rcases this with h|h|h
 · exact .inl (toList_inj (eq_of_beq h))
 · exact .inr (.inl h)
 · exact .inr (.inr h)
theorem zgR:∀a∈names,ltS a a=false:=by decide +kernel
theorem nm_tr:∀a∈names,∀b∈names,∀c∈names,ltS a b=true→ltS b c=true→ltS a c=true:=by decide +kernel
theorem nm_ok:∀a∈names,nameB a=true:=by decide +kernel
theorem zid:∀a∈values,valB a=true:=by decide +kernel
def rise (L:List Lab):Prop:=L.Pairwise fun x y=>ltS x.1 y.1=true
theorem zb5 (out:List Lab) (x:Lab):∀m,(∀k,pos out x m≤k→k<m→ltS x.1 (out.getD k noL).1=true)∧(0<pos out x m→ltS x.1 (out.getD (pos out x m-1) noL).1=false)
 |0=>⟨fun k h1 h2=>absurd h2 (Nat.not_lt_zero _),fun h=>absurd h (Nat.lt_irrefl _)⟩
 |m+1=>by
  obtain⟨h1,h2⟩:=zb5 out x m;rw[pos];split
  · rename_i h;refine⟨fun k hk u0=>?_,h2⟩
    by_cases hkm:k=m
    · subst hkm;exact h
    · exact h1 k hk (by omega)
  · rename_i h;refine⟨fun k hk u0=>by omega,fun _=>?_⟩
    simpa using h
theorem zeg {out:List Lab} {x:Lab} (ho:rise out) (hd:z2m out) (hx:x.1∈names) (hn:∀y∈out,y.1≠x.1):rise (insL out x):=by
 obtain⟨h1,h2⟩:=zb5 out x out.length;have hp:=zcM out x out.length;unfold insL;generalize pos out x out.length=n at h1 h2 hp⊢
 have ht:∀y∈out.take n,ltS y.1 x.1=true:=by
  intro y hy;obtain⟨i,hi,rfl⟩:=List.getElem_of_mem hy;rw[List.length_take]at hi;have hl:(out.getD (n-1) noL)=out[n-1]:=by rw[List.getD_eq_getElem?_getD,List.getElem?_eq_getElem (by omega),Option.getD_some]
  have h3:=h2 (by omega)
  rw[hl]at h3
  have u0:ltS (out[n-1]'(by omega)).1 x.1=true:=by
   rcases zju _ (hd _ (List.getElem_mem (show n-1<out.length by omega))).1 _ hx with h|h|h
   · exact absurd h (hn _ (List.getElem_mem _))
   · exact h
   · rw[h]at h3;cases h3
  rw[List.getElem_take];by_cases hin:i=n-1
  · subst hin;exact u0
  · have y0:i<n-1:=by omega
    have:=(List.pairwise_iff_getElem.1 ho) i (n-1) (by omega) (by omega) y0
    exact nm_tr _ (hd _ (List.getElem_mem (show i<out.length by omega))).1 _ (hd _ (List.getElem_mem (show n-1<out.length by omega))).1 _ hx this u0
 have hdr:∀y∈out.drop n,ltS x.1 y.1=true:=by
  intro y hy;obtain⟨i,hi,rfl⟩:=List.getElem_of_mem hy;rw[List.length_drop]at hi;have:=h1 (n+i) (by omega) (by omega)
  rw[List.getD_eq_getElem?_getD,List.getElem?_eq_getElem (by omega),Option.getD_some]at this
  rw[List.getElem_drop];exact this
 unfold rise at ho⊢;rw[List.append_assoc,List.pairwise_append];refine⟨ho.sublist (List.take_sublist _ _),?_,fun a ha b hb=>?_⟩
 · rw[List.singleton_append,List.pairwise_cons];exact⟨hdr,ho.sublist (List.drop_sublist _ _)⟩
 · rcases List.mem_append.1 hb with hb|hb
   · rw[List.mem_singleton.1 hb];exact ht a ha
   · exact nm_tr _ (hd _ (List.mem_of_mem_take ha)).1 _ hx _ (hd _ (List.mem_of_mem_drop hb)).1 (ht a ha) (hdr b hb)
def distinct (L:List Lab):Prop:=L.Pairwise fun x y=>x.1≠y.1
theorem z7c:∀(L acc:List Lab),rise acc→z2m acc→z2m L→distinct L→(∀x∈acc,∀y∈L,x.1≠y.1)→rise (L.foldl insL acc)
 |[],acc,h,_,_,_,_=>h
 |x::L,acc,h,hd,hL,u0,hac=>by
  rw[List.foldl_cons];have u0:=List.pairwise_cons.1 u0;refine z7c L _ (zeg h hd (hL x List.mem_cons_self).1 fun y hy=>hac y hy x List.mem_cons_self) (fun y hy=>?_) (fun y hy=>hL y (List.mem_cons_of_mem _ hy)) u0.2 (fun y hy z hz=>?_)
  · rcases z7o hy with rfl|hy
    · exact hL y List.mem_cons_self
    · exact hd y hy
  · rcases z7o hy with rfl|hy
    · exact u0.1 z hz
    · exact hac y hy z (List.mem_cons_of_mem _ hz)
theorem zie {L:List Lab} {nm:ByteArray} (hd:z2m L) (h:((getL L nm).toList==(⟨#[]⟩:ByteArray).toList)=true):∀y∈L,y.1≠nm:=by
 induction L with
 |nil=>intro y hy;cases hy
 |cons x xs ih =>
  rw[getL]at h;split at h
  · exfalso
    have hv:=(hd x List.mem_cons_self).2;have:=toList_inj (eq_of_beq h);rw[this]at hv;have:=(z5J _ hv).1;exact absurd this (by decide)
  · rename_i u0;intro y hy;rcases List.mem_cons.1 hy with rfl|hy
    · intro he;rw[he]at u0;simp at u0
    · exact ih (fun z hz=>hd z (List.mem_cons_of_mem _ hz)) h y hy
theorem zcc (l:List Int):∀acc:List Lab,z2m acc→distinct acc→distinct (l.foldl z1F acc):=by
 induction l with
 |nil=>intro acc _ h;exact h
 |cons n l ih =>
  intro acc hd h;rw[List.foldl_cons];have u0:z2m (z1F acc n):=z44 [n] acc hd;refine ih _ u0 ?_;unfold z1F;split
  · rename_i hg;have:=zie hd hg;unfold distinct;rw[List.pairwise_append];exact⟨h,by simp,fun a ha b hb=>by rw[List.mem_singleton.1 hb];exact this a ha⟩
  · exact h
theorem z7U (ns:List Int):setB (z2l ns)=true:=by
 have k0:z2m ([]:List Lab):=fun x hx=>by cases hx
 have h1:z2m (labs0 ns):=z44 _ _ k0;have h2:distinct (labs0 ns):=zcc _ _ k0 List.Pairwise.nil
 have h3:(labs0 ns).length≤5:=by
  have:=z5K (ns.take 5) [];have h5:(ns.take 5).length≤5:=by rw[List.length_take];omega
  simp only[List.length_nil]at this;exact Nat.le_trans this (by omega)
 have hl:z2m (labs ns)∧distinct (labs ns)∧1≤(labs ns).length∧(labs ns).length≤5:=by
  unfold labs;split
  · refine⟨fun x hx=>?_,by unfold distinct;simp,by simp,by simp⟩
    rw[List.mem_singleton.1 hx];exact⟨by simp[names],by simp[values]⟩
  · exact⟨h1,h2,by omega,h3⟩
 obtain⟨hd,j0,l1,l5⟩:=hl;have hr:rise (setL (labs ns)):=z7c _ _ List.Pairwise.nil k0 hd j0 (fun x hx=>by cases hx)
 have u0:z2m (setL (labs ns)):=fun x hx=>hd x (zak _ x hx)
 have m0:=z7n (labs ns);unfold z2l;generalize setL (labs ns)=S at hr u0 m0⊢
 have key:∀i,0<i→i<S.length→leS (S.getD i noLb).1 (S.getD (i-1) noLb).1=false:=by
  intro i h0 hi;have e1:S.getD i noLb=S[i]:=by rw[List.getD_eq_getElem?_getD,List.getElem?_eq_getElem hi,Option.getD_some]
  have e2:S.getD (i-1) noLb=S[i-1]:=by rw[List.getD_eq_getElem?_getD,List.getElem?_eq_getElem (by omega),Option.getD_some]
  rw[e1,e2];have y0:=(List.pairwise_iff_getElem.1 hr) (i-1) i (by omega) hi (by omega)
  have n1:=(u0 _ (List.getElem_mem hi)).1;have n2:=(u0 _ (List.getElem_mem (show i-1<S.length by omega))).1
  unfold leS;rw[Bool.or_eq_false_iff];constructor
  · cases h:Op.bytesLess (S[i]).1.toList (S[i-1]).1.toList with
    |false=>rfl
    |true =>
     have:=nm_tr _ n2 _ n1 _ n2 y0 h;rw[zgR _ n2]at this;cases this
  · cases h:((S[i]).1.toList==(S[i-1]).1.toList) with
    |false=>rfl
    |true =>
     have:=toList_inj (eq_of_beq h);rw[this,zgR _ n2]at y0;cases y0
 have q0:setB S=true:=by
  unfold setB;simp only[Bool.and_eq_true,decide_eq_true_eq,List.all_eq_true,List.mem_range];refine⟨by omega,by omega,fun i hi=>?_⟩
  have e1:S.getD i noLb=S[i]:=by rw[List.getD_eq_getElem?_getD,List.getElem?_eq_getElem hi,Option.getD_some]
  have hm:=u0 _ (List.getElem_mem hi);unfold labOk;rw[e1,nm_ok _ hm.1,zid _ hm.2];by_cases h0:0<i
  · have:=key i h0 hi;rw[e1]at this;rw[this];simp
  · simp[h0]
 have n0:z3A S=true:=by
  have gen:∀k i,i+k≤S.length→isGo S k i=true:=by
   intro k
   induction k with
   |zero=>intro i _;rfl
   |succ k ih =>
    intro i hi;rw[isGo]
    have hb:badAt S i=false:=by
     unfold badAt;by_cases h0:0<i
     · rw[decide_eq_true h0];exact key i h0 (by omega)
     · rw[decide_eq_false h0];rfl
    rw[hb];exact ih (i+1) (by omega)
  unfold z3A;have d1:decide (S.length<1)=false:=decide_eq_false (by omega)
  have d2:decide (6<S.length)=false:=decide_eq_false (by omega)
  rw[d1,d2];exact gen _ 0 (by omega)
 rw[if_pos n0];exact q0
def toks:List ByteArray:=[⟨#[114,111,111,116,48]⟩,⟨#[116,111,107,49]⟩,⟨#[116,111,107,50]⟩,⟨#[116,111,107,51]⟩,⟨#[0,1,2,3]⟩,⟨#[48,49,50,51,52,53,54,55,56,57,97,98,99,100,101,102]⟩,⟨#[116,111,107,54]⟩,⟨#[116,111,107]⟩]
def tokOf (n:Int):ByteArray:=toks.getD (inD n 0 7).toNat ⟨#[]⟩
structure AcM where
 what:Int
 who:Int
 id:Int
 sta:Int
 st:Nat
 en:Nat
 ds:List (Int×Int×Int)
 ns:List Int
 sel:Int
 lo:Nat
 hi:Nat
 ru:RuD
 val:Nat
 raw:Byt
 hd:ds.length≤9223372036854775807
 hst:st<18446744073709551616
 hen:en<18446744073709551616
def acC (a:AcM):List AV:=[I a.what,I a.who,I a.id,I a.sta,UN a.st,UN a.en,.sl 3 (a.ds.map dv),.sl 1 (a.ns.map I),I a.sel,Fl a.lo,Fl a.hi,
 .sl 3 (a.ru.ds.map dv),.sl 3 (a.ru.es.map dv),I a.ru.sel,Fl a.ru.lo,Fl a.ru.hi,.sl 1 (a.ru.ns.map I),Fl a.val,.sl 1 (byv a.raw)]
def acV (a:AcM):AV:=.agg (acC a)
def opA (a:AcM):Int:=inD a.what 1 17
def baseR (a:AcM):ReM:={ x0 (opA a) with tok:=tokOf (inD a.who 0 6) }
def z4S (a:AcM):Bnd:=z0I a.sel a.lo a.hi
def silR (a:AcM) (r:ReM):ReM:={ r with st:=a.st%60,en:=a.en%90,mt:=mustL true (z0y a.ds []),any:=(z4S a).1,lo:=(z4S a).2.1,hi:=(z4S a).2.2 }
def z08 (a:AcM):ReM :=
 let op:=opA a
 if op=2∨op=7∨op=10∨op=12∨op=15 then { baseR a with id:=inD a.id 0 20 }
 else if op=3∨op=4 then { baseR a with id:=inD a.id 0 7,txt:=tokOf (emodW a.sta 0 6) }
 else if op=5 then silR a (baseR a)
 else if op=6 then silR a { baseR a with id:=inD a.id 0 13 }
 else if op=8 then { baseR a with sta:=inD a.sta 0 3 }
 else if op=9 then { baseR a with ru:=z2W a.ru }
 else if op=11 then { baseR a with ls:=z2l a.ns,val:=a.val }
 else if op=13 then { baseR a with mt:=mustL false (z0y a.ds []) }
 else baseR a
theorem z4E (n lo hi:Int) (h:lo≤hi):lo≤inD n lo hi∧inD n lo hi≤hi:=by
 unfold inD;split
 · assumption
 · unfold emodW;have h3:=Int.emod_nonneg n (show hi-lo+1≠0 by omega)
   have h4:=Int.emod_lt_of_pos n (show 0<hi-lo+1 by omega)
   omega
theorem z92 (a:AcM):1≤opA a∧opA a≤17:=z4E _ _ _ (by decide)
section
variable (σ:St)
theorem z0G (n:Int):Ans Tryz.prog 84 [I n] σ (Sx (tokOf n)) σ:=by
 have h:=z0g σ n 0 7 (by decide) (by decide) (by decide)
 have hr:=z4E n 0 7 (by decide)
 unfold tokOf;generalize inD n 0 7=m at h hr⊢;refine Ans.of_run t84 ?_;simp -implicitDefEqProofs only[c84,r84,go_sem];refine CO.intro h ?_;obtain⟨k,rfl⟩:=Int.eq_ofNat_of_zero_le hr.1;have:k<8:=by omega
 match k,this with
 |0,_|1,_|2,_|3,_|4,_|5,_|6,_|7,_ =>
  simp -implicitDefEqProofs only[go_sem];exact Fini.ret rfl
end
section
variable (σ:St)
theorem act_1 (a:AcM) (e:opA a=1):Ans Tryz.prog 47 [acV a] σ (reV (z08 a)) σ:=by
 have h1:=fun s=>z0g s a.who 0 6 (by decide) (by decide) (by decide)
 have h2:=fun s=>z0G s (inD a.who 0 6)
 have h3:∀s,Ans Tryz.prog 85 [I a.what,I 1,I 17] s (I 1) s:=fun s=>by
  have:=z0g s a.what 1 17 (by decide) (by decide) (by decide)
  have e:inD a.what 1 17=1:=e;rw[e]at this;exact this
 have hD:z08 a=baseR a:=by
  unfold z08;simp[e]
 rw[hD];unfold baseR;rw[e];generalize tokOf (inD a.who 0 6)=tk at h2⊢;generalize inD a.who 0 6=w at h1 h2;refine Ans.subR (r:=.agg [Sx tk,I 1,I 0,Sx ⟨#[]⟩,UN 0,UN 0,I 0,.nils,Bo false,Fl 0,Fl 0,.nils,.nils,Bo false,Fl 0,Fl 0,.nils,.nils,Fl 0]) ?_ (.agg (.cons (.refl _) <| .cons (.refl _) <| .cons (.refl _) <| .cons (.refl _) <| .cons (.refl _) <| .cons (.refl _) <| .cons (.refl _) <| .cons (.nils 3) <| .cons (.refl _) <| .cons (.refl _) <| .cons (.refl _) <| .cons (.nils 3) <| .cons (.nils 3) <| .cons (.refl _) <| .cons (.refl _) <| .cons (.refl _) <| .cons (.nils 1) <| .cons (.nils 2) <| .cons (.refl _) <| .nil))
 have y0:Bel σ.length (.agg [Sx tk,I 1,I 0,Sx ⟨#[]⟩,UN 0,UN 0,I 0,.nils,Bo false,Fl 0,Fl 0,.nils,.nils,Bo false,Fl 0,Fl 0,.nils,.nils,Fl 0]):=.agg _ (fun i hi=>by
  have:∀y∈([Sx tk,I 1,I 0,Sx ⟨#[]⟩,UN 0,UN 0,I 0,.nils,Bo false,Fl 0,Fl 0,.nils,.nils,Bo false,Fl 0,Fl 0,.nils,.nils,Fl 0]:List AV),Bel σ.length y:=by
   intro y hy;simp only[List.mem_cons,List.not_mem_nil,or_false]at hy;rcases hy with rfl|rfl|rfl|rfl|rfl|rfl|rfl|rfl|rfl|rfl|rfl|rfl|rfl|rfl|rfl|rfl|rfl|rfl|rfl
   all_goals first|exact .pl _|exact .nils|exact z0u _ _|exact z0F _ _|exact z0w _ _
  exact this _ (List.getElem_mem hi))
 refine Ans.of_run' t47 (fun u0 _=>?_)
 unfold acV acC;simp -implicitDefEqProofs only[c47,r47,go_sem,z01];refine CS.intro h1 ?_;simp -implicitDefEqProofs only[go_sem,z01];refine CS.intro h2 ?_;simp -implicitDefEqProofs only[go_sem,z01];refine CS.intro h3 ?_;simp -implicitDefEqProofs only[go_sem,z01,List.append_assoc,List.length_append,g0,g1,s0,s1];exact tr_ (σ':=σ) (ex:=[_,_]) rfl y0 u0
theorem act_2 (a:AcM) (e:opA a=2):Ans Tryz.prog 47 [acV a] σ (reV (z08 a)) σ:=by
 have h1:=fun s=>z0g s a.who 0 6 (by decide) (by decide) (by decide)
 have h2:=fun s=>z0G s (inD a.who 0 6)
 have h3:∀s,Ans Tryz.prog 85 [I a.what,I 1,I 17] s (I 2) s:=fun s=>by
  have:=z0g s a.what 1 17 (by decide) (by decide) (by decide)
  have e:inD a.what 1 17=2:=e;rw[e]at this;exact this
 have hD:z08 a={ baseR a with id:=inD a.id 0 20 }:=by
  unfold z08;simp[e]
 rw[hD];unfold baseR;rw[e];generalize tokOf (inD a.who 0 6)=tk at h2⊢;generalize inD a.who 0 6=w at h1 h2;have k1:=fun s=>z0g s a.id 0 20 (by decide) (by decide) (by decide)
 generalize inD a.id 0 20=v1 at k1⊢;refine Ans.subR (r:=.agg [Sx tk,I 2,I v1,Sx ⟨#[]⟩,UN 0,UN 0,I 0,.nils,Bo false,Fl 0,Fl 0,.nils,.nils,Bo false,Fl 0,Fl 0,.nils,.nils,Fl 0]) ?_ (.agg (.cons (.refl _) <| .cons (.refl _) <| .cons (.refl _) <| .cons (.refl _) <| .cons (.refl _) <| .cons (.refl _) <| .cons (.refl _) <| .cons (.nils 3) <| .cons (.refl _) <| .cons (.refl _) <| .cons (.refl _) <| .cons (.nils 3) <| .cons (.nils 3) <| .cons (.refl _) <| .cons (.refl _) <| .cons (.refl _) <| .cons (.nils 1) <| .cons (.nils 2) <| .cons (.refl _) <| .nil))
 have y0:Bel σ.length (.agg [Sx tk,I 2,I v1,Sx ⟨#[]⟩,UN 0,UN 0,I 0,.nils,Bo false,Fl 0,Fl 0,.nils,.nils,Bo false,Fl 0,Fl 0,.nils,.nils,Fl 0]):=.agg _ (fun i hi=>by
  have:∀y∈([Sx tk,I 2,I v1,Sx ⟨#[]⟩,UN 0,UN 0,I 0,.nils,Bo false,Fl 0,Fl 0,.nils,.nils,Bo false,Fl 0,Fl 0,.nils,.nils,Fl 0]:List AV),Bel σ.length y:=by
   intro y hy;simp only[List.mem_cons,List.not_mem_nil,or_false]at hy;rcases hy with rfl|rfl|rfl|rfl|rfl|rfl|rfl|rfl|rfl|rfl|rfl|rfl|rfl|rfl|rfl|rfl|rfl|rfl|rfl
   all_goals first|exact .pl _|exact .nils|exact z0u _ _|exact z0F _ _|exact z0w _ _
  exact this _ (List.getElem_mem hi))
 refine Ans.of_run' t47 (fun u0 _=>?_)
 unfold acV acC;simp -implicitDefEqProofs only[c47,r47,go_sem,z01];refine CS.intro h1 ?_;simp -implicitDefEqProofs only[go_sem,z01];refine CS.intro h2 ?_;simp -implicitDefEqProofs only[go_sem,z01];refine CS.intro h3 ?_;simp -implicitDefEqProofs only[go_sem,z01,List.append_assoc,List.length_append,g0,g1,s0,s1];refine CO.intro (k1 _) ?_;simp -implicitDefEqProofs only[go_sem,g0,g1,s0,s1];exact tr_ (σ':=σ) (ex:=[_,_]) rfl y0 u0
theorem act_3 (a:AcM) (e:opA a=3):Ans Tryz.prog 47 [acV a] σ (reV (z08 a)) σ:=by
 have h1:=fun s=>z0g s a.who 0 6 (by decide) (by decide) (by decide)
 have h2:=fun s=>z0G s (inD a.who 0 6)
 have h3:∀s,Ans Tryz.prog 85 [I a.what,I 1,I 17] s (I 3) s:=fun s=>by
  have:=z0g s a.what 1 17 (by decide) (by decide) (by decide)
  have e:inD a.what 1 17=3:=e;rw[e]at this;exact this
 have hD:z08 a={ baseR a with id:=inD a.id 0 7,txt:=tokOf (emodW a.sta 0 6) }:=by
  unfold z08;simp[e]
 rw[hD];unfold baseR;rw[e];generalize tokOf (inD a.who 0 6)=tk at h2⊢;generalize inD a.who 0 6=w at h1 h2;have k1:=fun s=>z0g s a.id 0 7 (by decide) (by decide) (by decide)
 have k2:=fun s=>z34 s a.sta 0 6 (by decide) (by decide) (by decide)
 have k3:=fun s=>z0G s (emodW a.sta 0 6)
 generalize inD a.id 0 7=v1 at k1⊢;generalize tokOf (emodW a.sta 0 6)=v2 at k3⊢;generalize emodW a.sta 0 6=v3 at k2 k3;refine Ans.subR (r:=.agg [Sx tk,I 3,I v1,Sx v2,UN 0,UN 0,I 0,.nils,Bo false,Fl 0,Fl 0,.nils,.nils,Bo false,Fl 0,Fl 0,.nils,.nils,Fl 0]) ?_ (.agg (.cons (.refl _) <| .cons (.refl _) <| .cons (.refl _) <| .cons (.refl _) <| .cons (.refl _) <| .cons (.refl _) <| .cons (.refl _) <| .cons (.nils 3) <| .cons (.refl _) <| .cons (.refl _) <| .cons (.refl _) <| .cons (.nils 3) <| .cons (.nils 3) <| .cons (.refl _) <| .cons (.refl _) <| .cons (.refl _) <| .cons (.nils 1) <| .cons (.nils 2) <| .cons (.refl _) <| .nil))
 have y0:Bel σ.length (.agg [Sx tk,I 3,I v1,Sx v2,UN 0,UN 0,I 0,.nils,Bo false,Fl 0,Fl 0,.nils,.nils,Bo false,Fl 0,Fl 0,.nils,.nils,Fl 0]):=.agg _ (fun i hi=>by
  have:∀y∈([Sx tk,I 3,I v1,Sx v2,UN 0,UN 0,I 0,.nils,Bo false,Fl 0,Fl 0,.nils,.nils,Bo false,Fl 0,Fl 0,.nils,.nils,Fl 0]:List AV),Bel σ.length y:=by
   intro y hy;simp only[List.mem_cons,List.not_mem_nil,or_false]at hy;rcases hy with rfl|rfl|rfl|rfl|rfl|rfl|rfl|rfl|rfl|rfl|rfl|rfl|rfl|rfl|rfl|rfl|rfl|rfl|rfl
   all_goals first|exact .pl _|exact .nils|exact z0u _ _|exact z0F _ _|exact z0w _ _
  exact this _ (List.getElem_mem hi))
 refine Ans.of_run' t47 (fun u0 _=>?_)
 unfold acV acC;simp -implicitDefEqProofs only[c47,r47,go_sem,z01];refine CS.intro h1 ?_;simp -implicitDefEqProofs only[go_sem,z01];refine CS.intro h2 ?_;simp -implicitDefEqProofs only[go_sem,z01];refine CS.intro h3 ?_;simp -implicitDefEqProofs only[go_sem,z01,List.append_assoc,List.length_append,g0,g1,s0,s1];refine CD.intro (k1 _) ?_;simp -implicitDefEqProofs only[go_sem,g0,g1,s0,s1];refine CD.intro (k2 _) ?_;simp -implicitDefEqProofs only[go_sem,g0,g1,s0,s1];refine CD.intro (k3 _) ?_;simp -implicitDefEqProofs only[go_sem,g0,g1,s0,s1];exact tr_ (σ':=σ) (ex:=[_,_]) rfl y0 u0
theorem act_4 (a:AcM) (e:opA a=4):Ans Tryz.prog 47 [acV a] σ (reV (z08 a)) σ:=by
 have h1:=fun s=>z0g s a.who 0 6 (by decide) (by decide) (by decide)
 have h2:=fun s=>z0G s (inD a.who 0 6)
 have h3:∀s,Ans Tryz.prog 85 [I a.what,I 1,I 17] s (I 4) s:=fun s=>by
  have:=z0g s a.what 1 17 (by decide) (by decide) (by decide)
  have e:inD a.what 1 17=4:=e;rw[e]at this;exact this
 have hD:z08 a={ baseR a with id:=inD a.id 0 7,txt:=tokOf (emodW a.sta 0 6) }:=by
  unfold z08;simp[e]
 rw[hD];unfold baseR;rw[e];generalize tokOf (inD a.who 0 6)=tk at h2⊢;generalize inD a.who 0 6=w at h1 h2;have k1:=fun s=>z0g s a.id 0 7 (by decide) (by decide) (by decide)
 have k2:=fun s=>z34 s a.sta 0 6 (by decide) (by decide) (by decide)
 have k3:=fun s=>z0G s (emodW a.sta 0 6)
 generalize inD a.id 0 7=v1 at k1⊢;generalize tokOf (emodW a.sta 0 6)=v2 at k3⊢;generalize emodW a.sta 0 6=v3 at k2 k3;refine Ans.subR (r:=.agg [Sx tk,I 4,I v1,Sx v2,UN 0,UN 0,I 0,.nils,Bo false,Fl 0,Fl 0,.nils,.nils,Bo false,Fl 0,Fl 0,.nils,.nils,Fl 0]) ?_ (.agg (.cons (.refl _) <| .cons (.refl _) <| .cons (.refl _) <| .cons (.refl _) <| .cons (.refl _) <| .cons (.refl _) <| .cons (.refl _) <| .cons (.nils 3) <| .cons (.refl _) <| .cons (.refl _) <| .cons (.refl _) <| .cons (.nils 3) <| .cons (.nils 3) <| .cons (.refl _) <| .cons (.refl _) <| .cons (.refl _) <| .cons (.nils 1) <| .cons (.nils 2) <| .cons (.refl _) <| .nil))
 have y0:Bel σ.length (.agg [Sx tk,I 4,I v1,Sx v2,UN 0,UN 0,I 0,.nils,Bo false,Fl 0,Fl 0,.nils,.nils,Bo false,Fl 0,Fl 0,.nils,.nils,Fl 0]):=.agg _ (fun i hi=>by
  have:∀y∈([Sx tk,I 4,I v1,Sx v2,UN 0,UN 0,I 0,.nils,Bo false,Fl 0,Fl 0,.nils,.nils,Bo false,Fl 0,Fl 0,.nils,.nils,Fl 0]:List AV),Bel σ.length y:=by
   intro y hy;simp only[List.mem_cons,List.not_mem_nil,or_false]at hy;rcases hy with rfl|rfl|rfl|rfl|rfl|rfl|rfl|rfl|rfl|rfl|rfl|rfl|rfl|rfl|rfl|rfl|rfl|rfl|rfl
   all_goals first|exact .pl _|exact .nils|exact z0u _ _|exact z0F _ _|exact z0w _ _
  exact this _ (List.getElem_mem hi))
 refine Ans.of_run' t47 (fun u0 _=>?_)
 unfold acV acC;simp -implicitDefEqProofs only[c47,r47,go_sem,z01];refine CS.intro h1 ?_;simp -implicitDefEqProofs only[go_sem,z01];refine CS.intro h2 ?_;simp -implicitDefEqProofs only[go_sem,z01];refine CS.intro h3 ?_;simp -implicitDefEqProofs only[go_sem,z01,List.append_assoc,List.length_append,g0,g1,s0,s1];refine CD.intro (k1 _) ?_;simp -implicitDefEqProofs only[go_sem,g0,g1,s0,s1];refine CD.intro (k2 _) ?_;simp -implicitDefEqProofs only[go_sem,g0,g1,s0,s1];refine CD.intro (k3 _) ?_;simp -implicitDefEqProofs only[go_sem,g0,g1,s0,s1];exact tr_ (σ':=σ) (ex:=[_,_]) rfl y0 u0
end
section
variable (σ:St)
theorem act_5 (a:AcM) (e:opA a=5):Ans Tryz.prog 47 [acV a] σ (reV (z08 a)) σ:=by
 have h1:=fun s=>z0g s a.who 0 6 (by decide) (by decide) (by decide)
 have h2:=fun s=>z0G s (inD a.who 0 6)
 have h3:∀s,Ans Tryz.prog 85 [I a.what,I 1,I 17] s (I 5) s:=fun s=>by
  have:=z0g s a.what 1 17 (by decide) (by decide) (by decide)
  have e:inD a.what 1 17=5:=e;rw[e]at this;exact this
 have hD:z08 a=silR a (baseR a):=by
  unfold z08;simp[e]
 rw[hD];unfold baseR silR;rw[e];generalize tokOf (inD a.who 0 6)=tk at h2⊢;generalize inD a.who 0 6=w at h1 h2;have k4:∀s,Ans Tryz.prog 87 [.sl 3 (a.ds.map dv),Bo true] s (.sl 3 (mvs3 (mustL true (z0y a.ds [])))) s:=fun s=>z3J s true a.ds a.hd
 have k5:=fun s=>z7F s a.sel a.lo a.hi
 unfold z4S;generalize mustL true (z0y a.ds [])=M at k4⊢;generalize z0I a.sel a.lo a.hi=bd at k5⊢;obtain⟨ba,bl,bh⟩:=bd;unfold bandV at k5;simp only at k5⊢;have u0:((a.st:Int)).tmod 60=((a.st%60:Nat):Int):=rfl;have y0:((a.en:Int)).tmod 90=((a.en%90:Nat):Int):=rfl;refine Ans.subR (r:=.agg [Sx tk,I 5,I 0,Sx ⟨#[]⟩,UN (a.st%60),UN (a.en%90),I 0,mlV M,Bo ba,Fl bl,Fl bh,.nils,.nils,Bo false,Fl 0,Fl 0,.nils,.nils,Fl 0]) ?_ (.agg (.cons (.refl _) <| .cons (.refl _) <| .cons (.refl _) <| .cons (.refl _) <| .cons (.refl _) <| .cons (.refl _) <| .cons (.refl _) <| .cons (.refl _) <| .cons (.refl _) <| .cons (.refl _) <| .cons (.refl _) <| .cons (.nils 3) <| .cons (.nils 3) <| .cons (.refl _) <| .cons (.refl _) <| .cons (.refl _) <| .cons (.nils 1) <| .cons (.nils 2) <| .cons (.refl _) <| .nil))
 have j0:Bel σ.length (.agg [Sx tk,I 5,I 0,Sx ⟨#[]⟩,UN (a.st%60),UN (a.en%90),I 0,mlV M,Bo ba,Fl bl,Fl bh,.nils,.nils,Bo false,Fl 0,Fl 0,.nils,.nils,Fl 0]):=.agg _ (fun i hi=>by
  have:∀y∈([Sx tk,I 5,I 0,Sx ⟨#[]⟩,UN (a.st%60),UN (a.en%90),I 0,mlV M,Bo ba,Fl bl,Fl bh,.nils,.nils,Bo false,Fl 0,Fl 0,.nils,.nils,Fl 0]:List AV),Bel σ.length y:=by
   intro y hy;simp only[List.mem_cons,List.not_mem_nil,or_false]at hy;rcases hy with rfl|rfl|rfl|rfl|rfl|rfl|rfl|rfl|rfl|rfl|rfl|rfl|rfl|rfl|rfl|rfl|rfl|rfl|rfl
   all_goals first|exact .pl _|exact .nils|exact z0u _ _|exact z0F _ _|exact z0w _ _
  exact this _ (List.getElem_mem hi))
 refine Ans.of_run' t47 (fun q0 _=>?_)
 unfold acV acC;simp -implicitDefEqProofs only[c47,r47,go_sem,z01];refine CS.intro h1 ?_;simp -implicitDefEqProofs only[go_sem,z01];refine CS.intro h2 ?_;simp -implicitDefEqProofs only[go_sem,z01];refine CS.intro h3 ?_;simp -implicitDefEqProofs only[go_sem,z01,List.append_assoc,List.length_append,g0,g1,s0,s1,u0,y0];refine CD.intro (k4 _) ?_;simp -implicitDefEqProofs only[go_sem,g0,g1,s0,s1,u0,y0];refine CD.intro (k5 _) ?_;simp -implicitDefEqProofs only[go_sem,g0,g1,s0,s1,u0,y0];exact tr_ (σ':=σ) (ex:=[_,_]) rfl j0 q0
theorem act_6 (a:AcM) (e:opA a=6):Ans Tryz.prog 47 [acV a] σ (reV (z08 a)) σ:=by
 have h1:=fun s=>z0g s a.who 0 6 (by decide) (by decide) (by decide)
 have h2:=fun s=>z0G s (inD a.who 0 6)
 have h3:∀s,Ans Tryz.prog 85 [I a.what,I 1,I 17] s (I 6) s:=fun s=>by
  have:=z0g s a.what 1 17 (by decide) (by decide) (by decide)
  have e:inD a.what 1 17=6:=e;rw[e]at this;exact this
 have hD:z08 a=silR a { baseR a with id:=inD a.id 0 13 }:=by
  unfold z08;simp[e]
 rw[hD];unfold baseR silR;rw[e];generalize tokOf (inD a.who 0 6)=tk at h2⊢;generalize inD a.who 0 6=w at h1 h2;have k1:=fun s=>z0g s a.id 0 13 (by decide) (by decide) (by decide)
 generalize inD a.id 0 13=v1 at k1⊢;have k4:∀s,Ans Tryz.prog 87 [.sl 3 (a.ds.map dv),Bo true] s (.sl 3 (mvs3 (mustL true (z0y a.ds [])))) s:=fun s=>z3J s true a.ds a.hd
 have k5:=fun s=>z7F s a.sel a.lo a.hi
 unfold z4S;generalize mustL true (z0y a.ds [])=M at k4⊢;generalize z0I a.sel a.lo a.hi=bd at k5⊢;obtain⟨ba,bl,bh⟩:=bd;unfold bandV at k5;simp only at k5⊢;have u0:((a.st:Int)).tmod 60=((a.st%60:Nat):Int):=rfl;have y0:((a.en:Int)).tmod 90=((a.en%90:Nat):Int):=rfl;refine Ans.subR (r:=.agg [Sx tk,I 6,I v1,Sx ⟨#[]⟩,UN (a.st%60),UN (a.en%90),I 0,mlV M,Bo ba,Fl bl,Fl bh,.nils,.nils,Bo false,Fl 0,Fl 0,.nils,.nils,Fl 0]) ?_ (.agg (.cons (.refl _) <| .cons (.refl _) <| .cons (.refl _) <| .cons (.refl _) <| .cons (.refl _) <| .cons (.refl _) <| .cons (.refl _) <| .cons (.refl _) <| .cons (.refl _) <| .cons (.refl _) <| .cons (.refl _) <| .cons (.nils 3) <| .cons (.nils 3) <| .cons (.refl _) <| .cons (.refl _) <| .cons (.refl _) <| .cons (.nils 1) <| .cons (.nils 2) <| .cons (.refl _) <| .nil))
 have j0:Bel σ.length (.agg [Sx tk,I 6,I v1,Sx ⟨#[]⟩,UN (a.st%60),UN (a.en%90),I 0,mlV M,Bo ba,Fl bl,Fl bh,.nils,.nils,Bo false,Fl 0,Fl 0,.nils,.nils,Fl 0]):=.agg _ (fun i hi=>by
  have:∀y∈([Sx tk,I 6,I v1,Sx ⟨#[]⟩,UN (a.st%60),UN (a.en%90),I 0,mlV M,Bo ba,Fl bl,Fl bh,.nils,.nils,Bo false,Fl 0,Fl 0,.nils,.nils,Fl 0]:List AV),Bel σ.length y:=by
   intro y hy;simp only[List.mem_cons,List.not_mem_nil,or_false]at hy;rcases hy with rfl|rfl|rfl|rfl|rfl|rfl|rfl|rfl|rfl|rfl|rfl|rfl|rfl|rfl|rfl|rfl|rfl|rfl|rfl
   all_goals first|exact .pl _|exact .nils|exact z0u _ _|exact z0F _ _|exact z0w _ _
  exact this _ (List.getElem_mem hi))
 refine Ans.of_run' t47 (fun q0 _=>?_)
 unfold acV acC;simp -implicitDefEqProofs only[c47,r47,go_sem,z01];refine CS.intro h1 ?_;simp -implicitDefEqProofs only[go_sem,z01];refine CS.intro h2 ?_;simp -implicitDefEqProofs only[go_sem,z01];refine CS.intro h3 ?_;simp -implicitDefEqProofs only[go_sem,z01,List.append_assoc,List.length_append,g0,g1,s0,s1,u0,y0];refine CO.intro (k1 _) ?_;simp -implicitDefEqProofs only[go_sem,g0,g1,s0,s1,u0,y0];refine CD.intro (k4 _) ?_;simp -implicitDefEqProofs only[go_sem,g0,g1,s0,s1,u0,y0];refine CD.intro (k5 _) ?_;simp -implicitDefEqProofs only[go_sem,g0,g1,s0,s1,u0,y0];exact tr_ (σ':=σ) (ex:=[_,_]) rfl j0 q0
theorem act_7 (a:AcM) (e:opA a=7):Ans Tryz.prog 47 [acV a] σ (reV (z08 a)) σ:=by
 have h1:=fun s=>z0g s a.who 0 6 (by decide) (by decide) (by decide)
 have h2:=fun s=>z0G s (inD a.who 0 6)
 have h3:∀s,Ans Tryz.prog 85 [I a.what,I 1,I 17] s (I 7) s:=fun s=>by
  have:=z0g s a.what 1 17 (by decide) (by decide) (by decide)
  have e:inD a.what 1 17=7:=e;rw[e]at this;exact this
 have hD:z08 a={ baseR a with id:=inD a.id 0 20 }:=by
  unfold z08;simp[e]
 rw[hD];unfold baseR;rw[e];generalize tokOf (inD a.who 0 6)=tk at h2⊢;generalize inD a.who 0 6=w at h1 h2;have k1:=fun s=>z0g s a.id 0 20 (by decide) (by decide) (by decide)
 generalize inD a.id 0 20=v1 at k1⊢;refine Ans.subR (r:=.agg [Sx tk,I 7,I v1,Sx ⟨#[]⟩,UN 0,UN 0,I 0,.nils,Bo false,Fl 0,Fl 0,.nils,.nils,Bo false,Fl 0,Fl 0,.nils,.nils,Fl 0]) ?_ (.agg (.cons (.refl _) <| .cons (.refl _) <| .cons (.refl _) <| .cons (.refl _) <| .cons (.refl _) <| .cons (.refl _) <| .cons (.refl _) <| .cons (.nils 3) <| .cons (.refl _) <| .cons (.refl _) <| .cons (.refl _) <| .cons (.nils 3) <| .cons (.nils 3) <| .cons (.refl _) <| .cons (.refl _) <| .cons (.refl _) <| .cons (.nils 1) <| .cons (.nils 2) <| .cons (.refl _) <| .nil))
 have y0:Bel σ.length (.agg [Sx tk,I 7,I v1,Sx ⟨#[]⟩,UN 0,UN 0,I 0,.nils,Bo false,Fl 0,Fl 0,.nils,.nils,Bo false,Fl 0,Fl 0,.nils,.nils,Fl 0]):=.agg _ (fun i hi=>by
  have:∀y∈([Sx tk,I 7,I v1,Sx ⟨#[]⟩,UN 0,UN 0,I 0,.nils,Bo false,Fl 0,Fl 0,.nils,.nils,Bo false,Fl 0,Fl 0,.nils,.nils,Fl 0]:List AV),Bel σ.length y:=by
   intro y hy;simp only[List.mem_cons,List.not_mem_nil,or_false]at hy;rcases hy with rfl|rfl|rfl|rfl|rfl|rfl|rfl|rfl|rfl|rfl|rfl|rfl|rfl|rfl|rfl|rfl|rfl|rfl|rfl
   all_goals first|exact .pl _|exact .nils|exact z0u _ _|exact z0F _ _|exact z0w _ _
  exact this _ (List.getElem_mem hi))
 refine Ans.of_run' t47 (fun u0 _=>?_)
 unfold acV acC;simp -implicitDefEqProofs only[c47,r47,go_sem,z01];refine CS.intro h1 ?_;simp -implicitDefEqProofs only[go_sem,z01];refine CS.intro h2 ?_;simp -implicitDefEqProofs only[go_sem,z01];refine CS.intro h3 ?_;simp -implicitDefEqProofs only[go_sem,z01,List.append_assoc,List.length_append,g0,g1,s0,s1];refine CO.intro (k1 _) ?_;simp -implicitDefEqProofs only[go_sem,g0,g1,s0,s1];exact tr_ (σ':=σ) (ex:=[_,_]) rfl y0 u0
theorem act_8 (a:AcM) (e:opA a=8):Ans Tryz.prog 47 [acV a] σ (reV (z08 a)) σ:=by
 have h1:=fun s=>z0g s a.who 0 6 (by decide) (by decide) (by decide)
 have h2:=fun s=>z0G s (inD a.who 0 6)
 have h3:∀s,Ans Tryz.prog 85 [I a.what,I 1,I 17] s (I 8) s:=fun s=>by
  have:=z0g s a.what 1 17 (by decide) (by decide) (by decide)
  have e:inD a.what 1 17=8:=e;rw[e]at this;exact this
 have hD:z08 a={ baseR a with sta:=inD a.sta 0 3 }:=by
  unfold z08;simp[e]
 rw[hD];unfold baseR;rw[e];generalize tokOf (inD a.who 0 6)=tk at h2⊢;generalize inD a.who 0 6=w at h1 h2;have k1:=fun s=>z0g s a.sta 0 3 (by decide) (by decide) (by decide)
 generalize inD a.sta 0 3=v1 at k1⊢;refine Ans.subR (r:=.agg [Sx tk,I 8,I 0,Sx ⟨#[]⟩,UN 0,UN 0,I v1,.nils,Bo false,Fl 0,Fl 0,.nils,.nils,Bo false,Fl 0,Fl 0,.nils,.nils,Fl 0]) ?_ (.agg (.cons (.refl _) <| .cons (.refl _) <| .cons (.refl _) <| .cons (.refl _) <| .cons (.refl _) <| .cons (.refl _) <| .cons (.refl _) <| .cons (.nils 3) <| .cons (.refl _) <| .cons (.refl _) <| .cons (.refl _) <| .cons (.nils 3) <| .cons (.nils 3) <| .cons (.refl _) <| .cons (.refl _) <| .cons (.refl _) <| .cons (.nils 1) <| .cons (.nils 2) <| .cons (.refl _) <| .nil))
 have y0:Bel σ.length (.agg [Sx tk,I 8,I 0,Sx ⟨#[]⟩,UN 0,UN 0,I v1,.nils,Bo false,Fl 0,Fl 0,.nils,.nils,Bo false,Fl 0,Fl 0,.nils,.nils,Fl 0]):=.agg _ (fun i hi=>by
  have:∀y∈([Sx tk,I 8,I 0,Sx ⟨#[]⟩,UN 0,UN 0,I v1,.nils,Bo false,Fl 0,Fl 0,.nils,.nils,Bo false,Fl 0,Fl 0,.nils,.nils,Fl 0]:List AV),Bel σ.length y:=by
   intro y hy;simp only[List.mem_cons,List.not_mem_nil,or_false]at hy;rcases hy with rfl|rfl|rfl|rfl|rfl|rfl|rfl|rfl|rfl|rfl|rfl|rfl|rfl|rfl|rfl|rfl|rfl|rfl|rfl
   all_goals first|exact .pl _|exact .nils|exact z0u _ _|exact z0F _ _|exact z0w _ _
  exact this _ (List.getElem_mem hi))
 refine Ans.of_run' t47 (fun u0 _=>?_)
 unfold acV acC;simp -implicitDefEqProofs only[c47,r47,go_sem,z01];refine CS.intro h1 ?_;simp -implicitDefEqProofs only[go_sem,z01];refine CS.intro h2 ?_;simp -implicitDefEqProofs only[go_sem,z01];refine CS.intro h3 ?_;simp -implicitDefEqProofs only[go_sem,z01,List.append_assoc,List.length_append,g0,g1,s0,s1];refine CO.intro (k1 _) ?_;simp -implicitDefEqProofs only[go_sem,g0,g1,s0,s1];exact tr_ (σ':=σ) (ex:=[_,_]) rfl y0 u0
end
section
variable (σ:St)
theorem act_9 (a:AcM) (e:opA a=9):Ans Tryz.prog 47 [acV a] σ (reV (z08 a)) σ:=by
 have h1:=fun s=>z0g s a.who 0 6 (by decide) (by decide) (by decide)
 have h2:=fun s=>z0G s (inD a.who 0 6)
 have h3:∀s,Ans Tryz.prog 85 [I a.what,I 1,I 17] s (I 9) s:=fun s=>by
  have:=z0g s a.what 1 17 (by decide) (by decide) (by decide)
  have e:inD a.what 1 17=9:=e;rw[e]at this;exact this
 have hD:z08 a={ baseR a with ru:=z2W a.ru }:=by
  unfold z08;simp[e]
 rw[hD];unfold baseR;rw[e];generalize tokOf (inD a.who 0 6)=tk at h2⊢;generalize inD a.who 0 6=w at h1 h2;have k1:=fun s=>zfw s a.ru
 unfold duV duC at k1;generalize z2W a.ru=ru at k1⊢;obtain⟨rs,rt,ra,rl,rh,re⟩:=ru;unfold ruV at k1;simp only at k1⊢;refine Ans.subR (r:=.agg [Sx tk,I 9,I 0,Sx ⟨#[]⟩,UN 0,UN 0,I 0,.nils,Bo false,Fl 0,Fl 0,mlV rs,mlV rt,Bo ra,Fl rl,Fl rh,.sl 1 (txs re),.nils,Fl 0]) ?_ (.agg (.cons (.refl _) <| .cons (.refl _) <| .cons (.refl _) <| .cons (.refl _) <| .cons (.refl _) <| .cons (.refl _) <| .cons (.refl _) <| .cons (.nils 3) <| .cons (.refl _) <| .cons (.refl _) <| .cons (.refl _) <| .cons (.refl _) <| .cons (.refl _) <| .cons (.refl _) <| .cons (.refl _) <| .cons (.refl _) <| .cons (.refl _) <| .cons (.nils 2) <| .cons (.refl _) <| .nil))
 have y0:Bel σ.length (.agg [Sx tk,I 9,I 0,Sx ⟨#[]⟩,UN 0,UN 0,I 0,.nils,Bo false,Fl 0,Fl 0,mlV rs,mlV rt,Bo ra,Fl rl,Fl rh,.sl 1 (txs re),.nils,Fl 0]):=.agg _ (fun i hi=>by
  have:∀y∈([Sx tk,I 9,I 0,Sx ⟨#[]⟩,UN 0,UN 0,I 0,.nils,Bo false,Fl 0,Fl 0,mlV rs,mlV rt,Bo ra,Fl rl,Fl rh,.sl 1 (txs re),.nils,Fl 0]:List AV),Bel σ.length y:=by
   intro y hy;simp only[List.mem_cons,List.not_mem_nil,or_false]at hy;rcases hy with rfl|rfl|rfl|rfl|rfl|rfl|rfl|rfl|rfl|rfl|rfl|rfl|rfl|rfl|rfl|rfl|rfl|rfl|rfl
   all_goals first|exact .pl _|exact .nils|exact z0u _ _|exact z0F _ _|exact z0w _ _
  exact this _ (List.getElem_mem hi))
 refine Ans.of_run' t47 (fun u0 _=>?_)
 unfold acV acC;simp -implicitDefEqProofs only[c47,r47,go_sem,z01];refine CS.intro h1 ?_;simp -implicitDefEqProofs only[go_sem,z01];refine CS.intro h2 ?_;simp -implicitDefEqProofs only[go_sem,z01];refine CS.intro h3 ?_;simp -implicitDefEqProofs only[go_sem,z01,List.append_assoc,List.length_append,g0,g1,s0,s1];refine CO.intro (k1 _) ?_;simp -implicitDefEqProofs only[go_sem,g0,g1,s0,s1];exact tr_ (σ':=σ) (ex:=[_,_]) rfl y0 u0
theorem zjv (a:AcM) (e:opA a=10):Ans Tryz.prog 47 [acV a] σ (reV (z08 a)) σ:=by
 have h1:=fun s=>z0g s a.who 0 6 (by decide) (by decide) (by decide)
 have h2:=fun s=>z0G s (inD a.who 0 6)
 have h3:∀s,Ans Tryz.prog 85 [I a.what,I 1,I 17] s (I 10) s:=fun s=>by
  have:=z0g s a.what 1 17 (by decide) (by decide) (by decide)
  have e:inD a.what 1 17=10:=e;rw[e]at this;exact this
 have hD:z08 a={ baseR a with id:=inD a.id 0 20 }:=by
  unfold z08;simp[e]
 rw[hD];unfold baseR;rw[e];generalize tokOf (inD a.who 0 6)=tk at h2⊢;generalize inD a.who 0 6=w at h1 h2;have k1:=fun s=>z0g s a.id 0 20 (by decide) (by decide) (by decide)
 generalize inD a.id 0 20=v1 at k1⊢;refine Ans.subR (r:=.agg [Sx tk,I 10,I v1,Sx ⟨#[]⟩,UN 0,UN 0,I 0,.nils,Bo false,Fl 0,Fl 0,.nils,.nils,Bo false,Fl 0,Fl 0,.nils,.nils,Fl 0]) ?_ (.agg (.cons (.refl _) <| .cons (.refl _) <| .cons (.refl _) <| .cons (.refl _) <| .cons (.refl _) <| .cons (.refl _) <| .cons (.refl _) <| .cons (.nils 3) <| .cons (.refl _) <| .cons (.refl _) <| .cons (.refl _) <| .cons (.nils 3) <| .cons (.nils 3) <| .cons (.refl _) <| .cons (.refl _) <| .cons (.refl _) <| .cons (.nils 1) <| .cons (.nils 2) <| .cons (.refl _) <| .nil))
 have y0:Bel σ.length (.agg [Sx tk,I 10,I v1,Sx ⟨#[]⟩,UN 0,UN 0,I 0,.nils,Bo false,Fl 0,Fl 0,.nils,.nils,Bo false,Fl 0,Fl 0,.nils,.nils,Fl 0]):=.agg _ (fun i hi=>by
  have:∀y∈([Sx tk,I 10,I v1,Sx ⟨#[]⟩,UN 0,UN 0,I 0,.nils,Bo false,Fl 0,Fl 0,.nils,.nils,Bo false,Fl 0,Fl 0,.nils,.nils,Fl 0]:List AV),Bel σ.length y:=by
   intro y hy;simp only[List.mem_cons,List.not_mem_nil,or_false]at hy;rcases hy with rfl|rfl|rfl|rfl|rfl|rfl|rfl|rfl|rfl|rfl|rfl|rfl|rfl|rfl|rfl|rfl|rfl|rfl|rfl
   all_goals first|exact .pl _|exact .nils|exact z0u _ _|exact z0F _ _|exact z0w _ _
  exact this _ (List.getElem_mem hi))
 refine Ans.of_run' t47 (fun u0 _=>?_)
 unfold acV acC;simp -implicitDefEqProofs only[c47,r47,go_sem,z01];refine CS.intro h1 ?_;simp -implicitDefEqProofs only[go_sem,z01];refine CS.intro h2 ?_;simp -implicitDefEqProofs only[go_sem,z01];refine CS.intro h3 ?_;simp -implicitDefEqProofs only[go_sem,z01,List.append_assoc,List.length_append,g0,g1,s0,s1];refine CO.intro (k1 _) ?_;simp -implicitDefEqProofs only[go_sem,g0,g1,s0,s1];exact tr_ (σ':=σ) (ex:=[_,_]) rfl y0 u0
theorem zjw (a:AcM) (e:opA a=11):Ans Tryz.prog 47 [acV a] σ (reV (z08 a)) σ:=by
 have h1:=fun s=>z0g s a.who 0 6 (by decide) (by decide) (by decide)
 have h2:=fun s=>z0G s (inD a.who 0 6)
 have h3:∀s,Ans Tryz.prog 85 [I a.what,I 1,I 17] s (I 11) s:=fun s=>by
  have:=z0g s a.what 1 17 (by decide) (by decide) (by decide)
  have e:inD a.what 1 17=11:=e;rw[e]at this;exact this
 have hD:z08 a={ baseR a with ls:=z2l a.ns,val:=a.val }:=by
  unfold z08;simp[e]
 rw[hD];unfold baseR;rw[e];generalize tokOf (inD a.who 0 6)=tk at h2⊢;generalize inD a.who 0 6=w at h1 h2;have k1:=fun s=>zdv s a.ns
 generalize z2l a.ns=ls at k1⊢;refine Ans.subR (r:=.agg [Sx tk,I 11,I 0,Sx ⟨#[]⟩,UN 0,UN 0,I 0,.nils,Bo false,Fl 0,Fl 0,.nils,.nils,Bo false,Fl 0,Fl 0,.nils,lsV ls,Fl a.val]) ?_ (.agg (.cons (.refl _) <| .cons (.refl _) <| .cons (.refl _) <| .cons (.refl _) <| .cons (.refl _) <| .cons (.refl _) <| .cons (.refl _) <| .cons (.nils 3) <| .cons (.refl _) <| .cons (.refl _) <| .cons (.refl _) <| .cons (.nils 3) <| .cons (.nils 3) <| .cons (.refl _) <| .cons (.refl _) <| .cons (.refl _) <| .cons (.nils 1) <| .cons (.refl _) <| .cons (.refl _) <| .nil))
 have y0:Bel σ.length (.agg [Sx tk,I 11,I 0,Sx ⟨#[]⟩,UN 0,UN 0,I 0,.nils,Bo false,Fl 0,Fl 0,.nils,.nils,Bo false,Fl 0,Fl 0,.nils,lsV ls,Fl a.val]):=.agg _ (fun i hi=>by
  have:∀y∈([Sx tk,I 11,I 0,Sx ⟨#[]⟩,UN 0,UN 0,I 0,.nils,Bo false,Fl 0,Fl 0,.nils,.nils,Bo false,Fl 0,Fl 0,.nils,lsV ls,Fl a.val]:List AV),Bel σ.length y:=by
   intro y hy;simp only[List.mem_cons,List.not_mem_nil,or_false]at hy;rcases hy with rfl|rfl|rfl|rfl|rfl|rfl|rfl|rfl|rfl|rfl|rfl|rfl|rfl|rfl|rfl|rfl|rfl|rfl|rfl
   all_goals first|exact .pl _|exact .nils|exact z0u _ _|exact z0F _ _|exact z0w _ _
  exact this _ (List.getElem_mem hi))
 refine Ans.of_run' t47 (fun u0 _=>?_)
 unfold acV acC;simp -implicitDefEqProofs only[c47,r47,go_sem,z01];refine CS.intro h1 ?_;simp -implicitDefEqProofs only[go_sem,z01];refine CS.intro h2 ?_;simp -implicitDefEqProofs only[go_sem,z01];refine CS.intro h3 ?_;simp -implicitDefEqProofs only[go_sem,z01,List.append_assoc,List.length_append,g0,g1,s0,s1];refine CD.intro (k1 _) ?_;simp -implicitDefEqProofs only[go_sem,g0,g1,s0,s1];exact tr_ (σ':=σ) (ex:=[_,_]) rfl y0 u0
theorem zjx (a:AcM) (e:opA a=12):Ans Tryz.prog 47 [acV a] σ (reV (z08 a)) σ:=by
 have h1:=fun s=>z0g s a.who 0 6 (by decide) (by decide) (by decide)
 have h2:=fun s=>z0G s (inD a.who 0 6)
 have h3:∀s,Ans Tryz.prog 85 [I a.what,I 1,I 17] s (I 12) s:=fun s=>by
  have:=z0g s a.what 1 17 (by decide) (by decide) (by decide)
  have e:inD a.what 1 17=12:=e;rw[e]at this;exact this
 have hD:z08 a={ baseR a with id:=inD a.id 0 20 }:=by
  unfold z08;simp[e]
 rw[hD];unfold baseR;rw[e];generalize tokOf (inD a.who 0 6)=tk at h2⊢;generalize inD a.who 0 6=w at h1 h2;have k1:=fun s=>z0g s a.id 0 20 (by decide) (by decide) (by decide)
 generalize inD a.id 0 20=v1 at k1⊢;refine Ans.subR (r:=.agg [Sx tk,I 12,I v1,Sx ⟨#[]⟩,UN 0,UN 0,I 0,.nils,Bo false,Fl 0,Fl 0,.nils,.nils,Bo false,Fl 0,Fl 0,.nils,.nils,Fl 0]) ?_ (.agg (.cons (.refl _) <| .cons (.refl _) <| .cons (.refl _) <| .cons (.refl _) <| .cons (.refl _) <| .cons (.refl _) <| .cons (.refl _) <| .cons (.nils 3) <| .cons (.refl _) <| .cons (.refl _) <| .cons (.refl _) <| .cons (.nils 3) <| .cons (.nils 3) <| .cons (.refl _) <| .cons (.refl _) <| .cons (.refl _) <| .cons (.nils 1) <| .cons (.nils 2) <| .cons (.refl _) <| .nil))
 have y0:Bel σ.length (.agg [Sx tk,I 12,I v1,Sx ⟨#[]⟩,UN 0,UN 0,I 0,.nils,Bo false,Fl 0,Fl 0,.nils,.nils,Bo false,Fl 0,Fl 0,.nils,.nils,Fl 0]):=.agg _ (fun i hi=>by
  have:∀y∈([Sx tk,I 12,I v1,Sx ⟨#[]⟩,UN 0,UN 0,I 0,.nils,Bo false,Fl 0,Fl 0,.nils,.nils,Bo false,Fl 0,Fl 0,.nils,.nils,Fl 0]:List AV),Bel σ.length y:=by
   intro y hy;simp only[List.mem_cons,List.not_mem_nil,or_false]at hy;rcases hy with rfl|rfl|rfl|rfl|rfl|rfl|rfl|rfl|rfl|rfl|rfl|rfl|rfl|rfl|rfl|rfl|rfl|rfl|rfl
   all_goals first|exact .pl _|exact .nils|exact z0u _ _|exact z0F _ _|exact z0w _ _
  exact this _ (List.getElem_mem hi))
 refine Ans.of_run' t47 (fun u0 _=>?_)
 unfold acV acC;simp -implicitDefEqProofs only[c47,r47,go_sem,z01];refine CS.intro h1 ?_;simp -implicitDefEqProofs only[go_sem,z01];refine CS.intro h2 ?_;simp -implicitDefEqProofs only[go_sem,z01];refine CS.intro h3 ?_;simp -implicitDefEqProofs only[go_sem,z01,List.append_assoc,List.length_append,g0,g1,s0,s1];refine CO.intro (k1 _) ?_;simp -implicitDefEqProofs only[go_sem,g0,g1,s0,s1];exact tr_ (σ':=σ) (ex:=[_,_]) rfl y0 u0
theorem zjy (a:AcM) (e:opA a=13):Ans Tryz.prog 47 [acV a] σ (reV (z08 a)) σ:=by
 have h1:=fun s=>z0g s a.who 0 6 (by decide) (by decide) (by decide)
 have h2:=fun s=>z0G s (inD a.who 0 6)
 have h3:∀s,Ans Tryz.prog 85 [I a.what,I 1,I 17] s (I 13) s:=fun s=>by
  have:=z0g s a.what 1 17 (by decide) (by decide) (by decide)
  have e:inD a.what 1 17=13:=e;rw[e]at this;exact this
 have hD:z08 a={ baseR a with mt:=mustL false (z0y a.ds []) }:=by
  unfold z08;simp[e]
 rw[hD];unfold baseR;rw[e];generalize tokOf (inD a.who 0 6)=tk at h2⊢;generalize inD a.who 0 6=w at h1 h2;have k4:∀s,Ans Tryz.prog 87 [.sl 3 (a.ds.map dv),Bo false] s (.sl 3 (mvs3 (mustL false (z0y a.ds [])))) s:=fun s=>z3J s false a.ds a.hd
 generalize mustL false (z0y a.ds [])=M at k4⊢;refine Ans.subR (r:=.agg [Sx tk,I 13,I 0,Sx ⟨#[]⟩,UN 0,UN 0,I 0,mlV M,Bo false,Fl 0,Fl 0,.nils,.nils,Bo false,Fl 0,Fl 0,.nils,.nils,Fl 0]) ?_ (.agg (.cons (.refl _) <| .cons (.refl _) <| .cons (.refl _) <| .cons (.refl _) <| .cons (.refl _) <| .cons (.refl _) <| .cons (.refl _) <| .cons (.refl _) <| .cons (.refl _) <| .cons (.refl _) <| .cons (.refl _) <| .cons (.nils 3) <| .cons (.nils 3) <| .cons (.refl _) <| .cons (.refl _) <| .cons (.refl _) <| .cons (.nils 1) <| .cons (.nils 2) <| .cons (.refl _) <| .nil))
 have y0:Bel σ.length (.agg [Sx tk,I 13,I 0,Sx ⟨#[]⟩,UN 0,UN 0,I 0,mlV M,Bo false,Fl 0,Fl 0,.nils,.nils,Bo false,Fl 0,Fl 0,.nils,.nils,Fl 0]):=.agg _ (fun i hi=>by
  have:∀y∈([Sx tk,I 13,I 0,Sx ⟨#[]⟩,UN 0,UN 0,I 0,mlV M,Bo false,Fl 0,Fl 0,.nils,.nils,Bo false,Fl 0,Fl 0,.nils,.nils,Fl 0]:List AV),Bel σ.length y:=by
   intro y hy;simp only[List.mem_cons,List.not_mem_nil,or_false]at hy;rcases hy with rfl|rfl|rfl|rfl|rfl|rfl|rfl|rfl|rfl|rfl|rfl|rfl|rfl|rfl|rfl|rfl|rfl|rfl|rfl
   all_goals first|exact .pl _|exact .nils|exact z0u _ _|exact z0F _ _|exact z0w _ _
  exact this _ (List.getElem_mem hi))
 refine Ans.of_run' t47 (fun u0 _=>?_)
 unfold acV acC;simp -implicitDefEqProofs only[c47,r47,go_sem,z01];refine CS.intro h1 ?_;simp -implicitDefEqProofs only[go_sem,z01];refine CS.intro h2 ?_;simp -implicitDefEqProofs only[go_sem,z01];refine CS.intro h3 ?_;simp -implicitDefEqProofs only[go_sem,z01,List.append_assoc,List.length_append,g0,g1,s0,s1];refine CO.intro (k4 _) ?_;simp -implicitDefEqProofs only[go_sem,g0,g1,s0,s1];exact tr_ (σ':=σ) (ex:=[_,_]) rfl y0 u0
end
section
variable (σ:St)
theorem zjz (a:AcM) (e:opA a=14):Ans Tryz.prog 47 [acV a] σ (reV (z08 a)) σ:=by
 have h1:=fun s=>z0g s a.who 0 6 (by decide) (by decide) (by decide)
 have h2:=fun s=>z0G s (inD a.who 0 6)
 have h3:∀s,Ans Tryz.prog 85 [I a.what,I 1,I 17] s (I 14) s:=fun s=>by
  have:=z0g s a.what 1 17 (by decide) (by decide) (by decide)
  have e:inD a.what 1 17=14:=e;rw[e]at this;exact this
 have hD:z08 a=baseR a:=by
  unfold z08;simp[e]
 rw[hD];unfold baseR;rw[e];generalize tokOf (inD a.who 0 6)=tk at h2⊢;generalize inD a.who 0 6=w at h1 h2;refine Ans.subR (r:=.agg [Sx tk,I 14,I 0,Sx ⟨#[]⟩,UN 0,UN 0,I 0,.nils,Bo false,Fl 0,Fl 0,.nils,.nils,Bo false,Fl 0,Fl 0,.nils,.nils,Fl 0]) ?_ (.agg (.cons (.refl _) <| .cons (.refl _) <| .cons (.refl _) <| .cons (.refl _) <| .cons (.refl _) <| .cons (.refl _) <| .cons (.refl _) <| .cons (.nils 3) <| .cons (.refl _) <| .cons (.refl _) <| .cons (.refl _) <| .cons (.nils 3) <| .cons (.nils 3) <| .cons (.refl _) <| .cons (.refl _) <| .cons (.refl _) <| .cons (.nils 1) <| .cons (.nils 2) <| .cons (.refl _) <| .nil))
 have y0:Bel σ.length (.agg [Sx tk,I 14,I 0,Sx ⟨#[]⟩,UN 0,UN 0,I 0,.nils,Bo false,Fl 0,Fl 0,.nils,.nils,Bo false,Fl 0,Fl 0,.nils,.nils,Fl 0]):=.agg _ (fun i hi=>by
  have:∀y∈([Sx tk,I 14,I 0,Sx ⟨#[]⟩,UN 0,UN 0,I 0,.nils,Bo false,Fl 0,Fl 0,.nils,.nils,Bo false,Fl 0,Fl 0,.nils,.nils,Fl 0]:List AV),Bel σ.length y:=by
   intro y hy;simp only[List.mem_cons,List.not_mem_nil,or_false]at hy;rcases hy with rfl|rfl|rfl|rfl|rfl|rfl|rfl|rfl|rfl|rfl|rfl|rfl|rfl|rfl|rfl|rfl|rfl|rfl|rfl
   all_goals first|exact .pl _|exact .nils|exact z0u _ _|exact z0F _ _|exact z0w _ _
  exact this _ (List.getElem_mem hi))
 refine Ans.of_run' t47 (fun u0 _=>?_)
 unfold acV acC;simp -implicitDefEqProofs only[c47,r47,go_sem,z01];refine CS.intro h1 ?_;simp -implicitDefEqProofs only[go_sem,z01];refine CS.intro h2 ?_;simp -implicitDefEqProofs only[go_sem,z01];refine CS.intro h3 ?_;simp -implicitDefEqProofs only[go_sem,z01,List.append_assoc,List.length_append,g0,g1,s0,s1];exact tr_ (σ':=σ) (ex:=[_,_]) rfl y0 u0
theorem zjA (a:AcM) (e:opA a=15):Ans Tryz.prog 47 [acV a] σ (reV (z08 a)) σ:=by
 have h1:=fun s=>z0g s a.who 0 6 (by decide) (by decide) (by decide)
 have h2:=fun s=>z0G s (inD a.who 0 6)
 have h3:∀s,Ans Tryz.prog 85 [I a.what,I 1,I 17] s (I 15) s:=fun s=>by
  have:=z0g s a.what 1 17 (by decide) (by decide) (by decide)
  have e:inD a.what 1 17=15:=e;rw[e]at this;exact this
 have hD:z08 a={ baseR a with id:=inD a.id 0 20 }:=by
  unfold z08;simp[e]
 rw[hD];unfold baseR;rw[e];generalize tokOf (inD a.who 0 6)=tk at h2⊢;generalize inD a.who 0 6=w at h1 h2;have k1:=fun s=>z0g s a.id 0 20 (by decide) (by decide) (by decide)
 generalize inD a.id 0 20=v1 at k1⊢;refine Ans.subR (r:=.agg [Sx tk,I 15,I v1,Sx ⟨#[]⟩,UN 0,UN 0,I 0,.nils,Bo false,Fl 0,Fl 0,.nils,.nils,Bo false,Fl 0,Fl 0,.nils,.nils,Fl 0]) ?_ (.agg (.cons (.refl _) <| .cons (.refl _) <| .cons (.refl _) <| .cons (.refl _) <| .cons (.refl _) <| .cons (.refl _) <| .cons (.refl _) <| .cons (.nils 3) <| .cons (.refl _) <| .cons (.refl _) <| .cons (.refl _) <| .cons (.nils 3) <| .cons (.nils 3) <| .cons (.refl _) <| .cons (.refl _) <| .cons (.refl _) <| .cons (.nils 1) <| .cons (.nils 2) <| .cons (.refl _) <| .nil))
 have y0:Bel σ.length (.agg [Sx tk,I 15,I v1,Sx ⟨#[]⟩,UN 0,UN 0,I 0,.nils,Bo false,Fl 0,Fl 0,.nils,.nils,Bo false,Fl 0,Fl 0,.nils,.nils,Fl 0]):=.agg _ (fun i hi=>by
  have:∀y∈([Sx tk,I 15,I v1,Sx ⟨#[]⟩,UN 0,UN 0,I 0,.nils,Bo false,Fl 0,Fl 0,.nils,.nils,Bo false,Fl 0,Fl 0,.nils,.nils,Fl 0]:List AV),Bel σ.length y:=by
   intro y hy;simp only[List.mem_cons,List.not_mem_nil,or_false]at hy;rcases hy with rfl|rfl|rfl|rfl|rfl|rfl|rfl|rfl|rfl|rfl|rfl|rfl|rfl|rfl|rfl|rfl|rfl|rfl|rfl
   all_goals first|exact .pl _|exact .nils|exact z0u _ _|exact z0F _ _|exact z0w _ _
  exact this _ (List.getElem_mem hi))
 refine Ans.of_run' t47 (fun u0 _=>?_)
 unfold acV acC;simp -implicitDefEqProofs only[c47,r47,go_sem,z01];refine CS.intro h1 ?_;simp -implicitDefEqProofs only[go_sem,z01];refine CS.intro h2 ?_;simp -implicitDefEqProofs only[go_sem,z01];refine CS.intro h3 ?_;simp -implicitDefEqProofs only[go_sem,z01,List.append_assoc,List.length_append,g0,g1,s0,s1];refine CO.intro (k1 _) ?_;simp -implicitDefEqProofs only[go_sem,g0,g1,s0,s1];exact tr_ (σ':=σ) (ex:=[_,_]) rfl y0 u0
theorem zjB (a:AcM) (e:opA a=16):Ans Tryz.prog 47 [acV a] σ (reV (z08 a)) σ:=by
 have h1:=fun s=>z0g s a.who 0 6 (by decide) (by decide) (by decide)
 have h2:=fun s=>z0G s (inD a.who 0 6)
 have h3:∀s,Ans Tryz.prog 85 [I a.what,I 1,I 17] s (I 16) s:=fun s=>by
  have:=z0g s a.what 1 17 (by decide) (by decide) (by decide)
  have e:inD a.what 1 17=16:=e;rw[e]at this;exact this
 have hD:z08 a=baseR a:=by
  unfold z08;simp[e]
 rw[hD];unfold baseR;rw[e];generalize tokOf (inD a.who 0 6)=tk at h2⊢;generalize inD a.who 0 6=w at h1 h2;refine Ans.subR (r:=.agg [Sx tk,I 16,I 0,Sx ⟨#[]⟩,UN 0,UN 0,I 0,.nils,Bo false,Fl 0,Fl 0,.nils,.nils,Bo false,Fl 0,Fl 0,.nils,.nils,Fl 0]) ?_ (.agg (.cons (.refl _) <| .cons (.refl _) <| .cons (.refl _) <| .cons (.refl _) <| .cons (.refl _) <| .cons (.refl _) <| .cons (.refl _) <| .cons (.nils 3) <| .cons (.refl _) <| .cons (.refl _) <| .cons (.refl _) <| .cons (.nils 3) <| .cons (.nils 3) <| .cons (.refl _) <| .cons (.refl _) <| .cons (.refl _) <| .cons (.nils 1) <| .cons (.nils 2) <| .cons (.refl _) <| .nil))
 have y0:Bel σ.length (.agg [Sx tk,I 16,I 0,Sx ⟨#[]⟩,UN 0,UN 0,I 0,.nils,Bo false,Fl 0,Fl 0,.nils,.nils,Bo false,Fl 0,Fl 0,.nils,.nils,Fl 0]):=.agg _ (fun i hi=>by
  have:∀y∈([Sx tk,I 16,I 0,Sx ⟨#[]⟩,UN 0,UN 0,I 0,.nils,Bo false,Fl 0,Fl 0,.nils,.nils,Bo false,Fl 0,Fl 0,.nils,.nils,Fl 0]:List AV),Bel σ.length y:=by
   intro y hy;simp only[List.mem_cons,List.not_mem_nil,or_false]at hy;rcases hy with rfl|rfl|rfl|rfl|rfl|rfl|rfl|rfl|rfl|rfl|rfl|rfl|rfl|rfl|rfl|rfl|rfl|rfl|rfl
   all_goals first|exact .pl _|exact .nils|exact z0u _ _|exact z0F _ _|exact z0w _ _
  exact this _ (List.getElem_mem hi))
 refine Ans.of_run' t47 (fun u0 _=>?_)
 unfold acV acC;simp -implicitDefEqProofs only[c47,r47,go_sem,z01];refine CS.intro h1 ?_;simp -implicitDefEqProofs only[go_sem,z01];refine CS.intro h2 ?_;simp -implicitDefEqProofs only[go_sem,z01];refine CS.intro h3 ?_;simp -implicitDefEqProofs only[go_sem,z01,List.append_assoc,List.length_append,g0,g1,s0,s1];exact tr_ (σ':=σ) (ex:=[_,_]) rfl y0 u0
theorem zjC (a:AcM) (e:opA a=17):Ans Tryz.prog 47 [acV a] σ (reV (z08 a)) σ:=by
 have h1:=fun s=>z0g s a.who 0 6 (by decide) (by decide) (by decide)
 have h2:=fun s=>z0G s (inD a.who 0 6)
 have h3:∀s,Ans Tryz.prog 85 [I a.what,I 1,I 17] s (I 17) s:=fun s=>by
  have:=z0g s a.what 1 17 (by decide) (by decide) (by decide)
  have e:inD a.what 1 17=17:=e;rw[e]at this;exact this
 have hD:z08 a=baseR a:=by
  unfold z08;simp[e]
 rw[hD];unfold baseR;rw[e];generalize tokOf (inD a.who 0 6)=tk at h2⊢;generalize inD a.who 0 6=w at h1 h2;refine Ans.subR (r:=.agg [Sx tk,I 17,I 0,Sx ⟨#[]⟩,UN 0,UN 0,I 0,.nils,Bo false,Fl 0,Fl 0,.nils,.nils,Bo false,Fl 0,Fl 0,.nils,.nils,Fl 0]) ?_ (.agg (.cons (.refl _) <| .cons (.refl _) <| .cons (.refl _) <| .cons (.refl _) <| .cons (.refl _) <| .cons (.refl _) <| .cons (.refl _) <| .cons (.nils 3) <| .cons (.refl _) <| .cons (.refl _) <| .cons (.refl _) <| .cons (.nils 3) <| .cons (.nils 3) <| .cons (.refl _) <| .cons (.refl _) <| .cons (.refl _) <| .cons (.nils 1) <| .cons (.nils 2) <| .cons (.refl _) <| .nil))
 have y0:Bel σ.length (.agg [Sx tk,I 17,I 0,Sx ⟨#[]⟩,UN 0,UN 0,I 0,.nils,Bo false,Fl 0,Fl 0,.nils,.nils,Bo false,Fl 0,Fl 0,.nils,.nils,Fl 0]):=.agg _ (fun i hi=>by
  have:∀y∈([Sx tk,I 17,I 0,Sx ⟨#[]⟩,UN 0,UN 0,I 0,.nils,Bo false,Fl 0,Fl 0,.nils,.nils,Bo false,Fl 0,Fl 0,.nils,.nils,Fl 0]:List AV),Bel σ.length y:=by
   intro y hy;simp only[List.mem_cons,List.not_mem_nil,or_false]at hy;rcases hy with rfl|rfl|rfl|rfl|rfl|rfl|rfl|rfl|rfl|rfl|rfl|rfl|rfl|rfl|rfl|rfl|rfl|rfl|rfl
   all_goals first|exact .pl _|exact .nils|exact z0u _ _|exact z0F _ _|exact z0w _ _
  exact this _ (List.getElem_mem hi))
 refine Ans.of_run' t47 (fun u0 _=>?_)
 unfold acV acC;simp -implicitDefEqProofs only[c47,r47,go_sem,z01];refine CS.intro h1 ?_;simp -implicitDefEqProofs only[go_sem,z01];refine CS.intro h2 ?_;simp -implicitDefEqProofs only[go_sem,z01];refine CS.intro h3 ?_;simp -implicitDefEqProofs only[go_sem,z01,List.append_assoc,List.length_append,g0,g1,s0,s1];exact tr_ (σ':=σ) (ex:=[_,_]) rfl y0 u0
end
theorem za3 (σ:St) (a:AcM):Ans Tryz.prog 47 [acV a] σ (reV (z08 a)) σ:=by
 have hr:=z92 a;rcases ops17 (opA a) with e|e|e|e|e|e|e|e|e|e|e|e|e|e|e|e|e|e
 · exact act_1 σ a e
 · exact act_2 σ a e
 · exact act_3 σ a e
 · exact act_4 σ a e
 · exact act_5 σ a e
 · exact act_6 σ a e
 · exact act_7 σ a e
 · exact act_8 σ a e
 · exact act_9 σ a e
 · exact zjv σ a e
 · exact zjw σ a e
 · exact zjx σ a e
 · exact zjy σ a e
 · exact zjz σ a e
 · exact zjA σ a e
 · exact zjB σ a e
 · exact zjC σ a e
 · omega
theorem z_all:emS ⟨#[]⟩=true∧emU 0=true∧emI 0=true∧noBd (false,0,0)=true∧noRl noRu=true∧zF 0=true∧idR 0=true∧clkB 0=true∧staR 0=true∧listB []=true:=by decide +kernel
theorem zjD {n:Int} (h0:0≤n) (h1:n≤6):tokB (tokOf n)=true:=by
 have e:inD n 0 7=n:=by unfold inD;rw[if_pos (by omega)]
 unfold tokOf;rw[e];obtain⟨k,rfl⟩:=Int.eq_ofNat_of_zero_le h0;have:k<7:=by omega
 match k,this with
 |0,_|1,_|2,_|3,_|4,_|5,_|6,_=>decide +kernel
theorem id_ok (n lo hi:Int) (h0:0≤lo) (h:lo≤hi) (h1:hi≤2147483647):idR (inD n lo hi)=true:=by
 have:=z4E n lo hi h;unfold idR;simp only[Bool.and_eq_true,decide_eq_true_eq];omega
theorem z7d (n lo hi:Int) (h:lo≤hi):lo≤emodW n lo hi∧emodW n lo hi≤hi:=by
 unfold emodW;have h3:=Int.emod_nonneg n (show hi-lo+1≠0 by omega)
 have h4:=Int.emod_lt_of_pos n (show 0<hi-lo+1 by omega)
 omega
theorem zgS (n k:Nat) (h:0<k) (h1:k≤1099511627776):clkB (n%k)=true:=by
 have:=Nat.mod_lt n h;unfold clkB;exact decide_eq_true (by omega)
theorem zjE (n:Int):staR (inD n 0 3)=true:=by
 have:=z4E n 0 3 (by decide)
 unfold staR;simp only[Bool.and_eq_true,decide_eq_true_eq];omega
theorem zg9 (a:AcM):(z08 a).op=opA a:=by
 unfold z08;simp only
 repeat' split
 all_goals rfl
theorem z93 (a:AcM):mayR (z08 a)=true:=by
 have hr:=z92 a;obtain⟨z1,z2,z3,z4,z5,z6,z7,z8,z9,z10⟩:=z_all;have u0:=id_ok a.id 0 20 (by decide) (by decide) (by decide)
 have i7:=id_ok a.id 0 7 (by decide) (by decide) (by decide)
 have y0:=id_ok a.id 0 13 (by decide) (by decide) (by decide)
 have tk:=zjD (z7d a.sta 0 6 (by decide)).1 (z7d a.sta 0 6 (by decide)).2
 have c1:=zgS a.st 60 (by decide) (by decide)
 have c2:=zgS a.en 90 (by decide) (by decide)
 have s3:=zjE a.sta;obtain⟨m1,m2,_⟩:=z6k a.ds;have m3:emI (mustL true (z0y a.ds [])).length=false:=m2;have m4:listB (mustL false (z0y a.ds []))=true:=z79 a.ds;have bm:=zaT a.sel a.lo a.hi;have ri:=zfB a.ru;have ls:=z7U a.ns;unfold mayR;rw[zg9];unfold z08 baseR silR z4S;generalize emodW a.sta 0 6=q1 at tk⊢;generalize inD a.id 0 20=v20 at u0⊢;generalize inD a.id 0 7=v7 at i7⊢;generalize inD a.id 0 13=v13 at y0⊢;generalize inD a.sta 0 3=v3 at s3⊢;generalize mustL true (z0y a.ds [])=M at m1 m3⊢;generalize mustL false (z0y a.ds [])=M' at m4⊢;generalize z0I a.sel a.lo a.hi=bd at bm⊢;generalize z2W a.ru=ru at ri⊢;generalize z2l a.ns=L at ls⊢;generalize opA a=op at hr⊢;generalize tokOf (inD a.who 0 6)=tok0;rcases ops17 op with e|e|e|e|e|e|e|e|e|e|e|e|e|e|e|e|e|e
 · have hf:fOf op=(0,true):=by rw[e];rfl
   rw[hf];simp[e,zeroB,z0c,hs_0,x0,z1,z2,z3,z4,z5,z6,z7,z8,z9,z10,u0,i7,y0,tk,c1,c2,s3,m1,m3,m4,bm,ri,ls]
 · have hf:fOf op=(1,true):=by rw[e];rfl
   rw[hf];simp[e,zeroB,z0c,hs_1,x0,z1,z2,z3,z4,z5,z6,z7,z8,z9,z10,u0,i7,y0,tk,c1,c2,s3,m1,m3,m4,bm,ri,ls]
 · have hf:fOf op=(3,true):=by rw[e];rfl
   rw[hf];simp[e,zeroB,z0c,hs_3,x0,z1,z2,z3,z4,z5,z6,z7,z8,z9,z10,u0,i7,y0,tk,c1,c2,s3,m1,m3,m4,bm,ri,ls]
 · have hf:fOf op=(3,true):=by rw[e];rfl
   rw[hf];simp[e,zeroB,z0c,hs_3,x0,z1,z2,z3,z4,z5,z6,z7,z8,z9,z10,u0,i7,y0,tk,c1,c2,s3,m1,m3,m4,bm,ri,ls]
 · have hf:fOf op=(116,true):=by rw[e];rfl
   rw[hf];simp[e,zeroB,z0c,z6n,x0,z1,z2,z3,z4,z5,z6,z7,z8,z9,z10,u0,i7,y0,tk,c1,c2,s3,m1,m3,m4,bm,ri,ls]
 · have hf:fOf op=(117,true):=by rw[e];rfl
   rw[hf];simp[e,zeroB,z0c,z6o,x0,z1,z2,z3,z4,z5,z6,z7,z8,z9,z10,u0,i7,y0,tk,c1,c2,s3,m1,m3,m4,bm,ri,ls]
 · have hf:fOf op=(1,true):=by rw[e];rfl
   rw[hf];simp[e,zeroB,z0c,hs_1,x0,z1,z2,z3,z4,z5,z6,z7,z8,z9,z10,u0,i7,y0,tk,c1,c2,s3,m1,m3,m4,bm,ri,ls]
 · have hf:fOf op=(8,true):=by rw[e];rfl
   rw[hf];simp[e,zeroB,z0c,hs_8,x0,z1,z2,z3,z4,z5,z6,z7,z8,z9,z10,u0,i7,y0,tk,c1,c2,s3,m1,m3,m4,bm,ri,ls]
 · have hf:fOf op=(128,true):=by rw[e];rfl
   rw[hf];simp[e,zeroB,z0c,hs_128,x0,z1,z2,z3,z4,z5,z6,z7,z8,z9,z10,u0,i7,y0,tk,c1,c2,s3,m1,m3,m4,bm,ri,ls]
 · have hf:fOf op=(1,true):=by rw[e];rfl
   rw[hf];simp[e,zeroB,z0c,hs_1,x0,z1,z2,z3,z4,z5,z6,z7,z8,z9,z10,u0,i7,y0,tk,c1,c2,s3,m1,m3,m4,bm,ri,ls]
 · have hf:fOf op=(768,true):=by rw[e];rfl
   rw[hf];simp[e,zeroB,z0c,hs_768,x0,z1,z2,z3,z4,z5,z6,z7,z8,z9,z10,u0,i7,y0,tk,c1,c2,s3,m1,m3,m4,bm,ri,ls]
 · have hf:fOf op=(1,true):=by rw[e];rfl
   rw[hf];simp[e,zeroB,z0c,hs_1,x0,z1,z2,z3,z4,z5,z6,z7,z8,z9,z10,u0,i7,y0,tk,c1,c2,s3,m1,m3,m4,bm,ri,ls]
 · have hf:fOf op=(16,true):=by rw[e];rfl
   rw[hf];simp[e,zeroB,z0c,hs_16,x0,z1,z2,z3,z4,z5,z6,z7,z8,z9,z10,u0,i7,y0,tk,c1,c2,s3,m1,m3,m4,bm,ri,ls]
 · have hf:fOf op=(0,true):=by rw[e];rfl
   rw[hf];simp[e,zeroB,z0c,hs_0,x0,z1,z2,z3,z4,z5,z6,z7,z8,z9,z10,u0,i7,y0,tk,c1,c2,s3,m1,m3,m4,bm,ri,ls]
 · have hf:fOf op=(1,true):=by rw[e];rfl
   rw[hf];simp[e,zeroB,z0c,hs_1,x0,z1,z2,z3,z4,z5,z6,z7,z8,z9,z10,u0,i7,y0,tk,c1,c2,s3,m1,m3,m4,bm,ri,ls]
 · have hf:fOf op=(0,true):=by rw[e];rfl
   rw[hf];simp[e,zeroB,z0c,hs_0,x0,z1,z2,z3,z4,z5,z6,z7,z8,z9,z10,u0,i7,y0,tk,c1,c2,s3,m1,m3,m4,bm,ri,ls]
 · have hf:fOf op=(0,true):=by rw[e];rfl
   rw[hf];simp[e,zeroB,z0c,hs_0,x0,z1,z2,z3,z4,z5,z6,z7,z8,z9,z10,u0,i7,y0,tk,c1,c2,s3,m1,m3,m4,bm,ri,ls]
 · omega
open Go.ChangeShapes Go.WideShapes Go.ChangeAt Go.RowKit
structure ActSz (a:AcM):Prop where
 val:a.val<2^64
 bd:a.lo<2^64∧a.hi<2^64
 ru:a.ru.lo<2^64∧a.ru.hi<2^64
theorem z94 {sel:Int} {lo hi:Nat} (h1:lo<2^64) (h2:hi<2^64):(z0I sel lo hi).2.1<2^64∧(z0I sel lo hi).2.2<2^64:=by
 unfold z0I;split
 · exact⟨by decide,by decide⟩
 · split
   · exact⟨h2,h1⟩
   · exact⟨h1,h2⟩
theorem zeh {a:AcM} (h:ActSz a):SzA (z08 a):=by
 have hb:=z94 (sel:=a.sel) h.bd.1 h.bd.2;have hr:ruSz (z2W a.ru):=zfU h.ru.1 h.ru.2;have z:(0:Nat)<2^64:=by decide
 unfold z08;simp only
 repeat' split
 all_goals first
  |exact⟨z,⟨z,z⟩,⟨z,z⟩⟩
  |exact⟨z,hb,⟨z,z⟩⟩
  |exact⟨z,⟨z,z⟩,hr⟩
  |exact⟨h.val,⟨z,z⟩,⟨z,z⟩⟩
theorem wf64i {n:Int} (h:(Lit.int .u64 n).wf=true):0≤n∧n<18446744073709551616:=by
 simp[Lit.wf,IntKind.min,IntKind.max,IntKind.bits,IntKind.signed]at h;omega
def QBytA:List AV→Prop:=fun xs=>∃b:Byt,xs=[.sl 1 (byv b)]
theorem zcd (f:Nat):Reads Tryz.prog 29 f QBytA:=by
 cases f with
 |zero=>exact Reads.zero
 |succ f =>
  refine((Reads.slice (sz:=1) false Tryz.underlying29 (by kernel_rfl) (by decide) (Reads.int Tryz.underlying5 f) (fun y hy _=>by obtain⟨n,_,rfl⟩:=hy;rfl)).weak QSlice.weak).mono fun xs hq=>?_
  obtain⟨ys,h1,h2,rfl⟩:=hq;obtain⟨b,e⟩:=zdC h1;exact⟨b,by rw[e]⟩
def QAct:List AV→Prop:=fun xs=>∃a:AcM,ActSz a∧xs=acC a
theorem zei (f:Nat):Reads Tryz.prog 43 f QAct:=by
 cases f with
 |zero=>exact Reads.zero
 |succ f =>
  have h:=Reads.struct (P:=Tryz.prog) (t:=43) (f:=f) (Qs:=[QInt .i64,QInt .i64,QInt .i64,QInt .i64,QInt .u64,QInt .u64,QMats,QInts,z9W,QDRuW,z7Q,QBytA]) Tryz.underlying43 (by kernel_rfl) rfl (by
   intro p hp;simp only[List.zip_cons_cons,List.zip_nil_right,List.mem_cons,List.not_mem_nil,or_false]at hp;rcases hp with rfl|rfl|rfl|rfl|rfl|rfl|rfl|rfl|rfl|rfl|rfl|rfl
   · exact Reads.int Tryz.underlying3 f
   · exact Reads.int Tryz.underlying3 f
   · exact Reads.int Tryz.underlying3 f
   · exact Reads.int Tryz.underlying3 f
   · exact Reads.int Tryz.underlying28 f
   · exact Reads.int Tryz.underlying28 f
   · exact z4Q f
   · exact z78 f
   · exact z57 f
   · exact z8X f
   · exact Reads.floatW Tryz.underlying37 f
   · exact zcd f)
  refine h.mono fun xs hq=>?_
  obtain⟨_,_,rfl,⟨u0,_,rfl⟩,_,_,rfl,⟨k0,_,rfl⟩,_,_,rfl,⟨id,_,rfl⟩,_,_,rfl,⟨j0,_,rfl⟩,_,_,rfl,⟨st,y0,rfl⟩,_,_,rfl,⟨en,q0,rfl⟩,
   _,_,rfl,⟨ds,hd,rfl⟩,_,_,rfl,⟨ns,rfl⟩,_,_,rfl,⟨sel,lo,hi,h1,h2,rfl⟩,_,_,rfl,⟨ru,h3,h4,rfl⟩,_,_,rfl,⟨val,hv,rfl⟩,_,_,rfl,⟨raw,rfl⟩,rfl⟩:=hq
  obtain⟨a1,a2⟩:=wf64i y0;obtain⟨b1,b2⟩:=wf64i q0;obtain⟨n,rfl⟩:=Int.eq_ofNat_of_zero_le a1;obtain⟨m,rfl⟩:=Int.eq_ofNat_of_zero_le b1;exact⟨⟨u0,k0,id,j0,n,m,ds,ns,sel,lo,hi,ru,val,raw,hd,by omega,by omega⟩,⟨hv,⟨h1,h2⟩,⟨h3,h4⟩⟩,rfl⟩
def putC (r:ReM) (c:UInt8):Byt :=
 if c=73 then putN r.id.toNat else if c=84 then txtB r.txt else if c=83 then putN r.st else if c=69 then putN r.en else if c=90 then[opC r.sta]
 else if c=77 then z0Y r.mt else if c=66 then putBd (r.any,r.lo,r.hi) else if c=82 then z1H r.ru else if c=76 then z2P r.ls else if c=86 then putV r.val else[]
def preC (r:ReM) (s:ByteArray) (i:Nat):Byt:=opC r.op::(s.data.toList.take i).flatMap (putC r)
def z12 (c:UInt8):Prop:=c=73∨c=84∨c=83∨c=69∨c=90∨c=77∨c=66∨c=82∨c=76∨c=86∨c=45
theorem z95 (r:ReM) (s:ByteArray) (i:Nat) (h:i<s.data.toList.length):preC r s (i+1)=preC r s i++putC r s.data.toList[i]:=by
 unfold preC;rw[List.take_succ_eq_append_getElem h,List.flatMap_append];simp
theorem zjF {r:ReM} (h:mayR r=true):(∀c∈(dOf r.op).data.toList,z12 c)∧(dOf r.op).size≤5∧preC r (dOf r.op) (dOf r.op).size=z0a (fOf r.op).1 r:=by
 have hop:1≤r.op∧r.op≤17:=by
  have:(fOf r.op).2=true:=by unfold mayR at h;simp only[Bool.and_eq_true]at h;exact h.1
  unfold fOf at this;split at this
  · assumption
  · cases this
 have key:∀(s:ByteArray) (f:Int),dOf r.op=s→(fOf r.op).1=f→((∀c∈s.data.toList,z12 c)∧s.size≤5∧preC r s s.size=z0a f r) →
   (∀c∈(dOf r.op).data.toList,z12 c)∧(dOf r.op).size≤5∧preC r (dOf r.op) (dOf r.op).size=z0a (fOf r.op).1 r:=by
  intro s f h1 h2 h3;rw[h1,h2];exact h3
 have a0:(∀c∈S0.data.toList,z12 c)∧S0.size≤5∧preC r S0 S0.size=z0a 0 r:=⟨by unfold z12;decide,by decide,by show preC r S0 1=z0a 0 r;simp[preC,z0a,putB2,putB1,layF,hs_0,putC]⟩
 have a1:(∀c∈S1.data.toList,z12 c)∧S1.size≤5∧preC r S1 S1.size=z0a 1 r:=⟨by unfold z12;decide,by decide,by show preC r S1 1=z0a 1 r;simp[preC,z0a,putB2,putB1,layF,hs_1,putC]⟩
 have a3:(∀c∈S3.data.toList,z12 c)∧S3.size≤5∧preC r S3 S3.size=z0a 3 r:=⟨by unfold z12;decide,by decide,by show preC r S3 2=z0a 3 r;simp[preC,z0a,putB2,putB1,layF,hs_3,putC]⟩
 have j0:(∀c∈S116.data.toList,z12 c)∧S116.size≤5∧preC r S116 S116.size=z0a 116 r:=⟨by unfold z12;decide,by decide,by show preC r S116 4=z0a 116 r;simp[preC,z0a,putB2,putB1,layF,z6n,putC]⟩
 have q0:(∀c∈S117.data.toList,z12 c)∧S117.size≤5∧preC r S117 S117.size=z0a 117 r:=⟨by unfold z12;decide,by decide,by show preC r S117 5=z0a 117 r;simp[preC,z0a,putB2,putB1,layF,z6o,putC]⟩
 have a8:(∀c∈S8.data.toList,z12 c)∧S8.size≤5∧preC r S8 S8.size=z0a 8 r:=⟨by unfold z12;decide,by decide,by show preC r S8 1=z0a 8 r;simp[preC,z0a,putB2,putB1,layF,hs_8,putC]⟩
 have u0:(∀c∈S128.data.toList,z12 c)∧S128.size≤5∧preC r S128 S128.size=z0a 128 r:=⟨by unfold z12;decide,by decide,by show preC r S128 1=z0a 128 r;simp[preC,z0a,putB2,putB1,layF,hs_128,putC]⟩
 have y0:(∀c∈S768.data.toList,z12 c)∧S768.size≤5∧preC r S768 S768.size=z0a 768 r:=⟨by unfold z12;decide,by decide,by show preC r S768 2=z0a 768 r;simp[preC,z0a,putB2,putB1,layF,hs_768,putC]⟩
 have k0:(∀c∈S16.data.toList,z12 c)∧S16.size≤5∧preC r S16 S16.size=z0a 16 r:=⟨by unfold z12;decide,by decide,by show preC r S16 1=z0a 16 r;simp[preC,z0a,putB2,putB1,layF,hs_16,putC]⟩
 rcases ops17 r.op with e|e|e|e|e|e|e|e|e|e|e|e|e|e|e|e|e|e
 all_goals first
  |omega
  |exact key S0 0 (by rw[e];rfl) (by rw[e];rfl) a0
  |exact key S1 1 (by rw[e];rfl) (by rw[e];rfl) a1
  |exact key S3 3 (by rw[e];rfl) (by rw[e];rfl) a3
  |exact key S116 116 (by rw[e];rfl) (by rw[e];rfl) j0
  |exact key S117 117 (by rw[e];rfl) (by rw[e];rfl) q0
  |exact key S8 8 (by rw[e];rfl) (by rw[e];rfl) a8
  |exact key S128 128 (by rw[e];rfl) (by rw[e];rfl) u0
  |exact key S768 768 (by rw[e];rfl) (by rw[e];rfl) y0
  |exact key S16 16 (by rw[e];rfl) (by rw[e];rfl) k0
theorem zb6 {r:ReM} (h:BdOk r) (c:UInt8):(putC r c).length≤100000:=by
 have p1:=z0n (n:=r.id.toNat) (by have:=h.id1;omega)
 have p2:=z1B r.txt (by have:=h.txt;omega)
 have p3:=z0n (n:=r.st) (by have:=h.st;omega)
 have p4:=z0n (n:=r.en) (by have:=h.en;omega)
 have p5:=(z8W h.mt).2;have p6:=z6i (r.any,r.lo,r.hi);have p7:=zi2 r.ru;have p8:=zdZ r.ls;have p9:(putV r.val).length=8:=wrdB_len _;have p10:=h.txt;simp only[List.flatten_cons,List.flatten_nil,List.append_nil]at p5 p7 p8;unfold putC
 repeat' split
 all_goals first|omega|simp
theorem zb7 {r:ReM} (h:BdOk r) (s:ByteArray):∀i,i≤s.data.toList.length→(preC r s i).length≤1+100000*i
 |0,_=>by simp[preC]
 |i+1,hi=>by
  have ih:=zb7 h s i (by omega)
  have:=zb6 h s.data.toList[i];rw[z95 r s i (by omega),List.length_append]
  omega
end Go.Proofs.YteakobbdgehlgaaGreatDoor
