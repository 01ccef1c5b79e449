/- What the package variables' readings give, in a call of this seat's laws. No condition. -/
import Derived.Test.YteakobbdgehlgaaGreatDoorRows
import Derived.Test.YteakobbdgehlgaaGreatDoorCards
import Derived.Test.YteakobbdgehlgaaGreatDoorTie
import Derived.Test.YteakobbdgehlgaaGreatDoorKFullB
import Derived.Test.YteakobbdgehlgaaGreatDoorKRowFB
import Derived.Test.YteakobbdgehlgaaGreatDoorKShB3B
import Derived.Test.YteakobbdgehlgaaGreatDoorAbGloB
import Derived.ProofKit
import Derived.LaidMore
import Derived.Stop.Joined
import Derived.SevenTiedAt
import Derived.Test.YteakobbdgehlgaaGreatDoorKRq5aB
import Derived.Test.YteakobbdgehlgaaGreatDoorKXMr2B
import Derived.Test.YteakobbdgehlgaaGreatDoorAbArgB
import Derived.Test.YteakobbdgehlgaaGreatDoorKXPPar5B
import Derived.Test.YteakobbdgehlgaaGreatDoorKXVi1B
set_option linter.unusedSimpArgs false
set_option linter.unusedVariables false
set_option linter.unusedSectionVars false
namespace Go.Proofs.YteakobbdgehlgaaGreatDoor
open Go Go.Ab Go.ChangeShapes Go.WideShapes Go.ChangeAt Go.RowKit
set_option maxRecDepth 100000
theorem zag:ownKnob Tryz.prog.godebug=none:=by kernel_rfl
theorem zah:laidOutB Tryz.prog=true:=by kernel_rfl
def laidL : List (String × DataW Unit) := [("sordine/sha.keys", Rows.laid_sordine_sha_keys), ("sordine/sordineref1.k", Rows.laid_sordine_sordineref1_k)]
theorem gn0 : Tryz.prog.globalNamed "sordine/sha.keys" = some 0 := by kernel_rfl
theorem gn1 : Tryz.prog.globalNamed "sordine/sordineref1.k" = some 1 := by kernel_rfl
theorem gt0:(Tryz.prog.globals[0]?).map (·.type)=some 139:=by kernel_rfl
theorem gt1:(Tryz.prog.globals[1]?).map (·.type)=some 139:=by kernel_rfl
def gvK:List Int:=Sha.shaK.map fun n:Nat=>(n:Int)
theorem zcE:gvK.map (Value.int .u32)=Sha.kV:=by kernel_rfl
theorem door_met (os:Os) (args:Array Value):laidMetH Tryz.prog laidL ((World.doorLaid Tryz.prog 19 os).forCall (fun _ _=>0) ⟨#[],args,[]⟩).memory :=
 laidMetH_of_parts3 (fuel:=8) (laidMet_of_run' 8 (by kernel_rfl) (by kernel_rfl)) (by kernel_rfl) (by kernel_rfl)
theorem zbz {H:Type}:(Rows.laid_sordine_sha_keys:DataW H)=.agg (gvK.map fun v=>.lit (.int .u32 v)):=by kernel_rfl
theorem zbA {H:Type}:(Rows.laid_sordine_sordineref1_k:DataW H)=.agg (gvK.map fun v=>.lit (.int .u32 v)):=by kernel_rfl
theorem of_laid {W:World} (h:laidMetH Tryz.prog laidL W):∀o∈Sha.GG,Glo W o:=by
 intro o ho;rw[MakeChecks.laidMetH_plain _ _ _ (by kernel_rfl)]at h
 obtain⟨ps,⟨g0,t0,cs0,f0,p0,q0,hg0,ht0,hv0,hd0,⟨g1,t1,cs1,f1,p1,q1,hg1,ht1,hv1,hd1,_,_⟩,_⟩,_,_⟩:=h;obtain rfl:=Option.some.inj (gn0.symm.trans hg0);obtain rfl:=Option.some.inj (gt0.symm.trans ht0);obtain rfl:=Option.some.inj (gn1.symm.trans hg1);obtain rfl:=Option.some.inj (gt1.symm.trans ht1);rw[zbz]at hd0;rw[zbA]at hd1;have k0:=z4C gn0 hv0 (z39 (vs:=gvK) (P:=Tryz.prog) (t:=139) (e:=102) (n:=64) (k:=.u32) (by kernel_rfl) (by kernel_rfl) (by kernel_rfl) (by kernel_rfl) hd0)
 have k1:=z4C gn1 hv1 (z39 (vs:=gvK) (P:=Tryz.prog) (t:=139) (e:=102) (n:=64) (k:=.u32) (by kernel_rfl) (by kernel_rfl) (by kernel_rfl) (by kernel_rfl) hd1)
 rw[zcE]at k0 k1;simp only[List.mem_cons,List.not_mem_nil,or_false]at ho;rcases ho with rfl|rfl
 · exact k0
 · exact k1
theorem z97 {W:World} {x:AV} {v:Value} {R':Ref→Value→Prop} (h:Rep noM noR W x v):Rep noM R' W x v :=
 h.mono (fun b _ hm=>⟨hm,rfl⟩) fun r v h=>by cases r<;>simp[RefOK]at h
end Go.Proofs.YteakobbdgehlgaaGreatDoor
namespace Go.Proofs.YteakobbdgehlgaaGreatDoor.Sha
open Go Go.Ab Go.Cod
set_option maxRecDepth 100000
def txtR (r:RcM):List UInt8:=txtB ⟨(z0s r).toArray⟩
def expB (L:List RcM):List UInt8:=putN L.length++(L.map txtR).flatten
theorem z7i (r:RcM) (h:r.bd.length≤40000):(txtR r).length≤50010:=by
 have h1:=z1o r h;have h2:=z75 ⟨(z0s r).toArray⟩ (by rw[z22];omega)
 rw[z22]at h2;unfold txtR;omega
theorem zai (L:List RcM) (h:∀r∈L,r.bd.length≤40000):((L.map txtR).flatten).length≤L.length*50010:=by
 induction L with
 |nil=>simp
 |cons x L ih =>
  have h1:=z7i x (h x (by simp))
  have h2:=ih fun r hr=>h r (by simp[hr])
  simp only[List.map_cons,List.flatten_cons,List.length_append,List.length_cons];omega
theorem z98 (L:List RcM) (i:Nat) (hi:i<L.length):((L.take (i+1)).map txtR).flatten=((L.take i).map txtR).flatten++txtR L[i]:=by
 rw[List.take_succ_eq_append_getElem hi,List.map_append,List.flatten_append,List.map_singleton,List.flatten_singleton]
section
variable (σ:St)
theorem z4D (p q:Nat) (c:ChM) (hp:σ[p]?=some (boxC q c)) (hq:c.L≠[]→σ[q]?=some (.row 4 (c.L.map rcV))) (hL:c.L.length≤1000)
  (hb:∀r∈c.L,r.bd.length≤40000):Ans Tryz.prog 25 [.ptr p 0] σ (.sl 1 (bv (expB c.L))) σ:=by
 have hpl:p<σ.length:=by
  rcases Nat.lt_or_ge p σ.length with h|h
  · exact h
  · rw[List.getElem?_eq_none h]at hp;cases hp
 have wu:IntKind.u64.wrap ((c.L.length:Nat):Int)=((c.L.length:Nat):Int):=z1r (by omega)
 have hput:=z6h σ c.L.length (by omega)
 have hpn:=z0P (n:=c.L.length) (by omega)
 unfold boxC rowC at hp
 cases hE:c.L.isEmpty with
 |true =>
  have h0:c.L=[]:=by simpa using hE
  rw[hE]at hp;simp only[if_true]at hp;have hp':∀ex,(σ++ex)[p]?=some (.box (I c.most::.nils::bv c.head)):=fun ex=>by rw[List.getElem?_append_left hpl];exact hp
  have e0:expB c.L=[0]:=by rw[h0];unfold expB;rw[List.length_nil,z14 (by decide)];rfl
  rw[e0];rw[h0,List.length_nil,z14 (by decide)]at hput
  have w0:IntKind.u64.wrap 0=0:=rfl;have hput:Ans Tryz.prog 50 [.pl (.int .u64 0)] σ (.osl σ.length 1) (σ++[.row 1 (bv [0])]):=hput;have z1:(bv [0]).length=1:=rfl;refine Ans.of_run' t25 (fun hbel _=>?_)
  simp -implicitDefEqProofs only[c25,r25,go_sem,hp,List.drop_succ_cons,List.drop_zero,List.head?_cons,w0];refine CO.intro hput ?_;simp -implicitDefEqProofs only[go_sem,hp',List.drop_succ_cons,List.drop_zero,List.head?_cons];refine Go.Ab.L.count 0 (fun i=>mkE 30 [(3,.osl σ.length 1),(16,.nils),(17,I 0),(18,I 0)]) (fun i=>σ++[.row 1 (bv [0])]) ?_ ?_ rfl rfl
  · intro i hi;omega
  · intro J;simp -implicitDefEqProofs only[mkE,go_sem,G0,S0,z1];exact Fini.trim2 (σ':=σ) (ex:=[_]) rfl rfl (Nat.le_refl _) (z1U _ _) hbel
 |false =>
  have hq:=hq (by intro h;rw[h]at hE;cases hE)
  have hml:(c.L.map rcV).length=c.L.length:=List.length_map ..;rw[hE]at hp;simp only[Bool.false_eq_true,if_false]at hp
  have hql:q<σ.length:=by
   rcases Nat.lt_or_ge q σ.length with h|h
   · exact h
   · rw[List.getElem?_eq_none h]at hq;cases hq
  have hp':∀ex,(σ++ex)[p]?=some (.box (I c.most::.osl q c.L.length::bv c.head)):=fun ex=>by rw[List.getElem?_append_left hpl];exact hp
  have hq':∀ex,(σ++ex)[q]?=some (.row 4 (c.L.map rcV)):=fun ex=>by rw[List.getElem?_append_left hql];exact hq
  refine Ans.of_run' t25 (fun hbel _=>?_)
  simp -implicitDefEqProofs only[c25,r25,go_sem,hp,hq,hml,wu,List.drop_succ_cons,List.drop_zero,List.head?_cons];refine CO.intro hput ?_;simp -implicitDefEqProofs only[go_sem,hp',hq',hml,List.drop_succ_cons,List.drop_zero,List.head?_cons];refine Go.Ab.L.count c.L.length (fun i=>mkE 30 [(3,.osl σ.length (putN c.L.length++((c.L.take i).map txtR).flatten).length),(16,.osl q c.L.length),(17,I c.L.length),(18,I i)]) (fun i=>σ++[.row 1 (bv (putN c.L.length++((c.L.take i).map txtR).flatten))]) ?_ ?_ ?_ ?_
  · intro i hi J hJ;have hd:decide ((i:Int)<((c.L.length:Nat):Int))=true:=decide_eq_true (by omega)
    have hii:((i:Int)<((c.L.length:Nat):Int))=True:=eq_true (by omega)
    have hx:(c.L.map rcV)[i]?=some (.agg [I c.L[i].ix,UN c.L[i].ck,.sl 1 (byv c.L[i].bd),I c.L[i].cd]):=by rw[List.getElem?_map,List.getElem?_eq_getElem hi];rfl
    have hbi:=hb _ (List.getElem_mem hi);have hrb:=fun s=>z2G s c.L[i] (by omega)
    have hbl:=z1o c.L[i] hbi;have hpt:∀s,Ans Tryz.prog 51 [Sx ⟨(z0s c.L[i]).toArray⟩] s (.sl 1 (bv (txtR c.L[i]))) s:=fun s=>z3S s ⟨(z0s c.L[i]).toArray⟩ (by rw[z22];omega)
    have wi:IntKind.i64.wrap ((i:Int)+1)=((i+1:Nat):Int):=wrap_succ (i:=i) (by omega)
    rw[z98 _ _ hi,←List.append_assoc]at hJ;have hfl:=zai (c.L.take i) fun r hr=>hb r (List.mem_of_mem_take hr)
    have hfl2:(c.L.take i).length≤1000:=by rw[List.length_take];omega
    have htl:=z7i c.L[i] hbi;have hX:(putN c.L.length++((c.L.take i).map txtR).flatten).length≤60000000:=by rw[List.length_append];omega
    generalize putN c.L.length++((c.L.take i).map txtR).flatten=X at hJ hX⊢;have hXl:=z0h X;have hTl:=z0h (txtR c.L[i]);have k1:((X++txtR c.L[i]).length≤2^32)=True:=eq_true (by rw[List.length_append];omega)
    have hall:=z19 (txtR c.L[i]);generalize txtR c.L[i]=Y at *;simp -implicitDefEqProofs only[mkE,go_sem,hd,hq',hml,hii,hx];refine CO.intro (hrb _) ?_;simp -implicitDefEqProofs only[go_sem,z3w,bc,z29,z2j,AV.isStr];refine CO.intro (hpt _) ?_;simp -implicitDefEqProofs only[go_sem,G0,S0,hXl,k1,z19,hTl,wi,←z3R,←List.length_append];exact hJ
  · intro J;have hd:decide ((c.L.length:Int)<((c.L.length:Nat):Int))=false:=decide_eq_false (by omega)
    rw[List.take_length];have hel:=z0h (putN c.L.length++(c.L.map txtR).flatten);simp -implicitDefEqProofs only[mkE,go_sem,hd,G0,S0,hel];exact Fini.trim2 (σ':=σ) (ex:=[_]) rfl rfl (Nat.le_refl _) (z1U _ _) hbel
  · rw[List.take_zero,List.map_nil,List.flatten_nil,List.append_nil];rfl
  · rw[List.take_zero,List.map_nil,List.flatten_nil,List.append_nil];rfl
end
theorem z4E:∀(n:Nat) (a b:List UInt8),a.length=n→b.length=n→eqCells (List.replicate n .int) (bv a) (bv b)=some (a==b)
 |0,[],[],_,_=>rfl
 |n+1,p::ps,q::qs,h,h'=>by
  have e:(((p.toNat:Nat):Int)==((q.toNat:Nat):Int))=(p==q):=by
   rw[Bool.eq_iff_iff];simp only[beq_iff_eq];constructor
   · intro h;exact UInt8.toNat_inj.mp (by omega)
   · intro h;rw[h]
  have ih:=z4E n ps qs (by simpa using h) (by simpa using h')
  unfold bv at ih⊢;rw[List.replicate_succ,List.map_cons,List.map_cons,eqCells,ih];simp only[z1t,if_true,e];rfl
def ran:RcM:=⟨0,3,[1],0⟩
theorem zaG:rcIs ran=true:=by kernel_rfl
theorem z5T:z0s ran=[0,3,1,1,0]:=by
 unfold z0s putRc txtB;rw[if_pos zaG,z14 (n:=ran.ix.toNat) (by decide),z14 (n:=ran.ck) (by decide),z14 (n:=(⟨ran.bd.toArray⟩:ByteArray).size) (by decide)]
 rfl
theorem zbB:expB []=[0]:=by unfold expB;rw[List.length_nil,z14 (by decide)];rfl
theorem zbC:expB [ran]=[1,5,0,3,1,1,0]:=by
 unfold expB txtR txtB;simp only[List.map_cons,List.map_nil,List.length_cons,List.length_nil,z5T];rw[z14 (n:=0+1) (by decide),z14 (by decide)]
 rfl
section
variable (σ:St)
theorem z5U (o:Int):Ans Tryz.prog 67 [I o] σ (.sl 1 (bv (genB o))) σ:=by
 have hu:=z94 o;have hp:∀s,Ans Tryz.prog 82 [UN (ownU o)] s (.sl 1 (bv (wrdB (ownU o)))) s:=fun s=>z3o s (ownU o)
 have hl:=z0h (wrdB (ownU o));have hw:=wrdB_len (ownU o);have e:AV.pl (.int .u8 0)::bv (wrdB (ownU o))=bv (genB o):=rfl;have k1:((1:Nat)+8≤2^32)=True:=eq_true (by decide)
 refine Ans.of_run' t67 (fun hbel _=>?_)
 simp -implicitDefEqProofs only[c67,r67,go_sem,hu];refine CO.intro (hp _) ?_;have hgl:(bv (genB o)).length=9:=rfl;simp -implicitDefEqProofs only[go_sem,z19,hl,hw,k1,G0,S0,List.cons_append,List.nil_append,e,hgl];exact Fini.trim2 (σ':=σ) (ex:=[_]) rfl rfl (Nat.le_refl _) (z1U _ _) hbel
theorem z7S (o:Int) (hG:∀ex,gloA (σ++ex) 1=some kV):Ans Tryz.prog 43 [I o] σ (.sl 1 (bv (shaB (genB o)))) σ:=by
 have hg:=fun s=>z5U s o
 have hs:=z7b σ (genB o) (show(9:Nat)≤100000 by decide) hG
 have hsl:=z1A (genB o);have hl:=z0h (shaB (genB o));generalize shaB (genB o)=hd at hs hsl hl⊢;have ha:=z1q hd;have htk:List.take 32 (bv hd)=bv hd:=List.take_of_length_le (by rw[hl,hsl];exact Nat.le_refl _)
 refine Ans.of_run t43 ?_;simp -implicitDefEqProofs only[c43,r43,go_sem];refine CO.intro (hg _) ?_;simp -implicitDefEqProofs only[go_sem];refine CO.intro hs ?_;simp -implicitDefEqProofs only[go_sem,hl,hsl,ha,htk];exact Fini.ret rfl
theorem runs_ans (g0:gloA σ 0=some kV) (g1:gloA σ 1=some kV):Ans Tryz.prog 15 [] σ (Bo true) σ:=by
 have hnew:=new_ans σ 7 2 (fun ex=>z1g g0 ex)
 obtain⟨h0,e0⟩:∃h0,h0=shaB (genB 7):=⟨_,rfl⟩;have l0:h0.length=32:=by rw[e0];exact z1A _
 have eN:newCh 7 2=⟨2,[],h0⟩:=by rw[e0];rfl
 rw[eN]at hnew;have hx1:=z4D (σ++[boxC 0 ⟨2,[],h0⟩]) σ.length 0 ⟨2,[],h0⟩ (by rw[List.getElem?_append_right (Nat.le_refl _)];simp) (fun h=>absurd rfl h) (Nat.zero_le _) (fun r h=>nomatch h)
 have ha1:=z3p (σ++[boxC 0 ⟨2,[],h0⟩]) σ.length 2 h0 l0 3 [1] 0 (by rw[List.getElem?_append_right (Nat.le_refl _)];simp) (by simp) (by decide) (by decide) (z1g g0 _)
 have er:z0i ⟨2,[],h0⟩ 3 [1] 0=ran:=rfl;rw[er,zaG]at ha1;have et:(!decide ((2:Int)≤0)&&true)=true:=rfl;rw[et,if_pos rfl]at ha1;have eA:addCh ⟨2,[],h0⟩ ran=⟨2,[ran],shaB (linkB h0 [0,3,1,1,0])⟩:=by rw[←z5T];rfl
 rw[eA]at ha1;obtain⟨h1,e1⟩:∃h1,h1=shaB (linkB h0 [0,3,1,1,0]):=⟨_,rfl⟩;have l1:h1.length=32:=by rw[e1];exact z1A _
 rw[←e1]at ha1
 have hst:(σ++[boxC 0 ⟨2,[],h0⟩]).set σ.length (boxC ((σ++[boxC 0 ⟨2,[],h0⟩]).length+1) ⟨2,[ran],h1⟩)++[.box (rcC ran),.row 4 [rcV ran]]=σ++[boxC (σ.length+2) ⟨2,[ran],h1⟩,.box (rcC ran),.row 4 [rcV ran]]:=by
  rw[S0,List.length_append,List.append_assoc];rfl
 rw[hst]at ha1;obtain⟨τ,eτ⟩:∃τ,τ=σ++[boxC (σ.length+2) ⟨2,[ran],h1⟩,.box (rcC ran),.row 4 [rcV ran]]:=⟨_,rfl⟩;have tp:τ[σ.length]?=some (boxC (σ.length+2) ⟨2,[ran],h1⟩):=by rw[eτ,G0]
 have tq:τ[σ.length+2]?=some (.row 4 ([ran].map rcV)):=by rw[eτ,List.getElem?_append_right (by omega)];simp
 have tl:τ.length=σ.length+3:=by rw[eτ];simp
 have t0:∀ex,gloA (τ++ex) 0=some kV:=fun ex=>by rw[eτ,List.append_assoc];exact z1g g0 _
 have t00:gloA τ 0=some kV:=by rw[eτ];exact z1g g0 _
 have t1:∀ex,gloA (τ++ex) 1=some kV:=fun ex=>by rw[eτ,List.append_assoc];exact z1g g1 _
 rw[←eτ]at ha1;have ha2:=z4a τ σ.length (σ.length+2) ⟨2,[ran],h1⟩ l1 (fun h=>nomatch h) (by show 1≤100000;decide) 2 [1] 0 tp tq (by omega) (by omega) (by omega) (by decide) (by decide) t00
 have ef:takes ⟨2,[ran],h1⟩ 2 [1] 0=false:=by unfold takes;rw[show(!decide (((2:Nat):Int)<((z5Q ⟨2,[ran],h1⟩:Nat):Int)))=false from rfl,Bool.and_false,Bool.and_false]
 rw[ef,if_neg (by decide)]at ha2
 have hlen:=z6y τ σ.length (σ.length+2) ⟨2,[ran],h1⟩ tp (fun _=>tq)
 have hlen:Ans Tryz.prog 14 [.ptr σ.length 0] τ (I 1) τ:=hlen;have hful:Ans Tryz.prog 13 [.ptr σ.length 0] τ (Bo false) τ:=z38 τ σ.length (σ.length+2) ⟨2,[ran],h1⟩ tp (fun _=>tq)
 have hx2:=z4D τ σ.length (σ.length+2) ⟨2,[ran],h1⟩ tp (fun _=>tq) (by show 1≤1000;decide) (fun r h=>by rw[List.mem_singleton.mp h];decide)
 have hhd:=za7 τ σ.length (σ.length+2) ⟨2,[ran],h1⟩ l1 tp (by omega)
 have hdg:=z7S (τ++[.row 1 [.pl (.int .u8 1)]]) 7 (fun ex=>by rw[List.append_assoc];exact t1 _)
 have hof:=z7b (τ++[.dead]) (linkB h0 [0,3,1,1,0]) (by rw[z37,l0];decide) (fun ex=>by rw[List.append_assoc];exact t1 _)
 rw[←e0]at hdg;rw[←e1]at hof;rw[show expB ([]:List RcM)=[0] from zbB]at hx1
 rw[show expB [ran]=[1,5,0,3,1,1,0] from zbC]at hx2
 have hnp:∀s:St,nilA2 s true (.ptr σ.length 0)=some false:=fun _=>rfl
 have lh0:=z0h h0;have lL:(linkB h0 [0,3,1,1,0]).length=38:=by rw[z37,l0];rfl
 have eL:([.pl (.int .u8 1)]++bv h0)++[.pl (.int .u8 0),.pl (.int .u8 3),.pl (.int .u8 1),.pl (.int .u8 1),.pl (.int .u8 0)]=bv (linkB h0 [0,3,1,1,0]):=by
  unfold linkB;rw[List.flatten_cons,List.flatten_cons,List.flatten_cons,List.flatten_nil,List.append_nil,z3R,z3R,List.append_assoc];rfl
 have eq1:=z4E 32 h1 h1 l1 l1;simp only[List.reduceReplicate]at eq1;have hb1:bv [1]=[.pl (.int .u8 1)]:=rfl;rw[hb1]at ha1 ha2;have hc0:bv [0]=[.pl (.int .u8 0)]:=rfl;rw[hc0]at hx1;refine Ans.of_run' t15 (fun hbel _=>?_)
 simp -implicitDefEqProofs only[c15,r15,go_sem];refine CO.intro hnew ?_;simp -implicitDefEqProofs only[go_sem,hnp];refine CO.intro hx1 ?_;simp -implicitDefEqProofs only[go_sem];refine CO.intro ha1 ?_;simp -implicitDefEqProofs only[go_sem];refine CO.intro ha2 ?_;have z11:((((1:Nat):Int))==1)=true:=rfl;have zu0:((0:Int)==0)=true:=rfl;simp -implicitDefEqProofs only[go_sem,z11,zu0];refine CO.intro hlen ?_;have zu1:((1:Int)==1)=true:=rfl;simp -implicitDefEqProofs only[go_sem,zu1];refine CO.intro hful ?_;simp -implicitDefEqProofs only[go_sem];obtain⟨E,eE⟩:∃E:List UInt8,E=[1,5,0,3,1,1,0]:=⟨_,rfl⟩;rw[←eE]at hx2;have tt:(⟨E.toArray⟩:ByteArray).toList=(ByteArray.mk #[1,5,0,3,1,1,0]).toList:=by rw[eE]
 have bt:byteL (bv E)=some (E.map fun c=>((c.toNat:Nat):Int)):=z29 E
 have tt':((⟨E.toArray⟩:ByteArray).toList==(ByteArray.mk #[1,5,0,3,1,1,0]).toList)=true:=by rw[tt];exact beq_self_eq_true _
 refine CO.intro hx2 ?_;simp -implicitDefEqProofs only[go_sem,z19,bt,z2j,AV.isStr,tt'];refine CO.intro hhd ?_;simp -implicitDefEqProofs only[go_sem];refine CO.intro hdg ?_;have k1:((1:Nat)+32≤2^32)=True:=eq_true (by decide)
 have k2:((38:Nat)≤2^32)=True:=eq_true (by decide)
 have eL':AV.pl (Value.int IntKind.u8 1)::(bv h0++[AV.pl (Value.int IntKind.u8 0),AV.pl (Value.int IntKind.u8 3),AV.pl (Value.int IntKind.u8 1),AV.pl (Value.int IntKind.u8 1),AV.pl (Value.int IntKind.u8 0)])=bv (linkB h0 [0,3,1,1,0]):=eL;simp -implicitDefEqProofs only[go_sem,z19,lh0,l0,k1,k2,G0,S0,eL'];have hls:=z0h (linkB h0 [0,3,1,1,0]);have hset:(τ++[Ob.row 1 (bv (linkB h0 [0,3,1,1,0]))]).set τ.length .dead=τ++[.dead]:=by rw[S0]
 refine CO.intro (Ans.shutArg (pre:=[]) (post:=[]) (xs:=bv (linkB h0 [0,3,1,1,0])) (by rw[G0]) (by rw[hls,lL]) (by rw[hset];exact hof)) ?_
 have e11:(h1==h1)=true:=beq_self_eq_true _;simp -implicitDefEqProofs only[go_sem,eq1,e11];exact Fini.trim2 (σ':=σ) (ex:=[_,_,_,_]) rfl (by rw[eτ,List.append_assoc];rfl) (Nat.le_refl _) (.pl _) hbel
end
end Go.Proofs.YteakobbdgehlgaaGreatDoor.Sha
namespace Go.Proofs.YteakobbdgehlgaaGreatDoor
open Go Go.Ab Go.Cod Go.ChangeShapes Go.WideShapes Go.ChangeAt Go.RowKit
set_option maxRecDepth 100000
theorem wf8c {n:Int} (h:(Lit.int .u8 n).wf=true):0≤n∧n<256:=by
 simp[Lit.wf,IntKind.min,IntKind.max,IntKind.bits,IntKind.signed]at h;omega
section
variable {H:Type} {enc:TypeId×Value→H} {W:World} {base:Nat} {v:Value} {d:DataW H} {ps:List MemPlace}
theorem zcF (hv:Value.okWide Tryz.prog W .any base 5 v) (h:DataW.Trod enc Tryz.prog W 0 (fun _=>true) true 5 v d ps):∃c:UInt8,Rep noM noR W (bc c) v:=by
 obtain⟨n,rfl⟩:=okWide_int Tryz.underlying5 hv;obtain⟨x,hx,m,hm,e⟩:=Reads.arg (P:=Tryz.prog) (t:=5) (fun f=>Reads.int Tryz.underlying5 f) rfl h
 simp only[List.cons.injEq,and_true]at e;subst e;obtain⟨h0,h1⟩:=wf8c hm;obtain⟨k,rfl⟩:=Int.eq_ofNat_of_zero_le h0;refine⟨k.toUInt8,?_⟩;unfold bc;rw[toNat_toUInt8 (by omega)]
 exact hx
end
end Go.Proofs.YteakobbdgehlgaaGreatDoor
