/- What is hashed of an export, and the head: the program's and the document's. No condition. -/
import Derived.Test.YteakobbdgehlgaaDoorVKE5V
import Derived.Test.YteakobbdgehlgaaDoorVKRc7V
import Derived.Test.YteakobbdgehlgaaDoorVKRq5aV
import Derived.Test.YteakobbdgehlgaaDoorVMCode1V
import Derived.Test.YteakobbdgehlgaaDoorVMRunV
import Derived.Test.YteakobbdgehlgaaDoorAbGloV
import Derived.Test.YteakobbdgehlgaaDoorAbArgV
import Derived.Test.YteakobbdgehlgaaDoorVKXCmpV
set_option linter.unusedSimpArgs false
set_option linter.unusedVariables false
set_option linter.unusedSectionVars false
set_option maxRecDepth 100000
set_option maxHeartbeats 2000000
namespace Go.Proofs.YteakobbdgehlgaaDoor
open Go Go.Ab Go.Cod
open Sha (txtR expB shaB z0H genB linkB z1d z2v kV)
attribute [local irreducible] Sha.shaB
theorem zbI (n:Nat) (X:List Byt):∀x∈bsv X,Bel n x:=by
 intro x hx;obtain⟨b,_,rfl⟩:=List.mem_map.1 hx;exact z1y _ _
theorem z75 {b:Byt} {L:List RcM} (hb:b.length<2^64) (h:rdE b=some L):∀x∈L,x.bd.length≤b.length:=by
 obtain⟨h1,h2,h3⟩:=z2g hb h;intro x hx;have hm:=za8 hx;obtain⟨i,hi,rfl⟩:=List.getElem_of_mem hx;have e:(expB L).length=(putN L.length).length+((L.map txtR).flatten).length:=by unfold expB;rw[List.length_append]
 have e2:(txtR L[i]).length=(putN (putRc L[i]).length).length+(putRc L[i]).length:=by
  rw[z72 (h2 i hi).1];unfold txtB;rw[List.length_append,z2u]
 have e3:L[i].bd.length≤(putRc L[i]).length:=by
  unfold putRc txtB;simp only[List.length_append];omega
 rw[h1];omega
theorem z3K (o:Int) (L:List RcM) (hb:∀r∈L,r.bd.length≤40000):∀x∈imB o L,x.length≤60000:=by
 intro x hx;unfold imB at hx;rcases List.mem_cons.1 hx with rfl|hx
 · show(9:Nat)≤60000;decide
 · obtain⟨i,hi,rfl⟩:=List.mem_map.1 hx;have hi:=List.mem_range.1 hi;have e:L.getD i noR0=L[i]:=by rw[List.getD_eq_getElem?_getD,List.getElem?_eq_getElem hi];rfl
   have:=Sha.bytesRc_le L[i] (hb _ (List.getElem_mem hi));rw[z1d,z3j,e];omega
def boxR (L:List RcM):St:=L.map fun r=>.box (rcC r)
section
variable (σ:St)
theorem z6p {o:Int} {b:Byt} (hb:b.length≤40000) (h:rdE b=none):Ans Tryd.prog 12 [I o,.sl 1 (byv b)] σ (.tup [.nils,Bo false]) σ:=by
 have k:=z53 σ b (by omega)
 rw[h]at k;unfold expW at k;refine Ans.of_run t12 ?_;simp -implicitDefEqProofs only[c12,r12,go_sem];refine CO.intro k ?_;simp -implicitDefEqProofs only[go_sem];exact Fini.ret rfl
theorem z27 {o:Int} {b:Byt} {L:List RcM} (hb:b.length≤40000) (h:rdE b=some L) (hG:∀ex,gloA (σ++ex) 0=some kV) :
  Ans Tryd.prog 12 [I o,.sl 1 (byv b)] σ (.tup [.osl σ.length (L.length+1),Bo true]) (σ++[.row 1 (bsv (imB o L))]):=by
 have k:=z53 σ b (by omega)
 rw[h]at k;unfold expW at k;have kg:Ans Tryd.prog 9 [I o] σ (.sl 1 (byv (genB o))) σ:=Sha.genesis_ans σ o;have e0:=z4d L;obtain⟨hbe,hok,hn⟩:=z2g (by omega) h
 have d0:=z75 (by omega) h
 refine Ans.of_run' t12 (fun y0 _=>?_)
 simp -implicitDefEqProofs only[c12,r12,go_sem];refine CO.intro k ?_;simp -implicitDefEqProofs only[go_sem];refine CO.intro kg ?_;simp -implicitDefEqProofs only[go_sem,e0];refine Go.Ab.L.count L.length (fun i=>mkE 41 [(8,.osl σ.length (i+1)),(21,.sl 4 (L.map rcV)),(22,I L.length),(23,I i)]) (fun i=>σ++(.row 1 (bsv (imB o (L.take i)))::boxR (L.take i))) ?_ ?_ rfl rfl
 · intro i hi J hJ;have hd:decide ((i:Int)<(L.length:Int))=true:=decide_eq_true (by omega)
   have x1:((i:Int)<(L.length:Int))=True:=eq_true (by omega)
   have hx:=zab hi;have hbi:=d0 _ (List.getElem_mem hi);have wi:IntKind.i64.wrap ((i:Int)+1)=((i+1:Nat):Int):=wrap_succ (i:=i) (by omega)
   have j1:L.take (i+1)=L.take i++[L[i]]:=List.take_succ_eq_append_getElem hi;rw[j1,z38]at hJ;have q1:boxR (L.take i++[L[i]])=boxR (L.take i)++[.box (rcC L[i])]:=by unfold boxR;rw[List.map_append];rfl
   rw[q1]at hJ;have u0:=z2I o (L.take i);have m1:(L.take i).length=i:=by rw[List.length_take];omega
   have y1:=z3K o (L.take i) fun r hr=>by have:=d0 r (List.mem_of_mem_take hr);omega
   have t0:=z8V o (L.take i) i (by omega)
   rw[List.take_of_length_le (by omega:(L.take i).length≤i)]at t0
   have hXi:((imB o (L.take i)).getD i []).length≤60000:=by
    rw[List.getD_eq_getElem?_getD,List.getElem?_eq_getElem (by rw[u0];omega)]
    exact y1 _ (List.getElem_mem _)
   have m0:(bsv (imB o (L.take i)))[i]?=some (.sl 1 (byv ((imB o (L.take i)).getD i []))):=by
    rw[z23 _ i (by rw[u0];omega),List.getD_eq_getElem?_getD,List.getElem?_eq_getElem (by rw[u0];omega)];rfl
   have o0:=fun s=>z6m s L[i] (by omega)
   have k1:=Sha.bytesRc_le L[i] (by omega)
   have h0:=fun s=>Sha.link_ans s (hdL o (L.take i)) (z0r L[i]) (z3j _ _) k1
   have r0:=fun ex=>Sha.sha_ans (σ++ex) ((imB o (L.take i)).getD i []) (by omega) (fun ex2=>by rw[List.append_assoc];exact hG _)
   rw[t0]at r0;have hlen:(bsv (imB o (L.take i))).length=i+1:=by rw[z1i,u0,m1]
   have q0:bsv (imB o (L.take i))++[.sl 1 (byv (linkB (hdL o (L.take i)) (z0r L[i])))]=bsv (imB o (L.take i)++[linkB (hdL o (L.take i)) (z0r L[i])]):=by unfold bsv;rw[List.map_append];rfl
   rw[←q0]at hJ;generalize (imB o (L.take i)).getD i []=img at *;generalize bsv (imB o (L.take i))=X at *;generalize hdL o (L.take i)=hd0 at *;have j0:i+1+1≤4294967296:=by omega
   have u1:((i:Int)<((i+1:Nat):Int))=True:=eq_true (by omega)
   obtain⟨S,eS⟩:∃S,S=σ++(.row 1 X::boxR (L.take i)):=⟨_,rfl⟩;have n0:∀ex,(S++ex)[σ.length]?=some (.row 1 X):=fun ex=>by rw[eS,List.append_assoc];exact g0 σ _ _
   have f0:∀y ex,(S++ex).set σ.length y=σ++(y::(boxR (L.take i)++ex)):=fun y ex=>by rw[eS,List.append_assoc];exact s0 σ _ _ _
   have k0:∀ex,Ans Tryd.prog 8 [.sl 1 (byv img)] (S++ex) (.agg (byv hd0)) (S++ex):=fun ex=>by
    have:=r0 (.row 1 X::boxR (L.take i)++ex);rw[←List.append_assoc,←eS]at this;exact this
   rw[←eS];simp -implicitDefEqProofs only[mkE,go_sem,hd,e0,x1,hx,g0,s0,n0,hlen,u1,m0];refine CD.intro (k0 _) ?_;simp -implicitDefEqProofs only[go_sem,g0,s0];refine CD.intro (o0 _) ?_;simp -implicitDefEqProofs only[go_sem];refine CD.intro (h0 _) ?_;simp -implicitDefEqProofs only[go_sem,n0,f0,hlen,j0,List.length_singleton,wi,m0];exact hJ
 · intro J;have hd:decide ((L.length:Int)<(L.length:Int))=false:=decide_eq_false (by omega)
   rw[List.take_length];simp -implicitDefEqProofs only[mkE,go_sem,hd];have l0:σ++(.row 1 (bsv (imB o L))::boxR L)=(σ++[.row 1 (bsv (imB o L))])++boxR L:=by rw[List.append_assoc];rfl
   refine Fini.trim2 (h:=?_) (he:=l0) (hl:=?_) (hb:=?_) (ho:=?_)
   · rfl
   · rw[List.length_append];exact Nat.le_add_right _ _
   · refine .tup _ fun k hk=>?_
     match k,hk with
     |0,_=>exact .osl _ _ (by simp)
     |1,_=>exact .pl _
   · intro y hy;rcases List.mem_append.1 hy with hy|hy
     · exact z8a (y0 y hy) (by simp)
     · obtain rfl:=List.mem_singleton.1 hy;exact zbI _ _
end
section
variable (σ:St)
theorem zac {o:Int} {L:List RcM}:(bsv (imB o L))[L.length]?=some (.sl 1 (byv ((imB o L).getD L.length []))):=by
 have u0:=z2I o L;rw[z23 _ L.length (by rw[u0];omega),List.getD_eq_getElem?_getD,List.getElem?_eq_getElem (by rw[u0];omega)];rfl
theorem zad {o:Int} {L:List RcM} (hbd:∀r∈L,r.bd.length≤40000):((imB o L).getD L.length []).length≤60000:=by
 have u0:=z2I o L;rw[List.getD_eq_getElem?_getD,List.getElem?_eq_getElem (by rw[u0];omega)]
 exact z3K o L hbd _ (List.getElem_mem _)
theorem zae (o:Int) (L:List RcM):shaB ((imB o L).getD L.length [])=hdL o L:=by
 rw[z8V o L L.length (Nat.le_refl _),List.take_length]
end
def z32:Byt:=List.replicate 32 0
def vfyH (o:Int) (r:Option (List RcM)):Byt:=match r with
 |none=>z32
 |some L=>hdL o L
theorem z3L (o:Int) (r:Option (List RcM)):(vfyH o r).length=32:=by
 cases r with
 |none=>rfl
 |some L=>exact z3j o L
def vfyV (o:Int) (r:Option (List RcM)):AV:=.tup [.agg (byv (vfyH o r)),Bo r.isSome]
theorem zaf (n:Nat) (o:Int) (r:Option (List RcM)):Bel n (vfyV o r):=z1Q (Sha.bel_bva _ _)
section
variable (σ:St)
theorem z1w (o:Int) (b:Byt) (hb:b.length≤40000) (hG:∀ex,gloA (σ++ex) 0=some kV):Ans Tryd.prog 6 [I o,.sl 1 (byv b)] σ (vfyV o (rdE b)) σ:=by
 have u0:=zaf σ.length o (rdE b);have j0:byv z32=List.replicate 32 (.pl (.int .u8 0)):=rfl;simp only[List.reduceReplicate]at j0
 cases h:rdE b with
 |none =>
  rw[h]at u0;have k:=z6p (σ++[.box (byv z32)]) (o:=o) hb h;unfold vfyV vfyH at u0⊢;simp only at u0⊢;rw[j0]at u0 k⊢;refine Ans.of_run' t6 (fun y0 _=>?_)
  simp -implicitDefEqProofs only[c6,r6,go_sem];refine CO.intro k ?_;simp -implicitDefEqProofs only[go_sem,g0,s0];exact tr_ (σ':=σ) (ex:=[_]) rfl u0 y0
 |some L =>
  rw[h]at u0;have m0:∀r∈L,r.bd.length≤40000:=fun r hr=>by have:=z75 (by omega) h r hr;omega
  have k:=z27 (σ++[.box (byv z32)]) (o:=o) hb h (fun ex=>by rw[List.append_assoc];exact hG _)
  have r0:(bsv (imB o L)).length=L.length+1:=by rw[z1i,z2I]
  have hx:=zac (o:=o) (L:=L);have hs:∀ex,Ans Tryd.prog 8 [.sl 1 (byv ((imB o L).getD L.length []))] (σ++ex) (.agg (byv (shaB ((imB o L).getD L.length [])))) (σ++ex):=fun ex=>Sha.sha_ans (σ++ex) _ (by have:=zad (o:=o) m0;omega) (fun ex2=>by rw[List.append_assoc];exact hG _)
  rw[zae]at hs;obtain⟨-,-,hn⟩:=z2g (by omega) h
  have ws:IntKind.i64.wrap (((L.length+1:Nat):Int)-1)=(L.length:Int):=by rw[show((L.length+1:Nat):Int)-1=(L.length:Int) by omega];exact wrapI (by omega)
  have n0:((L.length:Int)<((L.length+1:Nat):Int))=True:=eq_true (by omega)
  have hl:=z05 (hdL o L);have q0:=z3j o L;have ha:(byv (hdL o L)).all AV.one=true:=Sha.bv_all _;have k0:List.take 32 (byv (hdL o L))=byv (hdL o L):=List.take_of_length_le (by rw[hl,q0];exact Nat.le_refl _)
  unfold vfyV vfyH at u0⊢;simp only at u0⊢;rw[List.append_assoc,List.length_append]at k;generalize hdL o L=hd0 at *;rw[j0]at k;refine Ans.of_run' t6 (fun y0 _=>?_)
  simp -implicitDefEqProofs only[c6,r6,go_sem];refine CO.intro k ?_;simp -implicitDefEqProofs only[go_sem,g0,s0,g1,s1,r0,ws,n0,hx];refine CO.intro (hs _) ?_;simp -implicitDefEqProofs only[go_sem,hl,q0,ha,k0,g0,s0];exact Fini.trim2 (σ':=σ) (ex:=[_,_]) (by simp -implicitDefEqProofs only[go_sem,resA,z04,rvA,oneOf,g0,hl,q0,k0]<;>rfl) rfl (Nat.le_refl _) u0 y0
theorem z54 (n:Nat) (a b:Byt) (ha:a.length=n) (hb:b.length=n):eqCells (List.replicate n .int) (byv a) (byv b)=some (a==b):=Sha.eqCells_bv n a b ha hb
theorem rdE_0:rdE [0]=some []:=by kernel_rfl
theorem zcR:rdE [0,0]=none:=by kernel_rfl
theorem z8X (hG:∀ex,gloA (σ++ex) 0=some kV):Ans Tryd.prog 4 [] σ (Bo true) σ:=by
 have k1:=z1w σ 7 [0] (by decide) hG
 have k2:=z1w σ 7 [0,0] (by decide) hG
 have k3:=z53 σ [0] (by decide)
 have kg:Ans Tryd.prog 9 [I 7] σ (.sl 1 (byv (genB 7))) σ:=Sha.genesis_ans σ 7;have ks:Ans Tryd.prog 8 [.sl 1 (byv (genB 7))] σ (.agg (byv (shaB (genB 7)))) σ:=Sha.sha_ans σ (genB 7) (show(9:Nat)≤100000 by decide) hG
 rw[rdE_0]at k1 k3;rw[zcR]at k2;unfold vfyV vfyH at k1 k2;unfold expW at k3;simp only at k1 k2 k3;have e0:hdL 7 []=shaB (genB 7):=rfl;rw[e0]at k1;have u0:(shaB (genB 7)).length=32:=z0H _;have y0:=z54 32 (shaB (genB 7)) (shaB (genB 7)) u0 u0;rw[beq_self_eq_true]at y0;simp only[List.reduceReplicate]at y0;have hl:=z05 (shaB (genB 7));have ha:(byv (shaB (genB 7))).all AV.one=true:=Sha.bv_all _;have j0:List.take 32 (byv (shaB (genB 7)))=byv (shaB (genB 7)):=List.take_of_length_le (by rw[hl,u0];exact Nat.le_refl _)
 generalize shaB (genB 7)=hd0 at *;have k0:=z05 z32;have q0:z32.length=32:=rfl;have n0:(byv z32).all AV.one=true:=Sha.bv_all _;have k1:Ans Tryd.prog 6 [I 7,.sl 1 [.pl (.int .u8 0)]] σ (.tup [.agg (byv hd0),Bo true]) σ:=k1;have k2:Ans Tryd.prog 6 [I 7,.sl 1 [.pl (.int .u8 0),.pl (.int .u8 0)]] σ (.tup [.agg (byv z32),Bo false]) σ:=k2;have k3:Ans Tryd.prog 7 [.sl 1 [.pl (.int .u8 0)]] σ (.tup [.sl 4 [],Bo true]) σ:=k3;have m0:((((0:Nat):Int))==0)=true:=rfl;refine Ans.of_run t4 ?_;simp -implicitDefEqProofs only[c4,r4,go_sem];refine CO.intro k1 ?_;simp -implicitDefEqProofs only[go_sem,hl,u0,ha,j0];refine CO.intro k2 ?_;simp -implicitDefEqProofs only[go_sem,k0,q0,n0];refine CO.intro k3 ?_;simp -implicitDefEqProofs only[go_sem,hl,u0,j0];refine CD.intro kg ?_;simp -implicitDefEqProofs only[go_sem];refine CD.intro ks ?_;simp -implicitDefEqProofs only[go_sem,y0,m0];exact Fini.ret rfl
end
open Go.ChangeShapes Go.WideShapes Go.ChangeAt Go.RowKit
theorem z76 (x y:Byt):((⟨x.toArray⟩:ByteArray).toList==(⟨y.toArray⟩:ByteArray).toList)=decide (x=y):=by
 rw[Bool.eq_iff_iff,decide_eq_true_eq,beq_iff_eq];constructor
 · intro h;have:=congrArg (fun s:ByteArray=>s.data.toList) (toList_inj h)
   simpa using this
 · intro h;rw[h]
section
variable {H:Type} {enc:TypeId×Value→H} {W:World} {base:Nat} {v:Value} {d:DataW H} {ps:List MemPlace}
end
def revX (X:List Byt) (k:Nat):List Byt:=(List.range X.length).map fun i=>if i<k∨X.length≤i+k then X.getD (X.length-1-i) [] else X.getD i []
theorem z1n (X:List Byt) (k:Nat):(revX X k).length=X.length:=by simp[revX]
theorem z3k (X:List Byt) (k i:Nat) (h:i<X.length):(revX X k)[i]?=some (if i<k∨X.length≤i+k then X.getD (X.length-1-i) [] else X.getD i []):=by
 unfold revX;rw[List.getElem?_map,List.getElem?_range h];rfl
theorem z8Y (X:List Byt):revX X 0=X:=by
 refine List.ext_getElem? fun i=>?_
 by_cases h:i<X.length
 · rw[z3k X 0 i h,if_neg (by omega),List.getD_eq_getElem?_getD,List.getElem?_eq_getElem h];rfl
 · rw[List.getElem?_eq_none (by rw[z1n];omega),List.getElem?_eq_none (by omega)]
theorem zag (X:List Byt):revX X (X.length/2)=X.reverse:=by
 refine List.ext_getElem? fun i=>?_
 by_cases h:i<X.length
 · rw[z3k X _ i h,List.getElem?_reverse h];by_cases hc:i<X.length/2∨X.length≤i+X.length/2
   · rw[if_pos hc,List.getD_eq_getElem?_getD,List.getElem?_eq_getElem (by omega)];rfl
   · rw[if_neg hc,List.getD_eq_getElem?_getD,show X.length-1-i=i by omega,List.getElem?_eq_getElem h];rfl
 · rw[List.getElem?_eq_none (by rw[z1n];omega),List.getElem?_eq_none (by rw[List.length_reverse];omega)]
theorem z8Z (X:List Byt) (k:Nat) (h:2*k+2≤X.length):((revX X k).set k (X.getD (X.length-1-k) [])).set (X.length-1-k) (X.getD k [])=revX X (k+1):=by
 refine List.ext_getElem? fun i=>?_
 by_cases hi:i<X.length
 · rw[z3k X (k+1) i hi,List.getElem?_set,List.getElem?_set];simp only[List.length_set,z1n];by_cases h1:X.length-1-k=i
   · subst h1;rw[if_pos rfl,if_pos (by omega),if_pos (by omega),show X.length-1-(X.length-1-k)=k by omega]
   · rw[if_neg h1];by_cases h2:k=i
     · subst h2;rw[if_pos rfl,if_pos (by omega),if_pos (by omega)]
     · rw[if_neg h2,z3k X k i hi];by_cases h3:i<k∨X.length≤i+k
       · rw[if_pos h3,if_pos (by omega)]
       · rw[if_neg h3,if_neg (by omega)]
 · rw[List.getElem?_eq_none (by rw[List.length_set,List.length_set,z1n];omega),List.getElem?_eq_none (by rw[z1n];omega)]
theorem z90 (X:List Byt) (i:Nat) (b:Byt):(bsv X).set i (.sl 1 (byv b))=bsv (X.set i b):=by
 unfold bsv;rw[List.map_set]
section
variable (σ:St)
theorem z91 (l:Nat) (X:List Byt) (hX:X.length≤100000) (hl:σ[l]?=some (.row 1 (bsv X))):Ans Tryd.prog 22 [.osl l X.length] σ (.tup []) (σ.set l (.row 1 (bsv X.reverse))):=by
 have m0:l<σ.length:=by
  rcases Nat.lt_or_ge l σ.length with h|h
  · exact h
  · rw[List.getElem?_eq_none h]at hl;cases hl
 have f0:=z1i X;have ws:IntKind.i64.wrap (((X.length:Nat):Int)-1)=((X.length:Nat):Int)-1:=wrapN (by omega) (by omega)
 have u0:∀Y:St→Ob,(σ.set l (.row 1 (bsv (revX X 0))))=σ:=fun _=>by
  rw[z8Y];refine List.ext_getElem? fun i=>?_
  rw[List.getElem?_set];split
  · rename_i e;subst e;rw[hl]
  · rfl
 refine Ans.of_run t22 ?_;simp -implicitDefEqProofs only[c22,r22,go_sem,hl,f0,ws];refine Go.Ab.L.count (X.length/2) (fun k=>mkE 28 [(0,.osl l X.length),(2,I k),(3,I ((X.length:Int)-1-k))]) (fun k=>σ.set l (.row 1 (bsv (revX X k)))) ?_ ?_ (by simp -implicitDefEqProofs only[mkE,go_sem];rw[show((X.length:Int)-1-((0:Nat):Int))=(X.length:Int)-1 by omega];rfl) (u0 fun _=>.dead).symm
 · intro k hk J hJ;have h2:2*k+2≤X.length:=by omega
   have ej:(X.length:Int)-1-k=((X.length-1-k:Nat):Int):=by omega
   have t0:(X.length:Int)-1-((k+1:Nat):Int)=((X.length-1-(k+1):Nat):Int):=by omega
   have hd:decide ((k:Int)<((X.length-1-k:Nat):Int))=true:=decide_eq_true (by omega)
   have j0:((k:Int)<((X.length:Nat):Int))=True:=eq_true (by omega)
   have d0:(((X.length-1-k:Nat):Int)<((X.length:Nat):Int))=True:=eq_true (by omega)
   have k0:∀ob:Ob,(σ.set l ob)[l]?=some ob:=fun ob=>List.getElem?_set_self m0
   have e0:∀a b:Ob,(σ.set l a).set l b=σ.set l b:=fun a b=>List.set_set ..
   have q0:(bsv (revX X k)).length=X.length:=by rw[z1i,z1n]
   have gk:(bsv (revX X k))[k]?=some (.sl 1 (byv (X.getD k []))):=by
    rw[z23 _ k (by rw[z1n];omega)]
    have:=z3k X k k (by omega)
    rw[List.getElem?_eq_getElem (by rw[z1n];omega),if_neg (by omega)]at this
    rw[Option.some.inj this]
   have gj:(bsv (revX X k))[X.length-1-k]?=some (.sl 1 (byv (X.getD (X.length-1-k) []))):=by
    rw[z23 _ (X.length-1-k) (by rw[z1n];omega)]
    have:=z3k X k (X.length-1-k) (by omega)
    rw[List.getElem?_eq_getElem (by rw[z1n];omega),if_neg (by omega)]at this
    rw[Option.some.inj this]
   have n0:((bsv (revX X k)).set k (.sl 1 (byv (X.getD (X.length-1-k) [])))).set (X.length-1-k) (.sl 1 (byv (X.getD k [])))=bsv (revX X (k+1)):=by
    rw[z90,z90,z8Z X k h2]
   have r0:((bsv (revX X k)).set k (.sl 1 (byv (X.getD (X.length-1-k) []))))[X.length-1-k]?=some (.sl 1 (byv (X.getD (X.length-1-k) []))):=by
    rw[List.getElem?_set_ne (by omega)];exact gj
   have y0:((bsv (revX X k)).set k (.sl 1 (byv (X.getD (X.length-1-k) [])))).length=X.length:=by rw[List.length_set,q0]
   have wi:IntKind.i64.wrap ((k:Int)+1)=((k+1:Nat):Int):=wrap_succ (i:=k) (by omega)
   have wj:IntKind.i64.wrap (((X.length-1-k:Nat):Int)-1)=((X.length-1-(k+1):Nat):Int):=by
    rw[show((X.length-1-k:Nat):Int)-1=((X.length-1-(k+1):Nat):Int) by omega];exact wrapI (by omega)
   rw[t0]at hJ;rw[ej];generalize revX X k=R at *;generalize X.getD k []=xk at *;generalize X.getD (X.length-1-k) []=xj at *;rw[←n0]at hJ;simp -implicitDefEqProofs only[mkE,go_sem,hd,k0,e0,q0,y0,j0,d0,gk,gj,r0,wi,wj];exact hJ
 · intro J;have hd:decide (((X.length/2:Nat):Int)<(X.length:Int)-1-((X.length/2:Nat):Int))=false:=decide_eq_false (by omega)
   rw[zag];simp -implicitDefEqProofs only[mkE,go_sem,hd];exact Fini.normal rfl
theorem z5L (a b:Byt):Ans Tryd.prog 21 [.sl 1 (byv a),.sl 1 (byv b)] σ (Bo (decide (a=b))) σ:=by
 refine Ans.of_run t21 ?_;simp -implicitDefEqProofs only[c21,r21,go_sem,z1s,bc,z18,z0X,AV.isStr,z76];exact Fini.ret rfl
theorem z4G (o:Int) (b x:Byt) {L:List RcM} (hb:b.length≤40000) (h:rdE b=some L) (hx:x∈imB o L) (hG:∀ex,gloA (σ++ex) 0=some kV) :
  Ans Tryd.prog 11 [I o,.sl 1 (byv b),.sl 1 (byv x)] σ (Bo true) σ:=by
 have k:=z27 σ (o:=o) hb h hG;obtain⟨-,-,hn⟩:=z2g (by omega) h
 have u0:=z2I o L;have hl:(bsv (imB o L)).length=L.length+1:=by rw[z1i,u0]
 refine Ans.of_run' t11 (fun y0 _=>?_)
 simp -implicitDefEqProofs only[c11,r11,go_sem];refine CO.intro k ?_;simp -implicitDefEqProofs only[go_sem];refine Go.Ab.L.intro (α:={ i:Nat // ∀j,j<i→(imB o L).getD j []≠x }) (fun i=>L.length+1-i.1) (fun i=>mkE 30 [(2,.sl 1 (byv x)),(7,.osl σ.length (L.length+1)),(9,I i.1)]) (fun _=>σ++[.row 1 (bsv (imB o L))]) ?_ ⟨0,fun j hj=>absurd hj (Nat.not_lt_zero _)⟩ rfl rfl
 rintro⟨i,hi⟩ J hJ;simp only at hJ⊢
 have hlt:i<L.length+1:=by
  rcases Nat.lt_or_ge i (L.length+1) with h|h
  · exact h
  · obtain⟨j,hj,e⟩:=List.getElem_of_mem hx;rw[u0]at hj;exact absurd (by rw[List.getD_eq_getElem?_getD,List.getElem?_eq_getElem (by rw[u0];exact hj)];exact e) (hi j (by omega))
 have hd:decide ((i:Int)<((L.length+1:Nat):Int))=true:=decide_eq_true (by omega)
 have k0:((i:Int)<((L.length+1:Nat):Int))=True:=eq_true (by omega)
 have q0:(bsv (imB o L))[i]?=some (.sl 1 (byv ((imB o L).getD i []))):=by
  rw[z23 _ i (by rw[u0];omega),List.getD_eq_getElem?_getD,List.getElem?_eq_getElem (by rw[u0];omega)];rfl
 have wi:IntKind.i64.wrap ((i:Int)+1)=((i+1:Nat):Int):=wrap_succ (i:=i) (by omega)
 by_cases he:(imB o L).getD i []=x
 · rw[he]at q0;simp -implicitDefEqProofs only[mkE,go_sem,g0,hl,hd,k0,q0,z1s,bc,z18,z0X,AV.isStr,BEq.rfl];exact Fini.trim2 (σ':=σ) (ex:=[_]) rfl rfl (Nat.le_refl _) (.pl _) y0
 · have j0:=hJ ⟨i+1,fun j hj=>by
    rcases Nat.lt_or_eq_of_le (Nat.lt_succ_iff.1 hj) with h|rfl
    · exact hi j h
    · exact he⟩ (by simp only;omega)
   simp only at j0;have ht:=z76 ((imB o L).getD i []) x;rw[decide_eq_false he]at ht;simp -implicitDefEqProofs only[mkE,go_sem,g0,hl,hd,k0,q0,z1s,bc,z18,z0X,AV.isStr,ht,wi];exact j0
def extV:Option (Byt×Byt)→AV
 |none=>.tup [.nils,.nils,Bo false]
 |some (x,y)=>.tup [.sl 1 (byv x),.sl 1 (byv y),Bo true]
theorem zcS {X Y:List Byt} {q:Byt×Byt} (h:unl X Y=some q):0<X.length∧0<Y.length:=by
 cases X with
 |nil=>simp[unl]at h
 |cons x X=>cases Y with
  |nil=>simp[unl]at h
  |cons y Y=>simp
theorem zah {X Y:List Byt} {i:Nat} {q:Byt×Byt} (h:unl (X.drop i) (Y.drop i)=some q):∃(h1:i<X.length) (h2:i<Y.length),
  (X[i]=Y[i]→unl (X.drop (i+1)) (Y.drop (i+1))=some q)∧(X[i]≠Y[i]→q=(X[i],Y[i])):=by
 have h0:=zcS h;simp only[List.length_drop]at h0;refine⟨by omega,by omega,?_,?_⟩
 all_goals
  rw[List.drop_eq_getElem_cons (by omega:i<X.length),List.drop_eq_getElem_cons (by omega:i<Y.length)]at h
  intro e;unfold unl at h
 · rw[if_pos e]at h;exact h
 · rw[if_neg e]at h;exact(Option.some.inj h).symm
theorem zbJ (o p:Int) (a c:Byt) (ho:inI64 o) (hp:inI64 p) (ha:a.length≤40000) (hc:c.length≤40000) (hG:∀ex,gloA (σ++ex) 0=some kV) :
  Ans Tryd.prog 10 [I o,.sl 1 (byv a),I p,.sl 1 (byv c)] σ (extV (extO o a p c)) σ:=by
 have k1:=z1w σ o a ha hG;have k2:=z1w σ p c hc hG;have l1:=z3L o (rdE a);have l2:=z3L p (rdE c);have eqv:=z54 32 (vfyH o (rdE a)) (vfyH p (rdE c)) l1 l2;simp only[List.reduceReplicate]at eqv;have m1:=z05 (vfyH o (rdE a));have m2:=z05 (vfyH p (rdE c));have a1:(byv (vfyH o (rdE a))).all AV.one=true:=Sha.bv_all _;have a2:(byv (vfyH p (rdE c))).all AV.one=true:=Sha.bv_all _;have t1:List.take 32 (byv (vfyH o (rdE a)))=byv (vfyH o (rdE a)):=List.take_of_length_le (by rw[m1,l1];exact Nat.le_refl _)
 have t2:List.take 32 (byv (vfyH p (rdE c)))=byv (vfyH p (rdE c)):=List.take_of_length_le (by rw[m2,l2];exact Nat.le_refl _)
 have k3:=z5L σ a c;by_cases hs:sees2 o a p c
 case neg =>
  rw[z73 hs];unfold extV
  have r0:(rdE a).isSome=true→(rdE c).isSome=true→(vfyH o (rdE a)==vfyH p (rdE c))=true→(o==p)=true∧decide (a=c)=true:=by
   intro h1 h2 h3
   cases e1:rdE a with
   |none=>rw[e1]at h1;cases h1
   |some L =>
    cases e2:rdE c with
    |none=>rw[e2]at h2;cases h2
    |some M =>
     rw[e1,e2]at h3;have h4:hdL o L=hdL p M:=by simpa[vfyH] using h3
     have h5:o=p∧a=c:=Classical.byContradiction fun h=>hs ⟨L,M,e1,e2,h4,h⟩
     exact⟨by simp[h5.1],by simp[h5.2]⟩
  unfold vfyV at k1 k2;generalize (rdE a).isSome=A at *;generalize (rdE c).isSome=B at *;generalize vfyH o (rdE a)=H1 at *;generalize vfyH p (rdE c)=H2 at *;generalize (H1==H2)=Q at *;refine Ans.of_run t10 ?_;simp -implicitDefEqProofs only[c10,r10,go_sem];refine CO.intro k1 ?_;simp -implicitDefEqProofs only[go_sem,m1,l1,a1];refine CO.intro k2 ?_;simp -implicitDefEqProofs only[go_sem,m2,l2,a2]
  cases A with
  |false=>simp -implicitDefEqProofs only[go_sem];exact Fini.ret rfl
  |true =>
   cases B with
   |false=>simp -implicitDefEqProofs only[go_sem];exact Fini.ret rfl
   |true =>
    cases Q with
    |false=>simp -implicitDefEqProofs only[go_sem,m1,l1,t1,m2,l2,t2,eqv];exact Fini.ret rfl
    |true =>
     obtain⟨h1,h2⟩:=r0 rfl rfl rfl;rw[h2]at k3;simp -implicitDefEqProofs only[go_sem,m1,l1,t1,m2,l2,t2,eqv,h1];refine CO.intro k3 ?_;simp -implicitDefEqProofs only[go_sem];exact Fini.ret rfl
 obtain⟨L,M,e1,e2,hh,m0⟩:=hs;obtain⟨x,y,j0,hu,hxy,hsh,hxm,hym⟩:=z74 ho hp (by omega) (by omega) e1 e2 hh m0
 rw[j0];unfold extV;simp only;have hq:(vfyH o (rdE a)==vfyH p (rdE c))=true:=by rw[e1,e2];simp[vfyH,hh]
 rw[hq]at eqv;have i1:=z27 σ (o:=o) ha e1 hG;have i2:=z27 (σ++[.row 1 (bsv (imB o L))]) (o:=p) hc e2 (fun ex=>by rw[List.append_assoc];exact hG _)
 rw[List.append_assoc,List.length_append]at i2;simp only[List.length_cons,List.length_nil,Nat.zero_add,List.cons_append,List.nil_append]at i2;have n1:=z2I o L;have n2:=z2I p M;obtain⟨-,-,hn1⟩:=z2g (by omega) e1
 obtain⟨-,-,hn2⟩:=z2g (by omega) e2
 have r1:=z91 (σ++[.row 1 (bsv (imB o L)),.row 1 (bsv (imB p M))]) σ.length (imB o L) (by omega) (g0 _ _ _)
 rw[s0,n1]at r1;have r2:=z91 (σ++[.row 1 (bsv (imB o L).reverse),.row 1 (bsv (imB p M))]) (σ.length+1) (imB p M) (by omega) (g1 _ _ _ _)
 rw[s1,n2]at r2;unfold vfyV at k1 k2;rw[e1]at k1;rw[e2]at k2;rw[e1]at m1 l1 a1 t1 eqv;rw[e2]at m2 l2 a2 t2 eqv;simp only[Option.isSome_some]at k1 k2;have hu:unl ((imR o L).drop 0) ((imR p M).drop 0)=some (x,y):=hu;have c1:(imR o L).length=L.length+1:=by unfold imR;rw[List.length_reverse,n1]
 have c2:(imR p M).length=M.length+1:=by unfold imR;rw[List.length_reverse,n2]
 change Ans Tryd.prog 22 _ _ _ (σ++[.row 1 (bsv (imR o L)),.row 1 (bsv (imB p M))]) at r1;change Ans Tryd.prog 22 _ (σ++[.row 1 (bsv (imR o L)),.row 1 (bsv (imB p M))]) _ (σ++[.row 1 (bsv (imR o L)),.row 1 (bsv (imR p M))]) at r2;have d1:(bsv (imR o L)).length=L.length+1:=by rw[z1i,c1]
 have d2:(bsv (imR p M)).length=M.length+1:=by rw[z1i,c2]
 generalize imR o L=RX at *;generalize imR p M=RY at *;generalize bsv (imB o L)=BX at *;generalize bsv (imB p M)=BY at *;generalize vfyH o (some L)=H1 at *;generalize vfyH p (some M)=H2 at *;have y0:(if(((M.length+1:Nat):Int))<((L.length+1:Nat):Int) then((M.length+1:Nat):Int) else((L.length+1:Nat):Int))=((min (L.length+1) (M.length+1):Nat):Int):=by split<;>omega
 refine Ans.of_run' t10 (fun q0 _=>?_)
 simp -implicitDefEqProofs only[c10,r10,go_sem];refine CO.intro k1 ?_;simp -implicitDefEqProofs only[go_sem,m1,l1,a1];refine CO.intro k2 ?_;simp -implicitDefEqProofs only[go_sem,m2,l2,a2,m1,l1,t1,t2,eqv]
 have n0:(o==p)=false∨((o==p)=true∧decide (a=c)=false):=by
  by_cases h1:o=p
  · exact .inr ⟨by simp[h1],decide_eq_false fun h2=>m0 ⟨h1,h2⟩⟩
  · exact .inl (by simp[h1])
 rcases n0 with hE|⟨hE,hF⟩
 case' inl=>simp -implicitDefEqProofs only[go_sem,hE]
 case' inr =>
  rw[hF]at k3;simp -implicitDefEqProofs only[go_sem,hE];refine CO.intro k3 ?_;simp -implicitDefEqProofs only[go_sem]
 all_goals
  refine CO.intro i1 ?_;simp -implicitDefEqProofs only[go_sem];refine CO.intro i2 ?_;simp -implicitDefEqProofs only[go_sem];refine CO.intro r1 ?_;simp -implicitDefEqProofs only[go_sem];refine CO.intro r2 ?_;simp -implicitDefEqProofs only[go_sem,g0,g1,d1,d2,y0]
  refine Go.Ab.L.intro (α:={ i:Nat // unl (RX.drop i) (RY.drop i)=some (x,y) }) (fun i=>L.length+1-i.1) (fun i=>mkE 96 [(15,.osl σ.length (L.length+1)),(17,.osl (σ.length+1) (M.length+1)),(73,I (min (L.length+1) (M.length+1):Nat)),(74,I i.1)])
   (fun _=>σ++[.row 1 (bsv RX),.row 1 (bsv RY)]) ?_ ⟨0,hu⟩ rfl rfl
  rintro⟨i,hi⟩ J hJ;simp only at hJ⊢;obtain⟨j1,j2,u1,u2⟩:=zah hi;have hd:decide ((i:Int)<((min (L.length+1) (M.length+1):Nat):Int))=true:=decide_eq_true (by omega)
  have q1:((i:Int)<((L.length+1:Nat):Int))=True:=eq_true (by omega)
  have q2:((i:Int)<((M.length+1:Nat):Int))=True:=eq_true (by omega)
  have x1:=z23 RX i j1;have x2:=z23 RY i j2;have wi:IntKind.i64.wrap ((i:Int)+1)=((i+1:Nat):Int):=wrap_succ (i:=i) (by omega)
  have u0:=fun s=>z5L s RX[i] RY[i]
  by_cases he:RX[i]=RY[i]
  · have k0:=hJ ⟨i+1,u1 he⟩ (by simp only;omega)
    simp only at k0;rw[decide_eq_true he]at u0;generalize RX[i]=vx at *;generalize RY[i]=vy at *;simp -implicitDefEqProofs only[mkE,go_sem,hd,g0,g1,d1,d2,q1,q2,x1,x2];refine CD.intro (u0 _) ?_;simp -implicitDefEqProofs only[go_sem,g0,g1,d1,d2,q1,q2,x1,x2,wi];exact k0
  · have hq:=u2 he;rw[decide_eq_false he]at u0;obtain⟨rfl,rfl⟩:=Prod.mk.inj hq;generalize hvx:RX[i]=vx at *;generalize hvy:RY[i]=vy at *;simp -implicitDefEqProofs only[mkE,go_sem,hd,g0,g1,d1,d2,q1,q2,x1,x2];refine CD.intro (u0 _) ?_;simp -implicitDefEqProofs only[go_sem,g0,g1,d1,d2,q1,q2,x1,x2]
    exact Fini.trim2 (σ':=σ) (ex:=[_,_]) rfl rfl (Nat.le_refl _) (.tup _ fun k hk=>by
     match k,hk with
     |0,_=>exact z1y _ _
     |1,_=>exact z1y _ _
     |2,_=>exact .pl _) q0
end
section
variable (σ:St)
theorem z6q (o p:Int) (a c:Byt) (ho:inI64 o) (hp:inI64 p) (ha:a.length≤40000) (hc:c.length≤40000) (hG:∀ex,gloA (σ++ex) 0=some kV) :
  Ans Tryd.prog 5 [I o,.sl 1 (byv a),I p,.sl 1 (byv c)] σ (Bo true) σ:=by
 have k1:=z1w σ o a ha hG;have k2:=z1w σ p c hc hG;have k3:=zbJ σ o p a c ho hp ha hc hG;have l1:=z3L o (rdE a);have l2:=z3L p (rdE c);have eqv:=z54 32 (vfyH o (rdE a)) (vfyH p (rdE c)) l1 l2;simp only[List.reduceReplicate]at eqv;have m1:=z05 (vfyH o (rdE a));have m2:=z05 (vfyH p (rdE c));have a1:(byv (vfyH o (rdE a))).all AV.one=true:=Sha.bv_all _;have a2:(byv (vfyH p (rdE c))).all AV.one=true:=Sha.bv_all _;have t1:List.take 32 (byv (vfyH o (rdE a)))=byv (vfyH o (rdE a)):=List.take_of_length_le (by rw[m1,l1];exact Nat.le_refl _)
 have t2:List.take 32 (byv (vfyH p (rdE c)))=byv (vfyH p (rdE c)):=List.take_of_length_le (by rw[m2,l2];exact Nat.le_refl _)
 have tx:=z76 a c;by_cases hs:sees2 o a p c
 case neg =>
  rw[z73 hs]at k3;unfold extV at k3
  have f0:(rdE a).isSome=true→(rdE c).isSome=true→(vfyH o (rdE a)==vfyH p (rdE c))=true→(o==p)=true∧decide (a=c)=true:=by
   intro h1 h2 h3
   cases e1:rdE a with
   |none=>rw[e1]at h1;cases h1
   |some L =>
    cases e2:rdE c with
    |none=>rw[e2]at h2;cases h2
    |some M =>
     rw[e1,e2]at h3;have h4:hdL o L=hdL p M:=by simpa[vfyH] using h3
     have h5:o=p∧a=c:=Classical.byContradiction fun h=>hs ⟨L,M,e1,e2,h4,h⟩
     exact⟨by simp[h5.1],by simp[h5.2]⟩
  unfold vfyV at k1 k2;generalize (rdE a).isSome=A at *;generalize (rdE c).isSome=B at *;generalize vfyH o (rdE a)=H1 at *;generalize vfyH p (rdE c)=H2 at *;generalize (H1==H2)=Q at *;have u0:((0:Int)==0)=true:=rfl;refine Ans.of_run t5 ?_;simp -implicitDefEqProofs only[c5,r5,go_sem];refine CO.intro k1 ?_;simp -implicitDefEqProofs only[go_sem,m1,l1,a1];refine CO.intro k2 ?_;simp -implicitDefEqProofs only[go_sem,m2,l2,a2];refine CO.intro k3 ?_;simp -implicitDefEqProofs only[go_sem]
  cases A with
  |false=>simp -implicitDefEqProofs only[go_sem,u0];exact Fini.ret rfl
  |true =>
   cases B with
   |false=>simp -implicitDefEqProofs only[go_sem,u0];exact Fini.ret rfl
   |true =>
    cases Q with
    |false=>simp -implicitDefEqProofs only[go_sem,m1,l1,t1,m2,l2,t2,eqv,u0];exact Fini.ret rfl
    |true =>
     obtain⟨h1,h2⟩:=f0 rfl rfl rfl;rw[h2]at tx;simp -implicitDefEqProofs only[go_sem,m1,l1,t1,m2,l2,t2,eqv,h1,z1s,bc,z18,z0X,AV.isStr,tx,u0];exact Fini.ret rfl
 obtain⟨L,M,e1,e2,hh,n0⟩:=hs;obtain⟨x,y,j0,hu,t0,d0,m0,k0⟩:=z74 ho hp (by omega) (by omega) e1 e2 hh n0
 rw[j0]at k3;unfold extV at k3;simp only at k3;have hq:(vfyH o (rdE a)==vfyH p (rdE c))=true:=by rw[e1,e2];simp[vfyH,hh]
 rw[hq]at eqv;have h0:∀r∈L,r.bd.length≤40000:=fun r hr=>by have:=z75 (by omega) e1 r hr;omega
 have r0:∀r∈M,r.bd.length≤40000:=fun r hr=>by have:=z75 (by omega) e2 r hr;omega
 have hxl:=z3K o L h0 x m0;have hyl:=z3K p M r0 y k0;have s1:Ans Tryd.prog 8 [.sl 1 (byv x)] σ (.agg (byv (shaB x))) σ:=Sha.sha_ans σ x (by omega) hG
 have s2:Ans Tryd.prog 8 [.sl 1 (byv y)] σ (.agg (byv (shaB y))) σ:=Sha.sha_ans σ y (by omega) hG
 rw[←d0]at s2;have h1:=z4G σ o a x ha e1 m0 hG;have h2:=z4G σ p c y hc e2 k0 hG;have y0:=z76 x y;rw[decide_eq_false t0]at y0;have q0:=z54 32 (shaB x) (shaB x) (z0H _) (z0H _);rw[beq_self_eq_true]at q0;simp only[List.reduceReplicate]at q0;have dl:=z05 (shaB x);have d32:(shaB x).length=32:=z0H _;unfold vfyV at k1 k2;rw[e1]at k1;rw[e2]at k2;rw[e1]at m1 l1 a1 t1 eqv;rw[e2]at m2 l2 a2 t2 eqv;simp only[Option.isSome_some]at k1 k2;generalize vfyH o (some L)=H1 at *;generalize vfyH p (some M)=H2 at *;generalize shaB x=D at *;refine Ans.of_run t5 ?_;simp -implicitDefEqProofs only[c5,r5,go_sem];refine CO.intro k1 ?_;simp -implicitDefEqProofs only[go_sem,m1,l1,a1];refine CO.intro k2 ?_;simp -implicitDefEqProofs only[go_sem,m2,l2,a2];refine CO.intro k3 ?_
 have e0:(o==p)=false∨((o==p)=true∧decide (a=c)=false):=by
  by_cases h1:o=p
  · exact .inr ⟨by simp[h1],decide_eq_false fun h2=>n0 ⟨h1,h2⟩⟩
  · exact .inl (by simp[h1])
 rcases e0 with hE|⟨hE,hF⟩
 case' inl=>simp -implicitDefEqProofs only[go_sem,m1,l1,t1,m2,l2,t2,eqv,hE,z1s,bc,z18,z0X,AV.isStr,y0]
 case' inr =>
  rw[hF]at tx;simp -implicitDefEqProofs only[go_sem,m1,l1,t1,m2,l2,t2,eqv,hE,z1s,bc,z18,z0X,AV.isStr,tx,y0]
 all_goals
  refine CO.intro s1 ?_;simp -implicitDefEqProofs only[go_sem];refine CO.intro s2 ?_;simp -implicitDefEqProofs only[go_sem,q0];refine CO.intro h1 ?_;simp -implicitDefEqProofs only[go_sem];refine CO.intro h2 ?_;simp -implicitDefEqProofs only[go_sem];exact Fini.ret rfl
end
end Go.Proofs.YteakobbdgehlgaaDoor
