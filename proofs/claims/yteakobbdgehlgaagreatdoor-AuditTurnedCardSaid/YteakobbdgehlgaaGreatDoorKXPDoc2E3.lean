/- The parser of patterns: ways, and the whole. No condition. -/
import Derived.Test.YteakobbdgehlgaaGreatDoorKXPPar6E3
import Derived.Test.YteakobbdgehlgaaGreatDoorKXVi3E3
import GoSem.Extern.BytealgCompare
import Derived.Laws.Strings
set_option linter.unusedSimpArgs false
set_option linter.unusedVariables false
set_option linter.unusedSectionVars false
set_option maxRecDepth 100000
set_option maxHeartbeats 800000
namespace Go.Proofs.YteakobbdgehlgaaGreatDoor
open Go Go.Ab
open Rex
abbrev box0:Ob:=.box [I 0,U 0,U 0,U 0,U 0,.nils]
def exK (K:List Rex):St:=box0::(if K.isEmpty then[] else[.row 6 (K.map rv)])
def vK (l:Nat) (K:List Rex):AV:=if K.isEmpty then .nils else .osl (l+1) K.length
theorem z0E (x:Rex) (K:List Rex):exK (x::K)=[box0,.row 6 ((x::K).map rv)]:=rfl
theorem z0Z (l:Nat) (x:Rex) (K:List Rex):vK l (x::K)=.osl (l+1) (K.length+1):=rfl
theorem z3H:exK []=[box0]:=rfl
theorem z4Z (l:Nat):vK l []=.nils:=rfl
theorem z5i (K:List Rex) (x:Rex):exK (K++[x])=[box0,.row 6 (K.map rv++[x.rv])]:=by
 cases K with
 |nil=>rfl
 |cons y K=>simp[exK]
theorem z7t (l:Nat) (K:List Rex) (x:Rex):vK l (K++[x])=.osl (l+1) (K.length+1):=by
 cases K with
 |nil=>rfl
 |cons y K=>simp[vK]
theorem z1t (op:Int) (y z:Rex) (K:List Rex):(one op (y::z::K)).rv=.agg [I op,U 0,U 0,U 0,U 0,.sl 6 ((y::z::K).map rv)]:=by
 show Rex.rv (.mk op 0 0 0 0 (y::z::K))=_;rw[rv,z7r]
theorem z3m {n:Nat} {x:AV} (h:Bel n x) (b:Bool):Bel n (.tup [x,Bo b]):=by
 refine .tup _ fun i hi=>?_
 have:∀y∈[x,Bo b],Bel n y:=by
  intro y hy;simp only[List.mem_cons,List.not_mem_nil,or_false]at hy;rcases hy with rfl|rfl
  · exact h
  · exact .pl _
 exact this _ (List.getElem_mem hi)
section
variable (s:ByteArray)
theorem zd4 (F:PF) (d:Nat) (hF:FAns 183 [I d] s F) (hfw:Fwd F) (he:Eats s F):FAns 177 [I d] s (pway s F):=by
 intro σ p a b hp hs;refine Ans.of_run' t177 (fun k0 _=>?_)
 have q0:=z4X k0;simp -implicitDefEqProofs only[c177,r177,go_sem,List.append_assoc,List.length_append,List.length_set];unfold pway;simp only;have hm:s.size-a<s.size+1:=by omega
 generalize j0:pwayL s F (s.size+1) [] a b=res
 refine L.intro (α:={ x:Nat×List Rex×Nat×Bool // pwayL s F x.1 x.2.1 x.2.2.1 x.2.2.2=res∧s.size-x.2.2.1<x.1∧(x.2.2.2=true∨s.size≤40)∧x.2.1.length≤x.2.2.1 })
  (fun x=>x.1.1)
  (fun x=>mkE 33 [(0,.ptr p 0),(1,I d),(4,.ptr σ.length 0),(5,vK σ.length x.1.2.1)])
  (fun x=>σ.set p (pob s x.1.2.2.1 x.1.2.2.2)++exK x.1.2.1)
  (fun x J hJ=>?_) ⟨(s.size+1,[],a,b),j0,hm,hs,Nat.zero_le _⟩ ?_ ?_
 · obtain⟨⟨n,K,a1,b1⟩,h1,h2,h3,h4⟩:=x;simp only at h1 h2 h3 h4 hJ⊢
   cases n with
   |zero=>omega
   |succ n =>
   rw[pwayL]at h1
   cases hgo:wGo s a1 b1 with
   |true =>
    rw[hgo,if_pos rfl]at h1;obtain⟨ha,hb⟩:=zgD hgo;subst hb;have n0:over s a1 false=false:=by simp[wGo]at hgo;exact hgo.1
    have r0:sees s a1 false 124=false:=by simp[wGo]at hgo;exact hgo.2.1
    have t0:sees s a1 false 41=false:=by simp[wGo]at hgo;exact hgo.2.2
    have hsz:s.size≤40:=by
     rcases h3 with h|h
     · exact absurd h Bool.false_ne_true
     · exact h
    have m0:=he a1 false n0;have y0:=hJ ⟨(n,K++[(F a1 false).1],(F a1 false).2.1,(F a1 false).2.2),h1,by simp only;omega,.inr hsz,by simp;omega⟩ (Nat.lt_succ_self n)
    simp only[z5i,z7t]at y0;clear hJ h1 hgo;simp -implicitDefEqProofs only[mkE,go_sem];refine CO.intro (z7s hp a1 false _) ?_;simp -implicitDefEqProofs only[go_sem,n0];refine CO.intro (z5W hp a1 false 124 _) ?_;simp -implicitDefEqProofs only[go_sem,r0];refine CO.intro (z5W hp a1 false 41 _) ?_;simp -implicitDefEqProofs only[go_sem,t0];refine CO.intro (hF.ex hp a1 false (.inr hsz) _) ?_;generalize F a1 false=w at y0 m0⊢;obtain⟨x,a2,b2⟩:=w;simp only at y0 m0⊢;rw[rv_eq x]at y0⊢;rcases K with _|⟨y,K⟩
    all_goals rcases rvK_cases x.ks with hK|⟨l,hK⟩
    all_goals rw[hK]at y0⊢
    all_goals first
    |(simp -implicitDefEqProofs only[go_sem,z3H,z4Z,gA hp,sA hp,gL0,sL0,gL1,sL1]at y0⊢
      simpa[mkE] using y0)
    |(have g1:(K.length+1+1≤2^32)=True:=by simp at h4;simp;omega
      simp -implicitDefEqProofs only[go_sem,z0E,z0Z,gA hp,sA hp,gL0,sL0,gL1,sL1,List.length_map,g1]at y0⊢
      simpa[mkE] using y0)
   |false =>
    rw[hgo,if_neg Bool.false_ne_true]at h1;subst h1;clear hJ h2
    have hex:over s a1 b1=true∨(over s a1 b1=false∧sees s a1 b1 124=true)∨(over s a1 b1=false∧sees s a1 b1 124=false∧sees s a1 b1 41=true):=by
     unfold wGo at hgo;cases h1:over s a1 b1<;>cases h2:sees s a1 b1 124<;>cases h3:sees s a1 b1 41<;>simp[h1,h2,h3]at hgo⊢
    rcases hex with ho|⟨ho,h5⟩|⟨ho,h5,h6⟩
    · simp -implicitDefEqProofs only[mkE,go_sem];refine CO.intro (z7s hp a1 b1 _) ?_;simp -implicitDefEqProofs only[go_sem,ho];rcases K with _|⟨y,_|⟨z,K⟩⟩
      · simp -implicitDefEqProofs only[go_sem,z3H,z4Z,gA hp,sA hp,gL0,sL0,gL1,sL1];refine Fini.trim2 (ex:=[_]) ?_ rfl ?_ (z0f _ _) (q0 _ _)
        · ((try simp -implicitDefEqProofs only[go_sem,resA,z03,rvA,oneOf,gL0]);first|done|rfl|(rw[z1t];rfl)|rw[rv_eq,hK]|(simp only[rv,rvK,rvL];rw[rv_eq,hK]))
        · simp
      · have g3:(((1:Nat):Int)==1)=true:=rfl;have g4:((0:Int)<((1:Nat):Int))=True:=by simp
        have u0:∀n,Bel n y.rv:=fun n=>z0f n y
        rw[z0E,z0Z,List.map_cons,List.map_nil,show(one 2 [y])=y from rfl]
        rw[rv_eq y]at u0⊢;rcases rvK_cases y.ks with hK|⟨l,hK⟩
        all_goals rw[hK]at u0⊢
        all_goals simp -implicitDefEqProofs only[go_sem,gA hp,sA hp,gL0,sL0,gL1,sL1,List.length_map,g3,g4,Int.toNat_zero]
        all_goals (
         refine Fini.trim2 (ex:=[_,_]) ?_ rfl ?_ (u0 _) (q0 _ _)
         · ((try simp -implicitDefEqProofs only[go_sem,resA,z03,rvA,oneOf,gL0]);first|done|rfl|(rw[z1t];rfl)|rw[rv_eq,hK]|(simp only[rv,rvK,rvL];rw[rv_eq,hK]))
         · simp)
      · rw[z0E,z0Z];have g2:(((K.length+1+1:Nat):Int)==1)=false:=by simp;omega
        simp -implicitDefEqProofs only[go_sem,gA hp,sA hp,gL0,sL0,gL1,sL1,List.length_map,g2];refine Fini.trim2 (ex:=[_,_]) ?_ rfl ?_ (z0f _ _) (q0 _ _)
        · ((try simp -implicitDefEqProofs only[go_sem,resA,z03,rvA,oneOf,gL0]);first|done|rfl|(rw[z1t];rfl)|rw[rv_eq,hK]|(simp only[rv,rvK,rvL];rw[rv_eq,hK]))
        · simp
    · simp -implicitDefEqProofs only[mkE,go_sem];refine CO.intro (z7s hp a1 b1 _) ?_;simp -implicitDefEqProofs only[go_sem,ho];refine CO.intro (z5W hp a1 b1 124 _) ?_;simp -implicitDefEqProofs only[go_sem,h5];rcases K with _|⟨y,_|⟨z,K⟩⟩
      · simp -implicitDefEqProofs only[go_sem,z3H,z4Z,gA hp,sA hp,gL0,sL0,gL1,sL1];refine Fini.trim2 (ex:=[_]) ?_ rfl ?_ (z0f _ _) (q0 _ _)
        · ((try simp -implicitDefEqProofs only[go_sem,resA,z03,rvA,oneOf,gL0]);first|done|rfl|(rw[z1t];rfl)|rw[rv_eq,hK]|(simp only[rv,rvK,rvL];rw[rv_eq,hK]))
        · simp
      · have g3:(((1:Nat):Int)==1)=true:=rfl;have g4:((0:Int)<((1:Nat):Int))=True:=by simp
        have u0:∀n,Bel n y.rv:=fun n=>z0f n y
        rw[z0E,z0Z,List.map_cons,List.map_nil,show(one 2 [y])=y from rfl]
        rw[rv_eq y]at u0⊢;rcases rvK_cases y.ks with hK|⟨l,hK⟩
        all_goals rw[hK]at u0⊢
        all_goals simp -implicitDefEqProofs only[go_sem,gA hp,sA hp,gL0,sL0,gL1,sL1,List.length_map,g3,g4,Int.toNat_zero]
        all_goals (
         refine Fini.trim2 (ex:=[_,_]) ?_ rfl ?_ (u0 _) (q0 _ _)
         · ((try simp -implicitDefEqProofs only[go_sem,resA,z03,rvA,oneOf,gL0]);first|done|rfl|(rw[z1t];rfl)|rw[rv_eq,hK]|(simp only[rv,rvK,rvL];rw[rv_eq,hK]))
         · simp)
      · rw[z0E,z0Z];have g2:(((K.length+1+1:Nat):Int)==1)=false:=by simp;omega
        simp -implicitDefEqProofs only[go_sem,gA hp,sA hp,gL0,sL0,gL1,sL1,List.length_map,g2];refine Fini.trim2 (ex:=[_,_]) ?_ rfl ?_ (z0f _ _) (q0 _ _)
        · ((try simp -implicitDefEqProofs only[go_sem,resA,z03,rvA,oneOf,gL0]);first|done|rfl|(rw[z1t];rfl)|rw[rv_eq,hK]|(simp only[rv,rvK,rvL];rw[rv_eq,hK]))
        · simp
    · simp -implicitDefEqProofs only[mkE,go_sem];refine CO.intro (z7s hp a1 b1 _) ?_;simp -implicitDefEqProofs only[go_sem,ho];refine CO.intro (z5W hp a1 b1 124 _) ?_;simp -implicitDefEqProofs only[go_sem,h5];refine CO.intro (z5W hp a1 b1 41 _) ?_;simp -implicitDefEqProofs only[go_sem,h6];rcases K with _|⟨y,_|⟨z,K⟩⟩
      · simp -implicitDefEqProofs only[go_sem,z3H,z4Z,gA hp,sA hp,gL0,sL0,gL1,sL1];refine Fini.trim2 (ex:=[_]) ?_ rfl ?_ (z0f _ _) (q0 _ _)
        · ((try simp -implicitDefEqProofs only[go_sem,resA,z03,rvA,oneOf,gL0]);first|done|rfl|(rw[z1t];rfl)|rw[rv_eq,hK]|(simp only[rv,rvK,rvL];rw[rv_eq,hK]))
        · simp
      · have g3:(((1:Nat):Int)==1)=true:=rfl;have g4:((0:Int)<((1:Nat):Int))=True:=by simp
        have u0:∀n,Bel n y.rv:=fun n=>z0f n y
        rw[z0E,z0Z,List.map_cons,List.map_nil,show(one 2 [y])=y from rfl]
        rw[rv_eq y]at u0⊢;rcases rvK_cases y.ks with hK|⟨l,hK⟩
        all_goals rw[hK]at u0⊢
        all_goals simp -implicitDefEqProofs only[go_sem,gA hp,sA hp,gL0,sL0,gL1,sL1,List.length_map,g3,g4,Int.toNat_zero]
        all_goals (
         refine Fini.trim2 (ex:=[_,_]) ?_ rfl ?_ (u0 _) (q0 _ _)
         · ((try simp -implicitDefEqProofs only[go_sem,resA,z03,rvA,oneOf,gL0]);first|done|rfl|(rw[z1t];rfl)|rw[rv_eq,hK]|(simp only[rv,rvK,rvL];rw[rv_eq,hK]))
         · simp)
      · rw[z0E,z0Z];have g2:(((K.length+1+1:Nat):Int)==1)=false:=by simp;omega
        simp -implicitDefEqProofs only[go_sem,gA hp,sA hp,gL0,sL0,gL1,sL1,List.length_map,g2];refine Fini.trim2 (ex:=[_,_]) ?_ rfl ?_ (z0f _ _) (q0 _ _)
        · ((try simp -implicitDefEqProofs only[go_sem,resA,z03,rvA,oneOf,gL0]);first|done|rfl|(rw[z1t];rfl)|rw[rv_eq,hK]|(simp only[rv,rvK,rvL];rw[rv_eq,hK]))
        · simp
 · simp[mkE,vK]
 · rfl
theorem z8w (F:PF) (d:Nat) (hF:FAns 177 [I d] s F) (hfw:Fwd F):FAns 173 [I d] s (pways s F):=by
 intro σ p a b hp hs;refine Ans.of_run' t173 (fun k0 _=>?_)
 have n0:=z4X k0;simp -implicitDefEqProofs only[c173,r173,go_sem,List.append_assoc,List.length_append,List.length_set];unfold pways;simp only;refine CO.intro (hF.ex hp a b hs _) ?_;have y0:(F a b).2.2=true∨s.size≤40:=hfw.hs hs;generalize F a b=w0 at y0⊢;obtain⟨x0,a0,b0⟩:=w0;simp only at y0⊢;have hm:s.size-a0<s.size+1:=by omega
 generalize j0:z2A s F (s.size+1) [x0] a0 b0=res;rw[rv_eq x0];rcases rvK_cases x0.ks with hK0|⟨l0,hK0⟩
 all_goals rw[hK0]
 all_goals simp -implicitDefEqProofs only[go_sem,gA hp,sA hp,gL0,sL0,gL1,sL1,List.append_assoc,List.length_append,List.length_set]
 all_goals (
  refine L.intro (α:={ x:Nat×List Rex×Nat×Bool // z2A s F x.1 x.2.1 x.2.2.1 x.2.2.2=res∧s.size-x.2.2.1<x.1∧(x.2.2.2=true∨s.size≤40)∧x.2.1.length≤x.2.2.1+1∧x.2.1≠[] })
   (fun x=>x.1.1)
   (fun x=>mkE 26 [(0,.ptr p 0),(1,I d),(4,.ptr σ.length 0),(5,vK σ.length x.1.2.1)])
   (fun x=>σ.set p (pob s x.1.2.2.1 x.1.2.2.2)++exK x.1.2.1)
   (fun x J hJ=>?_) ⟨(s.size+1,[x0],a0,b0),j0,hm,y0,by simp,by simp⟩ ?_ ?_)
 all_goals try (simp[mkE,vK];done)
 all_goals try (simp only[z0E,List.map_cons,List.map_nil,rv_eq x0,hK0];done)
 all_goals (
  obtain⟨⟨n,K,a1,b1⟩,h1,h2,h3,h4,h5⟩:=x;simp only at h1 h2 h3 h4 h5 hJ⊢;rcases n with _|n
  · omega
  rw[z2A]at h1;cases hgo:sees s a1 b1 124
  · rw[hgo,if_neg Bool.false_ne_true]at h1;subst h1;clear hJ h2;have hn:=z47 (s:=s) hp a1 b1 124 h3;simp only[nextA,hgo,Bool.false_eq_true,if_false]at hn;simp -implicitDefEqProofs only[mkE,go_sem];refine CO.intro (hn _) ?_;simp -implicitDefEqProofs only[go_sem];rcases K with _|⟨y,_|⟨z,K⟩⟩
    · exact absurd rfl h5
    · have g3:(((1:Nat):Int)==1)=true:=rfl;have g4:((0:Int)<((1:Nat):Int))=True:=by simp
      have q0:∀n,Bel n y.rv:=fun n=>z0f n y
      rw[z0E,z0Z,List.map_cons,List.map_nil,show(one 3 [y])=y from rfl]
      rw[rv_eq y]at q0⊢;rcases rvK_cases y.ks with hK|⟨l,hK⟩
      all_goals rw[hK]at q0⊢
      all_goals simp -implicitDefEqProofs only[go_sem,gA hp,sA hp,gL0,sL0,gL1,sL1,List.length_map,g3,g4,Int.toNat_zero]
      all_goals (
       refine Fini.trim2 (ex:=[_,_]) ?_ rfl ?_ (q0 _) (n0 _ _)
       · ((try simp -implicitDefEqProofs only[go_sem,resA,z03,rvA,oneOf,gL0]);first|done|rfl|(rw[z1t];rfl)|rw[rv_eq,hK]|(simp only[rv,rvK,rvL];rw[rv_eq,hK]))
       · simp)
    · rw[z0E,z0Z];have g2:(((K.length+1+1:Nat):Int)==1)=false:=by simp;omega
      simp -implicitDefEqProofs only[go_sem,gA hp,sA hp,gL0,sL0,gL1,sL1,List.length_map,g2];refine Fini.trim2 (ex:=[_,_]) ?_ rfl ?_ (z0f _ _) (n0 _ _)
      · ((try simp -implicitDefEqProofs only[go_sem,resA,z03,rvA,oneOf,gL0]);first|done|rfl|(rw[z1t];rfl)|rw[rv_eq,hK]|(simp only[rv,rvK,rvL];rw[rv_eq,hK]))
      · simp
  · rw[hgo,if_pos rfl]at h1;obtain⟨ha,hb⟩:=z9B hgo;subst hb
    have hsz:s.size≤40:=by
     rcases h3 with h|h
     · exact absurd h Bool.false_ne_true
     · exact h
    have m0:=(hfw (a1+1) false).1;have u0:=hJ ⟨(n,K++[(F (a1+1) false).1],(F (a1+1) false).2.1,(F (a1+1) false).2.2),h1,by simp only;omega,.inr hsz,by simp;omega,by simp⟩ (Nat.lt_succ_self n)
    simp only[z5i,z7t]at u0;clear hJ h1;have hn:=z47 (s:=s) hp a1 false 124 h3;simp only[nextA,hgo,if_true]at hn;simp -implicitDefEqProofs only[mkE,go_sem];refine CO.intro (hn _) ?_;simp -implicitDefEqProofs only[go_sem];refine CO.intro (hF.ex hp (a1+1) false (.inr hsz) _) ?_;generalize F (a1+1) false=w at u0 m0⊢;obtain⟨x,a2,b2⟩:=w;simp only at u0 m0⊢;rw[rv_eq x]at u0⊢;rcases K with _|⟨y,K⟩
    · exact absurd rfl h5
    have g1:(K.length+1+1≤2^32)=True:=by simp at h4;simp;omega
    rcases rvK_cases x.ks with hK|⟨l,hK⟩
    all_goals rw[hK]at u0⊢
    all_goals (
     simp -implicitDefEqProofs only[go_sem,z0E,z0Z,gA hp,sA hp,gL0,sL0,gL1,sL1,List.length_map,g1]at u0⊢
     simpa[mkE] using u0))
theorem zgE:∀k,k≤8→FAns 173 [I ((8-k:Nat):Int)] s (PW s k)
 |0,_=>z8w s _ 8 (zd4 s _ 8 (z6T s _ 8 (zax s _ 8 (Nat.le_refl _) (fun h=>absurd h (Nat.lt_irrefl _)) (fun a b=>⟨Nat.le_refl _,id⟩)) (z3l s (fun a b=>⟨Nat.le_refl _,id⟩) 8))
  (z39 s (z3l s (fun a b=>⟨Nat.le_refl _,id⟩) 8)) (z5V s (z8u s (fun a b=>⟨Nat.le_refl _,id⟩) 8)))
  (z9C s (z39 s (z3l s (fun a b=>⟨Nat.le_refl _,id⟩) 8)))
 |k+1,h=>by
  have ih:=zgE k (by omega)
  have hf:=zaw s k;have e:8-(k+1)=7-k:=by omega
  have e2:8-k=7-k+1:=by omega
  rw[e2]at ih;rw[e]
  exact z8w s _ (7-k) (zd4 s _ (7-k) (z6T s _ (7-k) (zax s _ (7-k) (by omega) (fun _=>ih) hf) (z3l s hf _))
   (z39 s (z3l s hf _)) (z5V s (z8u s hf _)))
   (z9C s (z39 s (z3l s hf _)))
def z2B:Rex×Bool :=
 let w:=PW s 8 0 (decide (40<s.size))
 if w.2.2||decide (w.2.1<s.size) then(.mk 0 0 0 0 0 [],false) else(w.1,true)
theorem zd5 (σ:St):Ans Tryz.prog 166 [Sx s] σ (.tup [(z2B s).1.rv,Bo (z2B s).2]) σ:=by
 have hw:∀b:Bool,(b=true∨s.size≤40)→Ans Tryz.prog 173 [.ptr (σ.length+1) 0,I 0] (σ++[box0,pob s 0 b]) (PW s 8 0 b).1.rv (σ++[box0,pob s (PW s 8 0 b).2.1 (PW s 8 0 b).2.2]):=by
  intro b hs;have:=zgE s 8 (Nat.le_refl _) (σ++[box0,pob s 0 b]) (σ.length+1) 0 b (by simp) hs
  have e:∀o,(σ++[box0,pob s 0 b]).set (σ.length+1) o=σ++[box0,o]:=fun o=>by rw[List.set_append_right _ _ (by omega)];simp
  rwa [e,e]at this
 have hs:(decide (40<s.size))=true∨s.size≤40:=by
  rcases Nat.lt_or_ge 40 s.size with h|h
  · exact .inl (by simpa using h)
  · exact .inr h
 have j0:decide ((40:Int)<(s.size:Int))=decide (40<s.size):=by rw[Bool.eq_iff_iff];simp;omega
 have k0:∀(x y:Ob) (ex:St),(σ++x::y::ex)[σ.length]?=some x:=fun x y ex=>by rw[List.getElem?_append_right (by simp)];simp
 have k1:∀(x y:Ob) (ex:St),(σ++x::y::ex)[σ.length+1]?=some y:=fun x y ex=>by rw[List.getElem?_append_right (by simp)];simp
 have k2:∀(x y z:Ob),(σ++[x,y,z])[σ.length+2]?=some z:=fun x y z=>by rw[List.getElem?_append_right (by simp)];simp
 have s0:∀(x z:Ob) (ex:St),(σ++x::ex).set σ.length z=σ++z::ex:=fun x z ex=>by rw[List.set_append_right _ _ (by simp)];simp
 refine Ans.of_run' t166 (fun u0 _=>?_)
 simp -implicitDefEqProofs only[c166,r166,go_sem,List.append_assoc,List.length_append,j0];refine CO.intro (hw _ hs) ?_;unfold z2B;generalize PW s 8 0 (decide (40<s.size))=w;obtain⟨x,a,b⟩:=w;simp only;have eL:decide ((a:Int)<(s.size:Int))=decide (a<s.size):=by rw[Bool.eq_iff_iff];simp
 have q0:∀n,Bel n x.rv:=fun n=>z0f n x
 rw[rv_eq x];have y0:=rv_eq x;rcases rvK_cases x.ks with hK|⟨l,hK⟩
 all_goals (
  rw[hK]at y0⊢;cases b
  · cases hlt:decide (a<s.size)
    · simp -implicitDefEqProofs only[go_sem,k0,k1,k2,s0,List.append_assoc,List.length_append,eL,hlt,Bool.or_self,y0];rw[y0]at q0;refine Fini.trim2 (σ':=σ) (ex:=[_,_]) ?_ rfl (Nat.le_refl _) ?_ u0
      · simp -implicitDefEqProofs only[go_sem,resA,z03,rvA,oneOf,k0]
      · exact z3m (q0 _) _
    · simp -implicitDefEqProofs only[go_sem,k0,k1,k2,s0,List.append_assoc,List.length_append,eL,hlt,Bool.or_true];refine Fini.trim2 (σ':=σ) (ex:=[_,_]) ?_ rfl (Nat.le_refl _) ?_ u0
      · simp -implicitDefEqProofs only[go_sem,resA,z03,rvA,oneOf,k0];rfl
      · exact z3m (z0f _ (.mk 0 0 0 0 0 [])) _
  · simp -implicitDefEqProofs only[go_sem,k0,k1,k2,s0,List.append_assoc,List.length_append,Bool.true_or];refine Fini.trim2 (σ':=σ) (ex:=[_,_]) ?_ rfl (Nat.le_refl _) ?_ u0
    · simp -implicitDefEqProofs only[go_sem,resA,z03,rvA,oneOf,k0];rfl
    · exact z3m (z0f _ (.mk 0 0 0 0 0 [])) _)
end
theorem ziP {M:Nat→Prop} {R:Ref→Value→Prop} {w:World}:∀(n:Nat) (x:Rex),SizeOf.sizeOf x≤n→∀v,Rep M R w (rvK x.ks) v→Rep M R w (.sl 6 (x.ks.map av)) v:=by
 intro n
 induction n with
 |zero=>intro x h;cases x;simp at h
 |succ n ih =>
  intro x hx v h;have j0:∀y∈x.ks,SizeOf.sizeOf y<SizeOf.sizeOf x:=fun y hy=>zcU hy
  generalize x.ks=L at h j0;rcases L with _|⟨y,L⟩
  · cases h;exact .sl0 6 _ _
  · rw[z7r]at h;generalize hM:y::L=M' at h j0
    have y0:∀i (hi:i<(M'.map rv).length),(M'.map rv)[i].cells=[I (M'[i]'(by simpa using hi)).op,U (M'[i]'(by simpa using hi)).a,U (M'[i]'(by simpa using hi)).b,U (M'[i]'(by simpa using hi)).c,U (M'[i]'(by simpa using hi)).d,rvK (M'[i]'(by simpa using hi)).ks]:=fun i hi=>by
     rw[List.getElem_map,zfc]
    have u0:∀i (hi:i<(M'.map av).length),(M'.map av)[i].cells=[I (M'[i]'(by simpa using hi)).op,U (M'[i]'(by simpa using hi)).a,U (M'[i]'(by simpa using hi)).b,U (M'[i]'(by simpa using hi)).c,U (M'[i]'(by simpa using hi)).d,.sl 6 ((M'[i]'(by simpa using hi)).ks.map av)]:=fun i hi=>by
     rw[List.getElem_map,av_eq];rfl
    generalize hN:M'.map rv=N at h
    cases h with
    |sl0 => 
     have:M'=[]:=by simpa using hN
     rw[this]at hM;cases hM
    |sl _ _ b o cap f hcap hc hr =>
     subst hN;have e:(M'.map rv).length=(M'.map av).length:=by simp
     rw[e];refine Rep.sl 6 (M'.map av) b o cap f (by rw[←e];exact hcap) ?_ ?_
     · intro i j hi hj;have q0:i<(M'.map rv).length:=by rw[e];exact hi
       refine hc i j q0 ?_;rw[u0 i hi]at hj;rw[y0 i q0];exact hj
     · intro i j hi hj;have q0:i<(M'.map rv).length:=by rw[e];exact hi
       have n0:j<6:=by rw[u0 i hi]at hj;exact hj
       have m0:j<((M'.map rv)[i].cells).length:=by rw[y0 i q0];exact n0
       have h2:=hr i j q0 m0;simp only[y0 i q0]at h2;simp only[u0 i hi];have k0:M'[i]'(by simpa using hi)∈M':=List.getElem_mem _
       have r0:=ih (M'[i]'(by simpa using hi)) (by have:=j0 _ k0;omega)
       have h6:j=0∨j=1∨j=2∨j=3∨j=4∨j=5:=by omega
       rcases h6 with rfl|rfl|rfl|rfl|rfl|rfl
       · exact h2
       · exact h2
       · exact h2
       · exact h2
       · exact h2
       · exact r0 _ h2
theorem ziQ {M:Nat→Prop} {R:Ref→Value→Prop} {w:World} (x:Rex) (v:Value) (h:Rep M R w x.rv v):Rep M R w x.av v:=by
 have hk:=ziP (M:=M) (R:=R) (w:=w) (SizeOf.sizeOf x) x (Nat.le_refl _);rw[rv_eq]at h;rw[av_eq]
 cases h with
 |agg _ vs hl hr =>
  refine .agg _ vs hl fun j hj u0=>?_
  have h2:=hr j hj u0;have hj6:j<6:=hj;have h6:j=0∨j=1∨j=2∨j=3∨j=4∨j=5:=by omega
  rcases h6 with rfl|rfl|rfl|rfl|rfl|rfl
  · exact h2
  · exact h2
  · exact h2
  · exact h2
  · exact h2
  · exact hk _ h2
theorem Ans.sub {P:Program} {f:FuncId} {x:Rex} {σ σ':St} {r:AV} (h:Ans P f [x.av] σ r σ'):Ans P f [x.rv] σ r σ':=by
 intro M ν w vs hg hr;refine h M ν w vs hg ⟨hr.1,fun j hj u0=>?_⟩
 have h2:=hr.2 j hj u0;have:j=0:=by simp at hj;exact hj
 subst this;exact ziQ x _ h2
section
variable (s:ByteArray)
end
def z2C (c:Nat):Bool:=decide (97≤c)&&decide (c≤122)||decide (65≤c)&&decide (c≤90)||c==95
def z50 (c:Nat):Bool:=decide (48≤c)&&decide (c≤57)
def nameB (s:ByteArray):Bool:=decide (1≤s.size)&&decide (s.size≤12)&&z2C (byteAt s 0)&&(List.range s.size).all fun i=>z2C (byteAt s i)||z50 (byteAt s i)
theorem z3B (a b:Nat):decide ((a:Int)≤(b:Int))=decide (a≤b):=by
 rw[Bool.eq_iff_iff];simp only[decide_eq_true_eq];omega
theorem z6U (σ:St) (c:Nat):Ans Tryz.prog 170 [.pl (.int .u8 c)] σ (Bo (z2C c)) σ:=by
 have e1:decide ((97:Int)≤c)=decide (97≤c):=z3B 97 c;have e2:decide ((c:Int)≤122)=decide (c≤122):=z3B c 122;have e3:decide ((65:Int)≤c)=decide (65≤c):=z3B 65 c;have e4:decide ((c:Int)≤90)=decide (c≤90):=z3B c 90;have e5:((c:Int)==95)=(c==95):=z0l c 95
 have hg:(if(if decide (97≤c) then decide (c≤122) else false) then true else if(if decide (65≤c) then decide (c≤90) else false) then true else(c==95))=z2C c:=by
  unfold z2C;cases decide (97≤c)<;>cases decide (c≤122)<;>cases decide (65≤c)<;>cases decide (c≤90)<;>cases(c==95)<;>rfl
 rw[←hg];refine Ans.of_run t170 ?_;cases h1:decide (97≤c)<;>cases h2:decide (c≤122)<;>cases h3:decide (65≤c)<;>cases h4:decide (c≤90)<;>rw[h1]at e1<;>rw[h2]at e2<;>rw[h3]at e3<;>rw[h4]at e4
 all_goals (simp -implicitDefEqProofs only[c170,r170,go_sem,e1,e2,e3,e4,e5];exact Fini.ret rfl)
theorem decN (a b:Nat):decide ((a:Int)<(b:Int))=decide (a<b):=by
 rw[Bool.eq_iff_iff];simp only[decide_eq_true_eq];omega
theorem z5Y (σ:St) (s:ByteArray):Ans Tryz.prog 157 [Sx s] σ (Bo (nameB s)) σ:=by
 refine Ans.of_run t157 ?_;have d1:decide ((s.size:Int)<1)=decide (s.size<1):=decN s.size 1;have d2:decide ((12:Int)<s.size)=decide (12<s.size):=decN 12 s.size;by_cases h1:s.size<1
 · have e1:decide (s.size<1)=true:=by simpa using h1
   rw[e1]at d1;simp -implicitDefEqProofs only[c157,r157,go_sem,d1];refine Fini.ret' rfl (z16 ?_);rw[nameB,show decide (1≤s.size)=false from decide_eq_false (by omega)];rfl
 have e1:decide (s.size<1)=false:=by simpa using h1
 rw[e1]at d1;by_cases h2:12<s.size
 · have e2:decide (12<s.size)=true:=by simpa using h2
   rw[e2]at d2;simp -implicitDefEqProofs only[c157,r157,go_sem,d1,d2];refine Fini.ret' rfl (z16 ?_);rw[nameB,show decide (s.size≤12)=false from decide_eq_false (by omega),Bool.and_false];rfl
 have e2:decide (12<s.size)=false:=by simpa using h2
 rw[e2]at d2;have z1:((0:Int)<s.size)=True:=by simp;omega
 have n1:decide (1≤s.size)=true:=by simp;omega
 have n2:decide (s.size≤12)=true:=by simp;omega
 simp -implicitDefEqProofs only[c157,r157,go_sem,d1,d2,z1,z07,Int.toNat_zero];refine CO.intro (z6U _ _) ?_
 cases hl:z2C (byteAt s 0) with
 |false =>
  simp -implicitDefEqProofs only[go_sem,Int.toNat_zero,hl];refine Fini.ret' rfl (z16 ?_);rw[nameB,hl,Bool.and_false];rfl
 |true =>
 simp -implicitDefEqProofs only[go_sem,Int.toNat_zero,hl];refine Go.Ab.L.scan s.size (fun i=>z2C (byteAt s i)||z50 (byteAt s i)) (fun i=>mkE 41 [(0,Sx s),(19,I s.size),(20,I i)]) (fun _=>σ) ?_ ?_ ?_ rfl
 · intro i hi hp J hJ;have u0:((i:Int)<s.size)=True:=by simp;omega
   have y0:=z0R (n:=i) (by omega)
   have f1:decide ((byteAt s i:Int)<48)=decide (byteAt s i<48):=decN _ 48;have f2:decide ((57:Int)<byteAt s i)=decide (57<byteAt s i):=decN 57 _;simp -implicitDefEqProofs only[mkE,go_sem,u0,z07];refine CO.intro (z6U _ _) ?_
   have hd:z50 (byteAt s i)= !(decide (byteAt s i<48)||decide (57<byteAt s i)):=by
    unfold z50;rw[Bool.eq_iff_iff];simp
   rw[hd]at hJ
   cases h3:z2C (byteAt s i) with
   |true =>
    rw[h3]at hJ;simp -implicitDefEqProofs only[go_sem,y0];exact hJ rfl
   |false =>
    rw[h3]at hJ;simp -implicitDefEqProofs only[go_sem,u0,z07];cases h4:decide (byteAt s i<48)<;>rw[h4]at f1 hJ
    · cases h5:decide (57<byteAt s i)<;>rw[h5]at f2 hJ
      · simp -implicitDefEqProofs only[go_sem,f1,f2,u0,z07,y0];exact hJ rfl
      · simp -implicitDefEqProofs only[go_sem,f1,f2,u0,z07];refine Fini.ret' rfl (z16 ?_);rw[nameB,List.all_eq_false.2 ⟨i,List.mem_range.2 hi,by simp[h3,hd,h4,h5]⟩,Bool.and_false]
    · simp -implicitDefEqProofs only[go_sem,f1,u0,z07];refine Fini.ret' rfl (z16 ?_);rw[nameB,List.all_eq_false.2 ⟨i,List.mem_range.2 hi,by simp[h3,hd,h4]⟩,Bool.and_false]
 · intro hp J;have u0:((s.size:Int)<s.size)=False:=by simp
   simp -implicitDefEqProofs only[mkE,go_sem,u0];refine Fini.ret' rfl (z16 ?_);rw[nameB,n1,n2,hl,List.all_eq_true.2 fun i hi=>hp i (List.mem_range.1 hi)];rfl
 · rfl
def likeB (k:Int):Bool:=k==3||k==4
def isB (k:Int) (nm v:ByteArray):Bool:=nameB nm&&(if likeB k then(z2B v).2 else(k==1||k==2)&&decide (v.size≤24))
theorem zfd (σ:St) (k:Int) (nm v:ByteArray):Ans Tryz.prog 165 [mat k nm v] σ (Bo (likeB k)) σ:=by
 refine Ans.of_run t165 ?_;simp -implicitDefEqProofs only[c165,r165,go_sem];unfold likeB;cases h:k==3
 · simp -implicitDefEqProofs only[go_sem];exact Fini.ret rfl
 · simp -implicitDefEqProofs only[go_sem];exact Fini.ret rfl
theorem ziR (σ:St) (k:Int) (nm v:ByteArray):Ans Tryz.prog 155 [mat k nm v] σ (Bo (isB k nm v)) σ:=by
 refine Ans.of_run t155 ?_;unfold isB;simp -implicitDefEqProofs only[c155,r155,go_sem];refine CO.intro (z5Y σ nm) ?_
 cases hn:nameB nm with
 |false =>
  simp -implicitDefEqProofs only[go_sem];exact Fini.ret rfl
 |true =>
 simp -implicitDefEqProofs only[go_sem];refine CO.intro (zfd σ k nm v) ?_
 cases hk:likeB k with
 |true =>
  simp -implicitDefEqProofs only[go_sem];refine CO.intro (zd5 v σ) ?_;have u0:=Rex.rv_eq (z2B v).1;generalize (z2B v).1=x at u0⊢;generalize (z2B v).2=b;rw[u0];rcases Rex.rvK_cases x.ks with e|⟨l,e⟩<;>rw[e]
  all_goals (simp -implicitDefEqProofs only[go_sem];exact Fini.ret rfl)
 |false =>
  have d:decide ((v.size:Int)≤24)=decide (v.size≤24):=z3B v.size 24;simp -implicitDefEqProofs only[go_sem]
  cases h1:k==1 with
  |true =>
   simp -implicitDefEqProofs only[go_sem,d];exact Fini.ret rfl
  |false =>
   simp -implicitDefEqProofs only[go_sem]
   cases h2:k==2 with
   |true =>
    simp -implicitDefEqProofs only[go_sem,d];exact Fini.ret rfl
   |false =>
    simp -implicitDefEqProofs only[go_sem];exact Fini.ret rfl
abbrev Mtr:=Int×ByteArray×ByteArray
def mv3 (x:Mtr):AV:=mat x.1 x.2.1 x.2.2
def mvs3 (L:List Mtr):List AV:=L.map mv3
def cmpL:List UInt8→List UInt8→Int
 |[],[]=>0
 |[],_::_=>-1
 |_::_,[]=>1
 |a::x,b::y=>if a != b then(if a<b then -1 else 1) else cmpL x y
def cmpI2 (x y:List UInt8):Int:=match(List.range (min x.length y.length)).find? fun i=>x.getD i 0 != y.getD i 0 with
 |some i=>if x.getD i 0<y.getD i 0 then -1 else 1
 |none=>if x.length<y.length then -1 else if x.length>y.length then 1 else 0
theorem zay:∀x y:List UInt8,cmpI2 x y=cmpL x y
 |[],[]=>rfl
 |[],b::y=>by simp[cmpI2,cmpL]
 |a::x,[]=>by simp[cmpI2,cmpL]
 |a::x,b::y=>by
  rw[cmpL,←zay x y];unfold cmpI2;rw[List.length_cons,List.length_cons,Nat.succ_min_succ,List.range_succ_eq_map,List.find?_cons];simp only[List.getD_cons_zero]
  cases h:(a != b) with
  |true=>simp
  |false =>
   simp only[Bool.false_eq_true,if_false];rw[List.find?_map];simp only[Function.comp_def,List.getD_cons_succ]
   cases(List.range (min x.length y.length)).find? fun i=>x.getD i 0 != y.getD i 0 with
   |none=>simp
   |some i=>simp
theorem z8x:∀x y:List UInt8,cmpL x y=if x==y then 0 else if Op.bytesLess x y then -1 else 1
 |[],[]=>rfl
 |[],b::y=>by simp[cmpL,Op.bytesLess]
 |a::x,[]=>by simp[cmpL,Op.bytesLess]
 |a::x,b::y=>by
  rw[cmpL,z8x x y,Op.bytesLess];by_cases h:a=b
  · subst h;have:¬a<a:=by simp
    simp[this]
  · by_cases hl:a<b
    · simp[h,hl]
    · simp[h,hl]
theorem zfe (a b:ByteArray):Extern.BytealgCompare.cmp a b=cmpL a.data.toList b.data.toList:=by
 rw[←zay];unfold Extern.BytealgCompare.cmp cmpI2
 have hg:∀(a:ByteArray) (i:Nat),a[i]! =a.data.toList.getD i 0:=fun a i=>by
  rw[List.getD_eq_getElem?_getD,Array.getElem?_toList,getElem!_def];by_cases h:i<a.size
  · have h1:a[i]?=some a[i]:=by rw[getElem?_pos]
    have h2:a.data[i]?=some a[i]:=Array.getElem?_eq_getElem h;rw[h1,h2];rfl
  · have h1:a[i]?=none:=by rw[getElem?_neg];exact h
    have h2:a.data[i]?=none:=Array.getElem?_eq_none (by simpa using h)
    rw[h1,h2];rfl
 simp only[hg];rfl
def cmpS (a b:ByteArray):Int:=Extern.BytealgCompare.cmp a b
def cmpI (a b:Int):Int:=if a<b then -1 else if b<a then 1 else 0
def or3 (a b c:Int):Int:=if a != 0 then a else if b != 0 then b else c
def cmp3 (x y:Mtr):Int:=or3 (cmpS x.2.1 y.2.1) (cmpI x.1 y.1) (cmpS x.2.2 y.2.2)
section
variable (σ:St)
theorem z6V (a b:ByteArray):Ans Tryz.prog 168 [Sx a,Sx b] σ (I (cmpS a b)) σ:=by
 have u0:Ans Tryz.prog 179 [Sx a,Sx b] σ (I (cmpS a b)) σ:=ziM _ _ _ _ rfl
 have y0:Ans Tryz.prog 174 [Sx a,Sx b] σ (I (cmpS a b)) σ:=by
  refine Ans.of_run t174 ?_;simp -implicitDefEqProofs only[c174,r174,go_sem];refine CO.intro u0 ?_;simp -implicitDefEqProofs only[go_sem];exact Fini.ret rfl
 refine Ans.of_run t168 ?_;simp -implicitDefEqProofs only[c168,r168,go_sem];refine CO.intro y0 ?_;simp -implicitDefEqProofs only[go_sem];exact Fini.ret rfl
theorem zd6 (a:Int):Ans Tryz.prog 175 [I a] σ (Bo false) σ:=by
 have h:(a != a)=false:=by simp
 refine Ans.of_run t175 ?_;simp -implicitDefEqProofs only[c175,r175,go_sem,h];exact Fini.ret rfl
theorem zbE (a b:Int):Ans Tryz.prog 169 [I a,I b] σ (I (cmpI a b)) σ:=by
 unfold cmpI;refine Ans.of_run t169 ?_;simp -implicitDefEqProofs only[c169,r169,go_sem];refine CO.intro (zd6 σ a) ?_;simp -implicitDefEqProofs only[go_sem];refine CO.intro (zd6 σ b) ?_;simp -implicitDefEqProofs only[go_sem];by_cases h1:a<b
 · have y0:decide (a<b)=true:=by simpa using h1
   simp -implicitDefEqProofs only[go_sem,y0];rw[if_pos h1];exact Fini.ret rfl
 · have y0:decide (a<b)=false:=by simpa using h1
   simp -implicitDefEqProofs only[go_sem,y0];rw[if_neg h1];by_cases h2:b<a
   · have u0:decide (b<a)=true:=by simpa using h2
     simp -implicitDefEqProofs only[go_sem,u0];rw[if_pos h2];exact Fini.ret rfl
   · have u0:decide (b<a)=false:=by simpa using h2
     simp -implicitDefEqProofs only[go_sem,u0];rw[if_neg h2];exact Fini.ret rfl
def orF (a b c:Int):Nat→Int
 |0=>or3 a b c
 |1=>if b != 0 then b else c
 |2=>c
 |_=>0
theorem ziS (a b c:Int):Ans Tryz.prog 167 [.sl 1 [I a,I b,I c]] σ (I (or3 a b c)) σ:=by
 refine Ans.of_run t167 ?_;simp -implicitDefEqProofs only[c167,r167,go_sem];generalize y0:or3 a b c=res
 refine Go.Ab.L.intro (α:={ i:Nat // i≤3∧orF a b c i=res }) (fun x=>3-x.1)
  (fun x=>mkE 18 [(3,I 0),(6,.sl 1 [I a,I b,I c]),(7,I ((3:Nat):Int)),(8,I x.1)]) (fun _=>σ) (fun x J hJ=>?_) ⟨0,Nat.zero_le _,y0⟩ rfl rfl
 obtain⟨i,hi,hg⟩:=x;simp only at hJ⊢;have i4:i=0∨i=1∨i=2∨i=3:=by omega
 have w0:IntKind.i64.wrap (((0:Nat):Int)+1)=((1:Nat):Int):=by decide
 have w1:IntKind.i64.wrap (((1:Nat):Int)+1)=((2:Nat):Int):=by decide
 have w2:IntKind.i64.wrap (((2:Nat):Int)+1)=((3:Nat):Int):=by decide
 rcases i4 with rfl|rfl|rfl|rfl
 · have d1:decide (((0:Nat):Int)<((3:Nat):Int))=true:=by decide
   have d2:(((0:Nat):Int)<((3:Nat):Int))=True:=by simp
   simp only[orF,or3]at hg;simp -implicitDefEqProofs only[mkE,go_sem,d1,d2];cases h:a != 0
   · rw[h,if_neg Bool.false_ne_true]at hg;have u0:=hJ ⟨1,by omega,hg⟩ (by simp only;omega)
     simp only at u0;simp -implicitDefEqProofs only[go_sem,w0];exact u0
   · rw[h,if_pos rfl]at hg;simp -implicitDefEqProofs only[go_sem];rw[←hg];exact Fini.ret rfl
 · have d1:decide (((1:Nat):Int)<((3:Nat):Int))=true:=by decide
   have d2:(((1:Nat):Int)<((3:Nat):Int))=True:=by simp
   simp only[orF]at hg;simp -implicitDefEqProofs only[mkE,go_sem,d1,d2];cases h:b != 0
   · rw[h,if_neg Bool.false_ne_true]at hg;have u0:=hJ ⟨2,by omega,hg⟩ (by simp only;omega)
     simp only at u0;simp -implicitDefEqProofs only[go_sem,w1];exact u0
   · rw[h,if_pos rfl]at hg;simp -implicitDefEqProofs only[go_sem];rw[←hg];exact Fini.ret rfl
 · have d1:decide (((2:Nat):Int)<((3:Nat):Int))=true:=by decide
   have d2:(((2:Nat):Int)<((3:Nat):Int))=True:=by simp
   simp only[orF]at hg;simp -implicitDefEqProofs only[mkE,go_sem,d1,d2];cases h:c != 0
   · have hc:c=0:=by simpa using h
     have u0:=hJ ⟨3,by omega,by rw[←hg,hc];rfl⟩ (by simp only;omega)
     simp only at u0;simp -implicitDefEqProofs only[go_sem,w2];exact u0
   · simp -implicitDefEqProofs only[go_sem];rw[←hg];exact Fini.ret rfl
 · have d1:decide (((3:Nat):Int)<((3:Nat):Int))=false:=by decide
   have d2:(((3:Nat):Int)<((3:Nat):Int))=False:=by simp
   simp only[orF]at hg;simp -implicitDefEqProofs only[mkE,go_sem,d1,d2];rw[←hg];exact Fini.ret rfl
theorem z9D (x y:Mtr):Ans Tryz.prog 156 [mv3 x,mv3 y] σ (I (cmp3 x y)) σ:=by
 have h1:=fun s=>z6V s x.2.1 y.2.1
 have h2:=fun s=>zbE s x.1 y.1
 have h3:=fun s=>z6V s x.2.2 y.2.2
 have h4:=fun s=>ziS s (cmpS x.2.1 y.2.1) (cmpI x.1 y.1) (cmpS x.2.2 y.2.2)
 unfold cmp3;refine Ans.of_run t156 ?_;simp -implicitDefEqProofs only[c156,r156,go_sem,z01,mv3]
 first|refine CD.intro (h1 _) ?_|refine CS.intro h1 ?_
 simp -implicitDefEqProofs only[go_sem,z01]
 first|refine CD.intro (h2 _) ?_|refine CS.intro h2 ?_
 simp -implicitDefEqProofs only[go_sem,z01]
 first|refine CD.intro (h3 _) ?_|refine CS.intro h3 ?_
 simp -implicitDefEqProofs only[go_sem,z01]
 first|refine CD.intro (h4 _) ?_|refine CS.intro h4 ?_
 simp -implicitDefEqProofs only[go_sem];exact Fini.ret rfl
end
theorem zd7 (a b:ByteArray):cmpS a b=(if a.toList==b.toList then 0 else if Op.bytesLess a.toList b.toList then -1 else 1):=by
 rw[cmpS,zfe,z8x,ByteArray.toList_eq,ByteArray.toList_eq]
def z3I (x y:Mtr):Bool :=
 if !(x.2.1.toList==y.2.1.toList) then Op.bytesLess x.2.1.toList y.2.1.toList
 else if !(x.1==y.1) then decide (x.1<y.1)
 else Op.bytesLess x.2.2.toList y.2.2.toList
theorem z5Z:∀x:List UInt8,Op.bytesLess x x=false
 |[]=>rfl
 |a::x=>by rw[Op.bytesLess,z5Z x];simp
theorem z9E (x y:Mtr):decide (0≤cmp3 x y)= !z3I x y:=by
 unfold cmp3 or3 z3I;rw[zd7,zd7]
 cases h1:(x.2.1.toList==y.2.1.toList) with
 |false =>
  cases h2:Op.bytesLess x.2.1.toList y.2.1.toList<;>simp
 |true =>
  simp only[Bool.not_true,Bool.false_eq_true,if_false,if_true];unfold cmpI;by_cases h3:x.1<y.1
  · have:(x.1==y.1)=false:=by simp;omega
    simp[h3,this]
  · by_cases h4:y.1<x.1
    · have:(x.1==y.1)=false:=by simp;omega
      simp[h3,h4,this]
    · have h5:(x.1==y.1)=true:=by simp;omega
      simp only[h3,h4,h5,if_false,Bool.not_true,Bool.false_eq_true]
      cases h6:(x.2.2.toList==y.2.2.toList) with
      |true =>
       have:x.2.2.toList=y.2.2.toList:=by simpa using h6
       rw[this,z5Z];rfl
      |false=>cases h7:Op.bytesLess x.2.2.toList y.2.2.toList<;>simp
def epsTo (ys:List Stp) (p q:Nat):Prop:=∃s,ys[p]?=some s∧((s.op=2∧(q=s.x.toNat∨q=s.y.toNat))∨(s.op=3∧q=s.x.toNat))
inductive Eps (ys:List Stp):Nat→Nat→Prop where
 |refl (p:Nat):Eps ys p p
 |step {p q r:Nat}:epsTo ys p q→Eps ys q r→Eps ys p r
theorem z7u {ys:List Stp} {p:Nat} {s:Stp} (h:ys[p]?=some s):stpAt ys p=s:=by
 rw[stpAt,List.getD_eq_getElem?_getD,h];rfl
theorem Eps.snoc {ys:List Stp} {p q r:Nat} (h:Eps ys p q) (h':epsTo ys q r):Eps ys p r:=by
 induction h with
 |refl p=>exact .step h' (.refl _)
 |step h1 _ ih=>exact .step h1 (ih h')
section
variable {ys:List Stp} (hc:ziL ys=true)
include hc
end
inductive Reach (ys:List Stp) (s:ByteArray):Nat→Nat→Prop where
 |zero:Reach ys s 0 0
 |eps {p q i:Nat}:Reach ys s p i→epsTo ys p q→Reach ys s q i
 |byte {p i:Nat}:Reach ys s p i→p<ys.length→i<s.size→z5R (stpAt ys p) (byteAt s i)=true→Reach ys s (p+1) (i+1)
theorem Reach.last {ys:List Stp} {s:ByteArray} {q i:Nat} (h:Reach ys s q i):(i=0∧Eps ys 0 q)∨∃j p,i=j+1∧j<s.size∧p<ys.length∧Reach ys s p j∧z5R (stpAt ys p) (byteAt s j)=true∧Eps ys (p+1) q:=by
 induction h with
 |zero=>exact .inl ⟨rfl,.refl _⟩
 |eps _ h1 ih =>
  rcases ih with⟨h,h'⟩|⟨j,p,h⟩
  · exact .inl ⟨h,h'.snoc h1⟩
  · exact .inr ⟨j,p,h.1,h.2.1,h.2.2.1,h.2.2.2.1,h.2.2.2.2.1,h.2.2.2.2.2.snoc h1⟩
 |byte h hp hi ht _=>exact .inr ⟨_,_,rfl,hi,hp,h,ht,.refl _⟩
inductive Star (R:Nat→Nat→Prop):Nat→Nat→Prop where
 |refl (i:Nat):Star R i i
 |step {i m j:Nat}:R i m→Star R m j→Star R i j
section
variable (s:ByteArray)
mutual
def Mt:Rex→Nat→Nat→Prop
 |.mk op a b c d ks=>fun i j =>
  if op==1 then i<s.size∧j=i+1∧z5R ⟨1,a,b,c,d,0,0⟩ (byteAt s i)=true
  else if op==2 then MtL ks i j
  else if op==3 then MtA ks i j
  else if op==4 then Star (MtH ks) i j
  else if op==5 then ∃m,MtH ks i m∧Star (MtH ks) m j
  else if op==6 then i=j∨MtH ks i j
  else False
def MtL:List Rex→Nat→Nat→Prop
 |[]=>fun i j=>i=j
 |x::xs=>fun i j=>∃m,Mt x i m∧MtL xs m j
def MtA:List Rex→Nat→Nat→Prop
 |[]=>fun _ _=>False
 |x::xs=>fun i j=>Mt x i j∨MtA xs i j
def MtH:List Rex→Nat→Nat→Prop
 |[]=>fun _ _=>False
 |x::_=>fun i j=>Mt x i j
end
inductive Ed (ys:List Stp):Nat×Nat→Nat×Nat→Prop where
 |eps {p q i:Nat}:epsTo ys p q→Ed ys (p,i) (q,i)
 |byte {p i:Nat}:p<ys.length→i<s.size→z5R (stpAt ys p) (byteAt s i)=true→Ed ys (p,i) (p+1,i+1)
def Run (ys:List Stp) (lo hi:Nat):Nat→Nat×Nat→Nat×Nat→Prop
 |0,c,d=>c=d∧¬(lo≤c.1∧c.1<hi)
 |k+1,c,d=>(lo≤c.1∧c.1<hi)∧∃e,Ed s ys c e∧Run ys lo hi k e d
def Path (ys:List Stp):Nat→Nat×Nat→Nat×Nat→Prop
 |0,c,d=>c=d
 |k+1,c,d=>∃e,Ed s ys c e∧Path ys k e d
variable {s} {ys:List Stp}
theorem Run.split {lo hi lo' hi':Nat} (h1:lo≤lo') (h2:hi'≤hi):∀(k:Nat) (c d:Nat×Nat),Run s ys lo hi k c d→∃k1 k2 m,k1+k2=k∧Run s ys lo' hi' k1 c m∧Run s ys lo hi k2 m d
 |0,c,d,h=>⟨0,0,c,rfl,⟨rfl,fun hc=>h.2 ⟨by omega,by omega⟩⟩,h⟩
 |k+1,c,d,h=>by
  by_cases hc:lo'≤c.1∧c.1<hi'
  · obtain⟨_,e,he,hr⟩:=h;obtain⟨k1,k2,m,hk,h3,h4⟩:=Run.split h1 h2 k e d hr;exact⟨k1+1,k2,m,by omega,⟨hc,e,he,h3⟩,h4⟩
  · exact⟨0,k+1,c,by omega,⟨rfl,hc⟩,h⟩
theorem Path.run {lo hi:Nat}:∀(k:Nat) (c d:Nat×Nat),Path s ys k c d→¬(lo≤d.1∧d.1<hi)→∃k1 k2 m,Run s ys lo hi k1 c m∧Path s ys k2 m d
 |0,c,d,h,hd=>⟨0,0,c,⟨rfl,by rw[show c=d from h];exact hd⟩,h⟩
 |k+1,c,d,h,hd=>by
  by_cases hc:lo≤c.1∧c.1<hi
  · obtain⟨e,he,hr⟩:=h;obtain⟨k1,k2,m,h3,h4⟩:=Path.run k e d hr hd;exact⟨k1+1,k2,m,⟨hc,e,he,h3⟩,h4⟩
  · exact⟨0,k+1,c,⟨rfl,hc⟩,h⟩
theorem Path.snoc:∀(k:Nat) (c d e:Nat×Nat),Path s ys k c d→Ed s ys d e→Path s ys (k+1) c e
 |0,c,d,e,h,he=>by rw[show c=d from h];exact⟨e,he,rfl⟩
 |k+1,c,d,e,h,he=>by
  obtain⟨f,hf,hr⟩:=h;exact⟨f,hf,Path.snoc k f d e hr he⟩
theorem Run.out {lo hi k:Nat} {c d:Nat×Nat} (h:Run s ys lo hi k c d) (hc:¬(lo≤c.1∧c.1<hi)):k=0∧c=d:=by
 cases k with
 |zero=>exact⟨rfl,h.1⟩
 |succ k=>exact absurd h.1 hc
theorem Run.move {lo hi k:Nat} {c d:Nat×Nat} (h:Run s ys lo hi k c d) (hc:lo≤c.1∧c.1<hi):∃k' e,k=k'+1∧Ed s ys c e∧Run s ys lo hi k' e d:=by
 cases k with
 |zero=>exact absurd hc h.2
 |succ k=>obtain⟨_,e,h1,h2⟩:=h;exact⟨k,e,rfl,h1,h2⟩
theorem Ed.two {p i:Nat} {e:Nat×Nat} {st:Stp} (h:Ed s ys (p,i) e) (hs:ys[p]?=some st) (ho:st.op=2):e=(st.x.toNat,i)∨e=(st.y.toNat,i):=by
 cases h with
 |eps h =>
  obtain⟨s',h1,h2⟩:=h;rw[hs]at h1;cases h1;rcases h2 with⟨_,rfl|rfl⟩|⟨h3,_⟩
  · exact .inl rfl
  · exact .inr rfl
  · omega
 |byte h1 h2 h3 =>
  rw[z7u hs]at h3;simp[z5R,ho]at h3
theorem Ed.one {p i:Nat} {e:Nat×Nat} {st:Stp} (h:Ed s ys (p,i) e) (hs:ys[p]?=some st) (ho:st.op=1):e=(p+1,i+1)∧i<s.size∧z5R st (byteAt s i)=true:=by
 cases h with
 |eps h =>
  obtain⟨s',h1,h2⟩:=h;rw[hs]at h1;cases h1;rcases h2 with⟨h3,_⟩|⟨h3,_⟩<;>omega
 |byte h1 h2 h3 =>
  rw[z7u hs]at h3;exact⟨rfl,h2,h3⟩
theorem Ed.four {p i:Nat} {e:Nat×Nat} {st:Stp} (h:Ed s ys (p,i) e) (hs:ys[p]?=some st) (ho:st.op=4):False:=by
 cases h with
 |eps h =>
  obtain⟨s',h1,h2⟩:=h;rw[hs]at h1;cases h1;rcases h2 with⟨h3,_⟩|⟨h3,_⟩<;>omega
 |byte h1 h2 h3 =>
  rw[z7u hs]at h3;simp[z5R,ho]at h3
def Frag (ys:List Stp) (n:Nat) (l:List Stp):Prop:=∀k,k<l.length→ys[n+k]?=l[k]?
theorem Frag.left {n:Nat} {a b:List Stp} (h:Frag ys n (a++b)):Frag ys n a:=fun k hk=>by
 rw[h k (by simp;omega),List.getElem?_append_left hk]
theorem Frag.right {n:Nat} {a b:List Stp} (h:Frag ys n (a++b)):Frag ys (n+a.length) b:=fun k hk=>by
 rw[show n+a.length+k=n+(a.length+k) by omega,h _ (by simp;omega),List.getElem?_append_right (by omega)]
 congr 1;omega
theorem Frag.head {n:Nat} {a:Stp} {b:List Stp} (h:Frag ys n (a::b)):ys[n]?=some a:=by
 have:=h 0 (by simp);simpa using this
theorem Frag.tail {n:Nat} {a:Stp} {b:List Stp} (h:Frag ys n (a::b)):Frag ys (n+1) b:=fun k hk=>by
 have:=h (k+1) (by simp;omega)
 rw[show n+1+k=n+(k+1) by omega,this];simp
end
section
variable (s:ByteArray)
end
theorem Star.one {R:Nat→Nat→Prop} {i m j:Nat} (h:R i m) (h':Star R m j):Star R i j:=.step h h'
section
variable {s:ByteArray} {ys:List Stp}
def Comp (s:ByteArray) (ys:List Stp) (x:Rex):Prop:=∀n i j,Frag ys n (lay n x)→Mt s x i j→Reach ys s n i→Reach ys s (n+(lay n x).length) j
theorem compL (l:List Rex):∀n i j,(∀k∈l,Comp s ys k)→Frag ys n (layL n l)→MtL s l i j→Reach ys s n i→Reach ys s (n+(layL n l).length) j:=by
 induction l with
 |nil=>intro n i j _ _ h hr;rw[show i=j from h]at hr;exact hr
 |cons x xs ih =>
  intro n i j hk hf h hr;rw[layL]at hf⊢;obtain⟨m,h1,h2⟩:=h;have a1:=hk x List.mem_cons_self n i m hf.left h1 hr;have a2:=ih _ m j (fun k u0=>hk k (List.mem_cons_of_mem _ u0)) hf.right h2 a1
  rw[List.length_append,←Nat.add_assoc];exact a2
end
abbrev dob (s:ByteArray) (a d:Nat) (b:Bool):Ob:=.box [Sx s,I a,I d,Bo b]
def specials:List Nat:=[124,42,43,63,40,41,91,93,46,92]
def oneS (c:Nat):List Int:=z4.set (c/64) (bitU (c%64))
def within2:List Nat:=[93,91,94,45]
def z0o (s:ByteArray) (a:Nat):Nat×Nat×Bool :=
 if over s a false then(0,a,true)
 else if byteAt s a==92 then
  if over s (a+1) false|| !signs.contains (byteAt s (a+1)) then(0,a+1,true) else(byteAt s (a+1),a+2,false)
 else(byteAt s a,a+1,within2.contains (byteAt s a))
theorem zff:∀c:Nat,c<256→((specials.contains c||c==94)||c==45)=signs.contains c:=by decide +kernel
theorem zbF (c:Nat):(((c==93||c==91)||c==94)||c==45)=within2.contains c:=by
 simp only[within2,List.contains_cons,List.contains_nil,Bool.or_false,Bool.or_assoc]
section
variable (σ:St) (p:Nat) (s:ByteArray) (a d:Nat)
theorem z60 (c:Nat):Ans Tryz.prog 188 [B8 c] σ (Bo (specials.contains c)) σ:=by
 have k:∀n:Nat,((c:Int)==(n:Int))=(c==n):=fun n=>z0l c n
 have k1:((c:Int)==124)=(c==124):=k 124;have k2:((c:Int)==42)=(c==42):=k 42;have k3:((c:Int)==43)=(c==43):=k 43;have k4:((c:Int)==63)=(c==63):=k 63;have k5:((c:Int)==40)=(c==40):=k 40;have k6:((c:Int)==41)=(c==41):=k 41;have k7:((c:Int)==91)=(c==91):=k 91;have k8:((c:Int)==93)=(c==93):=k 93;have k9:((c:Int)==46)=(c==46):=k 46;have u0:((c:Int)==92)=(c==92):=k 92;simp only[specials,List.contains_cons,List.contains_nil,Bool.or_false];refine Ans.of_run t188 ?_;simp -implicitDefEqProofs only[c188,r188,go_sem,k1];cases h1:c==124
 case true=>simp -implicitDefEqProofs only[go_sem];exact Fini.ret rfl
 simp -implicitDefEqProofs only[go_sem,k2];cases h2:c==42
 case true=>simp -implicitDefEqProofs only[go_sem];exact Fini.ret rfl
 simp -implicitDefEqProofs only[go_sem,k3];cases h3:c==43
 case true=>simp -implicitDefEqProofs only[go_sem];exact Fini.ret rfl
 simp -implicitDefEqProofs only[go_sem,k4];cases h4:c==63
 case true=>simp -implicitDefEqProofs only[go_sem];exact Fini.ret rfl
 simp -implicitDefEqProofs only[go_sem,k5];cases h5:c==40
 case true=>simp -implicitDefEqProofs only[go_sem];exact Fini.ret rfl
 simp -implicitDefEqProofs only[go_sem,k6];cases h6:c==41
 case true=>simp -implicitDefEqProofs only[go_sem];exact Fini.ret rfl
 simp -implicitDefEqProofs only[go_sem,k7];cases h7:c==91
 case true=>simp -implicitDefEqProofs only[go_sem];exact Fini.ret rfl
 simp -implicitDefEqProofs only[go_sem,k8];cases h8:c==93
 case true=>simp -implicitDefEqProofs only[go_sem];exact Fini.ret rfl
 simp -implicitDefEqProofs only[go_sem,k9];cases h9:c==46
 case true=>simp -implicitDefEqProofs only[go_sem];exact Fini.ret rfl
 simp -implicitDefEqProofs only[go_sem,u0];cases h10:c==92
 case true=>simp -implicitDefEqProofs only[go_sem];exact Fini.ret rfl
 simp -implicitDefEqProofs only[go_sem];exact Fini.ret rfl
theorem z6W (c:Nat) (hc:c<256):Ans Tryz.prog 184 [B8 c] σ (Bo (signs.contains c)) σ:=by
 have k1:((c:Int)==94)=(c==94):=z0l c 94;have k2:((c:Int)==45)=(c==45):=z0l c 45;rw[←zff c hc];refine Ans.of_run t184 ?_;simp -implicitDefEqProofs only[c184,r184,go_sem];refine CO.intro (z60 σ c) ?_;simp -implicitDefEqProofs only[go_sem,k1];cases h1:specials.contains c
 · simp -implicitDefEqProofs only[go_sem,k1];cases h2:c==94
   · simp -implicitDefEqProofs only[go_sem,k2];exact Fini.ret rfl
   · simp -implicitDefEqProofs only[go_sem,k2];exact Fini.ret rfl
 · simp -implicitDefEqProofs only[go_sem];exact Fini.ret rfl
theorem z7v (b:Bool) (h:σ[p]?=some (dob s a d b)):Ans Tryz.prog 172 [.ptr p 0] σ (Bo (!over s a b)) σ:=by
 refine Ans.of_run t172 ?_;cases b<;>simp -implicitDefEqProofs only[c172,r172,h,go_sem]
 · refine Fini.ret ?_
   have e:decide ((a:Int)<(s.size:Int))= !over s a false:=by
    simp only[over,Bool.false_or];rw[Bool.eq_iff_iff];simp
   simp -implicitDefEqProofs only[go_sem,e];rfl
 · exact Fini.ret rfl
theorem z2O (b:Bool) (h:σ[p]?=some (dob s a d b)):Ans Tryz.prog 185 [.ptr p 0] σ (.tup []) (σ.set p (dob s a d true)):=by
 refine Ans.of_run t185 ?_;simp -implicitDefEqProofs only[c185,r185,h,go_sem];exact Fini.normal2 (n:=0) rfl rfl rfl
theorem zaz (c:Nat) (hc:c<256):Ans Tryz.prog 186 [B8 c] σ (.agg ((oneS c).map U)) σ:=by
 have e1:IntKind.u8.wrap ((c:Int).tdiv 64)=((c/64:Nat):Int):=by
  rw[show(c:Int).tdiv 64=((c/64:Nat):Int) from rfl]
  simp only[IntKind.wrap,IntKind.bits,IntKind.signed];simp;omega
 have e2:(c:Int).tmod 64=((c%64:Nat):Int):=rfl;have e3:((64:Int)=0)=False:=by simp
 have e4:(((c/64:Nat):Int)<(4:Nat))=True:=by simp;omega
 have hk:c/64<4:=by omega
 have k0:∀(x y:Ob),(σ++[x,y])[σ.length]?=some x:=fun x y=>by rw[List.getElem?_append_right (by simp)];simp
 have k1:∀(x y:Ob),(σ++[x,y])[σ.length+1]?=some y:=fun x y=>by rw[List.getElem?_append_right (by simp)];simp
 have s0:∀(x y z:Ob),(σ++[x,y]).set σ.length z=σ++[z,y]:=fun x y z=>by rw[List.set_append_right _ _ (by simp)];simp
 have s1:∀(x y z:Ob),(σ++[x,y]).set (σ.length+1) z=σ++[x,z]:=fun x y z=>by rw[List.set_append_right _ _ (by simp)];simp
 refine Ans.of_run' t186 (fun u0 _=>?_)
 have hb:=z4t σ.length (oneS c);unfold oneS at hb⊢
 have e5:IntKind.u64.wrap ((c%64:Nat):Int)=((c%64:Nat):Int):=by
  simp only[IntKind.wrap,IntKind.bits,IntKind.signed];simp;omega
 simp -implicitDefEqProofs only[c186,r186,go_sem,e1,e2,e3,e4,e5,Nat.mul_one,k0,k1,s0,s1,List.append_assoc,List.length_append];generalize hw:bitU (c%64)=w at hb⊢;have y0:IntKind.u64.wrap (1*2^min (c%64) 64)=w:=hw;rw[y0];generalize c/64=k at hk hb⊢
 match k,hk with
 |0,_ =>
  simp -implicitDefEqProofs only[go_sem,k0,k1,s0,s1];exact Fini.trim2 (σ':=σ) (ex:=[_,_]) (by simp -implicitDefEqProofs only[go_sem,resA,z03,rvA,oneOf,k0]) rfl (Nat.le_refl _) hb u0
 |1,_ =>
  simp -implicitDefEqProofs only[go_sem,k0,k1,s0,s1];exact Fini.trim2 (σ':=σ) (ex:=[_,_]) (by simp -implicitDefEqProofs only[go_sem,resA,z03,rvA,oneOf,k0]) rfl (Nat.le_refl _) hb u0
 |2,_ =>
  simp -implicitDefEqProofs only[go_sem,k0,k1,s0,s1];exact Fini.trim2 (σ':=σ) (ex:=[_,_]) (by simp -implicitDefEqProofs only[go_sem,resA,z03,rvA,oneOf,k0]) rfl (Nat.le_refl _) hb u0
 |3,_ =>
  simp -implicitDefEqProofs only[go_sem,k0,k1,s0,s1];exact Fini.trim2 (σ':=σ) (ex:=[_,_]) (by simp -implicitDefEqProofs only[go_sem,resA,z03,rvA,oneOf,k0]) rfl (Nat.le_refl _) hb u0
theorem z9F (hs:s.size≤40) (h:σ[p]?=some (dob s a d false)):Ans Tryz.prog 190 [.ptr p 0] σ (B8 (z0o s a).1) (σ.set p (dob s (z0o s a).2.1 d (z0o s a).2.2)):=by
 have hp:p<σ.length:=(List.getElem?_eq_some_iff.1 h).1;have hg:∀o,(σ.set p o)[p]?=some o:=fun o=>by simp[hp]
 refine Ans.of_run t190 ?_;simp -implicitDefEqProofs only[c190,r190,h,go_sem];refine CO.intro (z7v σ p s a d false h) ?_;unfold z0o
 cases ho:over s a false with
 |true =>
  simp -implicitDefEqProofs only[go_sem];refine CO.intro (z2O σ p s a d false h) ?_;simp -implicitDefEqProofs only[go_sem];exact Fini.ret rfl
 |false =>
  have hlt:=z1p ho;have h1:(a:Int)<s.size:=by omega
  have j0:(((byteAt s a:Nat):Int)==92)=(byteAt s a==92):=z0l _ 92;have k0:(((byteAt s a:Nat):Int)==93)=(byteAt s a==93):=z0l _ 93;have y0:(((byteAt s a:Nat):Int)==91)=(byteAt s a==91):=z0l _ 91;have u0:(((byteAt s a:Nat):Int)==94)=(byteAt s a==94):=z0l _ 94;have q0:(((byteAt s a:Nat):Int)==45)=(byteAt s a==45):=z0l _ 45;simp -implicitDefEqProofs only[go_sem,h,h1,z07,z0R (show a≤4294967296 by omega),j0]
  cases hc:byteAt s a==92 with
  |true =>
   simp -implicitDefEqProofs only[go_sem];refine CD.intro (z7v _ p s (a+1) d false (hg _)) ?_
   cases ho2:over s (a+1) false with
   |true =>
    simp -implicitDefEqProofs only[go_sem,hg];refine CO.intro (z2O _ p s (a+1) d false (hg _)) ?_;simp -implicitDefEqProofs only[go_sem,List.set_set,Bool.true_or];exact Fini.ret rfl
   |false =>
    have m0:=z1p ho2;have h2:((a+1:Nat):Int)<s.size:=by omega
    simp -implicitDefEqProofs only[go_sem,hg,h2,z07];refine CD.intro (z6W _ (byteAt s (a+1)) (z1Y _ _)) ?_
    cases hq:signs.contains (byteAt s (a+1)) with
    |false =>
     simp -implicitDefEqProofs only[go_sem,hg];refine CO.intro (z2O _ p s (a+1) d false (hg _)) ?_;simp -implicitDefEqProofs only[go_sem,List.set_set,Bool.or_true];exact Fini.ret rfl
    |true =>
     have h3:IntKind.i64.wrap (((a+1+1:Nat):Int)-1)=((a+1:Nat):Int):=by
      simp only[IntKind.wrap,IntKind.bits,IntKind.signed];simp;omega
     simp -implicitDefEqProofs only[go_sem,hg,List.set_set,z0R (show a+1≤4294967296 by omega),h2,h3,z07,Bool.or_false]
     exact Fini.ret rfl
  |false =>
   rw[←zbF];simp -implicitDefEqProofs only[go_sem,k0,y0,u0,q0];cases h93:byteAt s a==93
   case true =>
    simp -implicitDefEqProofs only[go_sem];refine CO.intro (z2O _ p s (a+1) d false (hg _)) ?_;simp -implicitDefEqProofs only[go_sem,List.set_set,Bool.true_or];exact Fini.ret rfl
   simp -implicitDefEqProofs only[go_sem,y0];cases h91:byteAt s a==91
   case true =>
    simp -implicitDefEqProofs only[go_sem];refine CO.intro (z2O _ p s (a+1) d false (hg _)) ?_;simp -implicitDefEqProofs only[go_sem,List.set_set,Bool.true_or,Bool.or_true];exact Fini.ret rfl
   simp -implicitDefEqProofs only[go_sem,u0];cases h94:byteAt s a==94
   case true =>
    simp -implicitDefEqProofs only[go_sem];refine CO.intro (z2O _ p s (a+1) d false (hg _)) ?_;simp -implicitDefEqProofs only[go_sem,List.set_set,Bool.true_or,Bool.or_true];exact Fini.ret rfl
   simp -implicitDefEqProofs only[go_sem,q0];cases h45:byteAt s a==45
   case true =>
    simp -implicitDefEqProofs only[go_sem];refine CO.intro (z2O _ p s (a+1) d false (hg _)) ?_;simp -implicitDefEqProofs only[go_sem,List.set_set,Bool.true_or,Bool.or_true];exact Fini.ret rfl
   simp -implicitDefEqProofs only[go_sem,Bool.or_self];exact Fini.ret rfl
end
def dTo (s:ByteArray) (a:Nat):Nat×Nat×Bool :=
 if sees s (z0o s a).2.1 (z0o s a).2.2 45 then z0o s ((z0o s a).2.1+1) else z0o s a
def dBad (s:ByteArray) (a:Nat):Bool:=(dTo s a).2.2||decide ((dTo s a).1<(z0o s a).1)
def dGo (s:ByteArray) (a:Nat) (b:Bool):Bool:=!over s a b&& !sees s a b 93
def z0S (s:ByteArray):Nat→List Int→Nat→Bool→Nat→List Int×Nat×Bool×Nat
 |0,S,a,b,n=>(S,a,b,n)
 |k+1,S,a,b,n=>if dGo s a b then
   z0S s k (addR S (z0o s a).1 ((dTo s a).1+1-(z0o s a).1)) (dTo s a).2.1 (dBad s a) (n+1)
  else(S,a,b,n)
def zeroR:Rex:=.mk 0 0 0 0 0 []
def dOut (s:ByteArray) (neg:Bool) (l:List Int×Nat×Bool×Nat):Rex×Nat×Bool :=
 if over s l.2.1 l.2.2.1||l.2.2.2==0 then(zeroR,l.2.1,true)
 else(ofSet (if neg then turnS l.1 else l.1),l.2.1+1,false)
def z1M (s:ByteArray) (a:Nat):Rex×Nat×Bool :=
 dOut s (sees s a false 94) (z0S s (s.size+3) z4 (nextA s a false 94) false 0)
def c55c:List Tmp:=[1,6,7,8,9,10,11,12,13,14,15,16,17,18,19,20,21,22,23,24,25,26,27,28,29,30,31,32,33,34,35,36,37,38,39,40,41,42,43,44,45,46,47,48,49,50,51,52,53,54,55,56,57,58,59,60,61,62,63,64,65,66,67,68,69,70,71,72,73,74,75,76,77,78,79,80,81,82,83,84,85,86,87,88,89,90,91,92,93,94,95,96,97,98,99,100,101,102,103,104,105,106,107,108,109,110,111,112,113,114,115,116,117,118,119,120,121,122,123,124,125,126,127,128]
def c55x:ACode :=
 (.seq (.seq (.draw [⟨⟨some 32,none,.prim (.mov (.tmp 0))⟩,[],false,0,0⟩,
   ⟨⟨some 33,none,.call (.func 172) [(.tmp 32)]⟩,[0],true,0,0⟩,
   ⟨⟨some 34,none,.prim (.mov (.tmp 33))⟩,[0,1],false,1,1⟩,
   ⟨⟨some 35,(some (34,true)),.prim (.mov (.tmp 0))⟩,[0,1,2],false,1,1⟩,
   ⟨⟨some 36,(some (34,true)),.prim (.nilc (.tmp 35))⟩,[0,1,2,3],false,1,1⟩,
   ⟨⟨some 37,(some (34,true)),.prim (.fadr 0 (.tmp 36))⟩,[0,1,2,3,4],false,1,1⟩,
   ⟨⟨some 38,(some (34,true)),.prim (.load 1 false (.tmp 37))⟩,(List.range 6),false,1,1⟩,
   ⟨⟨some 39,(some (34,true)),.prim (.mov (.tmp 0))⟩,[0,1,2],false,1,1⟩,
   ⟨⟨some 40,(some (34,true)),.prim (.nilc (.tmp 39))⟩,[0,1,2,7],false,1,1⟩,
   ⟨⟨some 41,(some (34,true)),.prim (.fadr 1 (.tmp 40))⟩,[0,1,2,7,8],false,1,1⟩,
   ⟨⟨some 42,(some (34,true)),.prim (.load 1 false (.tmp 41))⟩,[0,1,2,7,8,9],false,1,1⟩,
   ⟨⟨some 43,(some (34,true)),.prim (.idxs (.tmp 38) (.tmp 42))⟩,(List.range 11),false,1,1⟩,
   ⟨⟨some 44,(some (34,true)),.prim (.bin false .neq (.tmp 43) (.const (Go.Value.int Go.IntKind.u8 93)))⟩,(List.range 12),false,1,1⟩,
   ⟨⟨some 45,none,.prim (.pick (.tmp 34) (.tmp 44) (.const (Go.Value.bool Bool.false)))⟩,(List.range 13),false,1,1⟩])
  (.cond (.tmp 45)
  .skip
  (.exit 0)))
  (.block 1 (.seq (.ops [⟨some 46,none,.prim (.mov (.tmp 0))⟩,
   ⟨some 47,none,.call (.func 190) [(.tmp 46)]⟩,
   ⟨some 6,none,.prim (.mov (.tmp 47))⟩])
  (.seq (.ops [⟨some 48,none,.prim (.mov (.tmp 6))⟩,
   ⟨some 7,none,.prim (.mov (.tmp 48))⟩])
  (.seq (.seq (.draw [⟨⟨some 49,none,.prim (.mov (.tmp 0))⟩,[],false,0,0⟩,
   ⟨⟨some 50,none,.call (.func 172) [(.tmp 49)]⟩,[0],true,0,0⟩,
   ⟨⟨some 51,none,.prim (.mov (.tmp 50))⟩,[0,1],false,1,1⟩,
   ⟨⟨some 52,(some (51,true)),.prim (.mov (.tmp 0))⟩,[0,1,2],false,1,1⟩,
   ⟨⟨some 53,(some (51,true)),.prim (.nilc (.tmp 52))⟩,[0,1,2,3],false,1,1⟩,
   ⟨⟨some 54,(some (51,true)),.prim (.fadr 0 (.tmp 53))⟩,[0,1,2,3,4],false,1,1⟩,
   ⟨⟨some 55,(some (51,true)),.prim (.load 1 false (.tmp 54))⟩,(List.range 6),false,1,1⟩,
   ⟨⟨some 56,(some (51,true)),.prim (.mov (.tmp 0))⟩,[0,1,2],false,1,1⟩,
   ⟨⟨some 57,(some (51,true)),.prim (.nilc (.tmp 56))⟩,[0,1,2,7],false,1,1⟩,
   ⟨⟨some 58,(some (51,true)),.prim (.fadr 1 (.tmp 57))⟩,[0,1,2,7,8],false,1,1⟩,
   ⟨⟨some 59,(some (51,true)),.prim (.load 1 false (.tmp 58))⟩,[0,1,2,7,8,9],false,1,1⟩,
   ⟨⟨some 60,(some (51,true)),.prim (.idxs (.tmp 55) (.tmp 59))⟩,(List.range 11),false,1,1⟩,
   ⟨⟨some 61,(some (51,true)),.prim (.bin false .eql (.tmp 60) (.const (Go.Value.int Go.IntKind.u8 45)))⟩,(List.range 12),false,1,1⟩,
   ⟨⟨some 62,none,.prim (.pick (.tmp 51) (.tmp 61) (.const (Go.Value.bool Bool.false)))⟩,(List.range 13),false,1,1⟩])
  (.cond (.tmp 62)
  (.seq (.ops [⟨some 63,none,.prim (.mov (.tmp 0))⟩,
   ⟨some 64,none,.prim (.nilc (.tmp 63))⟩,
   ⟨some 65,none,.prim (.fadr 1 (.tmp 64))⟩,
   ⟨some 66,none,.prim (.load 1 false (.tmp 65))⟩,
   ⟨some 67,none,.prim (.bin false .add (.tmp 66) (.const (Go.Value.int Go.IntKind.i64 1)))⟩,
   ⟨some 68,none,.prim (.nilc (.tmp 63))⟩,
   ⟨some 69,none,.prim (.fadr 1 (.tmp 68))⟩,
   ⟨none,none,.prim (.store 1 (.tmp 69) (.tmp 67))⟩])
  (.ops [⟨some 70,none,.prim (.mov (.tmp 0))⟩,
   ⟨some 71,none,.call (.func 190) [(.tmp 70)]⟩,
   ⟨some 7,none,.prim (.mov (.tmp 71))⟩]))
  .skip))
  (.seq (.seq (.ops [⟨some 72,none,.prim (.mov (.tmp 7))⟩,
   ⟨some 73,none,.prim (.mov (.tmp 6))⟩,
   ⟨some 74,none,.prim (.bin false .lss (.tmp 72) (.tmp 73))⟩])
  (.cond (.tmp 74)
  (.ops [⟨some 75,none,.prim (.mov (.tmp 0))⟩,
   ⟨some 76,none,.call (.func 185) [(.tmp 75)]⟩])
  .skip))
  (.seq (.seq (.ops [⟨some 77,none,.prim (.mov (.tmp 6))⟩,
   ⟨some 78,none,.prim (.convi .i64 (.tmp 77))⟩,
   ⟨some 8,none,.prim (.mov (.tmp 78))⟩])
  (.block 2 (.loop [1,6,9,10,11,12,13,14,15,16,17,18,19,20,21,22,23,24,25,26,27,28,29,30,31,32,33,34,35,36,37,38,39,40,41,42,43,44,45,46,47,48,49,50,51,52,53,54,55,56,57,58,59,60,61,62,63,64,65,66,67,68,69,70,71,72,73,74,75,76,77,78,79,80,81,82,83,84,85,86,87,88,89,90,91,92,93,94,95,96,97,98,99,100,101,102,103,104,105,106,107,108,109,110,111,112,113,114,115,116,117,118,119,120,121,122,123,124,125,126,127,128] (.seq (.seq (.ops [⟨some 79,none,.prim (.mov (.tmp 8))⟩,
   ⟨some 80,none,.prim (.mov (.tmp 7))⟩,
   ⟨some 81,none,.prim (.convi .i64 (.tmp 80))⟩,
   ⟨some 82,none,.prim (.bin false .leq (.tmp 79) (.tmp 81))⟩])
  (.cond (.tmp 82)
  .skip
  (.exit 2)))
  (.seq (.block 3 (.ops [⟨some 85,none,.prim (.mov (.tmp 8))⟩,
   ⟨some 86,none,.prim (.bin false .quo (.tmp 85) (.const (Go.Value.int Go.IntKind.i64 64)))⟩,
   ⟨some 87,none,.prim (.mov (.tmp 8))⟩,
   ⟨some 88,none,.prim (.bin false .quo (.tmp 87) (.const (Go.Value.int Go.IntKind.i64 64)))⟩,
   ⟨some 89,none,.prim (.iadra 1 4 (.tmp 4) (.tmp 88))⟩,
   ⟨some 90,none,.prim (.load 1 false (.tmp 89))⟩,
   ⟨some 91,none,.prim (.mov (.tmp 8))⟩,
   ⟨some 92,none,.prim (.bin false .rem (.tmp 91) (.const (Go.Value.int Go.IntKind.i64 64)))⟩,
   ⟨some 93,none,.prim (.convi .u64 (.tmp 92))⟩,
   ⟨some 94,none,.prim (.bin false .shl (.const (Go.Value.int Go.IntKind.u64 1)) (.tmp 93))⟩,
   ⟨some 95,none,.prim (.bin false .or (.tmp 90) (.tmp 94))⟩,
   ⟨some 96,none,.prim (.iadra 1 4 (.tmp 4) (.tmp 86))⟩,
   ⟨none,none,.prim (.store 1 (.tmp 96) (.tmp 95))⟩]))
  (.ops [⟨some 83,none,.prim (.mov (.tmp 8))⟩,
   ⟨some 84,none,.prim (.bin false .add (.tmp 83) (.const (Go.Value.int Go.IntKind.i64 1)))⟩,
   ⟨some 8,none,.prim (.mov (.tmp 84))⟩]))))))
  (.ops [⟨some 97,none,.prim (.mov (.tmp 5))⟩,
   ⟨some 98,none,.prim (.bin false .add (.tmp 97) (.const (Go.Value.int Go.IntKind.i64 1)))⟩,
   ⟨some 5,none,.prim (.mov (.tmp 98))⟩]))))))))
def c55k:ACode :=
 (.seq (.seq (.ops [⟨some 99,none,.prim (.mov (.tmp 0))⟩,
   ⟨some 100,none,.call (.func 172) [(.tmp 99)]⟩,
   ⟨some 101,none,.prim (.un .not (.tmp 100))⟩,
   ⟨some 102,none,.prim (.mov (.tmp 101))⟩,
   ⟨some 103,(some (102,false)),.prim (.mov (.tmp 5))⟩,
   ⟨some 104,(some (102,false)),.prim (.bin false .eql (.tmp 103) (.const (Go.Value.int Go.IntKind.i64 0)))⟩,
   ⟨some 105,none,.prim (.pick (.tmp 102) (.const (Go.Value.bool Bool.true)) (.tmp 104))⟩])
  (.cond (.tmp 105)
  (.seq (.ops [⟨some 106,none,.prim (.mov (.tmp 0))⟩,
   ⟨some 107,none,.call (.func 185) [(.tmp 106)]⟩])
  (.seq (.ops [⟨some 108,none,.prim (.build [.pl (.int .i64 0),.pl (.int .u64 0),.pl (.int .u64 0),.pl (.int .u64 0),.pl (.int .u64 0),.nils] [])⟩,
   ⟨none,none,.prim (.store 6 (.tmp 2) (.tmp 108))⟩])
  .ret))
  .skip))
  (.seq (.ops [⟨some 109,none,.prim (.mov (.tmp 0))⟩,
   ⟨some 110,none,.prim (.nilc (.tmp 109))⟩,
   ⟨some 111,none,.prim (.fadr 1 (.tmp 110))⟩,
   ⟨some 112,none,.prim (.load 1 false (.tmp 111))⟩,
   ⟨some 113,none,.prim (.bin false .add (.tmp 112) (.const (Go.Value.int Go.IntKind.i64 1)))⟩,
   ⟨some 114,none,.prim (.nilc (.tmp 109))⟩,
   ⟨some 115,none,.prim (.fadr 1 (.tmp 114))⟩,
   ⟨none,none,.prim (.store 1 (.tmp 115) (.tmp 113))⟩])
  (.seq (.seq (.ops [⟨some 116,none,.prim (.mov (.tmp 3))⟩])
  (.cond (.tmp 116)
  (.seq (.ops [⟨some 9,none,.prim (.mov (.const (Go.Value.int Go.IntKind.i64 0)))⟩])
  (.block 4 (.loop [0,1,3,5,6,7,8,10,11,12,13,14,15,16,17,18,19,20,21,22,23,24,25,26,27,28,29,30,31,32,33,34,35,36,37,38,39,40,41,42,43,44,45,46,47,48,49,50,51,52,53,54,55,56,57,58,59,60,61,62,63,64,65,66,67,68,69,70,71,72,73,74,75,76,77,78,79,80,81,82,83,84,85,86,87,88,89,90,91,92,93,94,95,96,97,98,99,100,101,102,103,104,105,106,107,108,109,110,111,112,113,114,115,116,117,118,119,120,121,122,123,124,125,126,127,128] (.seq (.seq (.ops [⟨some 117,none,.prim (.mov (.tmp 9))⟩,
   ⟨some 118,none,.prim (.bin false .lss (.tmp 117) (.const (Go.Value.int Go.IntKind.i64 4)))⟩])
  (.cond (.tmp 118)
  .skip
  (.exit 4)))
  (.seq (.block 5 (.ops [⟨some 121,none,.prim (.mov (.tmp 9))⟩,
   ⟨some 122,none,.prim (.mov (.tmp 9))⟩,
   ⟨some 123,none,.prim (.iadra 1 4 (.tmp 4) (.tmp 122))⟩,
   ⟨some 124,none,.prim (.load 1 false (.tmp 123))⟩,
   ⟨some 125,none,.prim (.un .xor (.tmp 124))⟩,
   ⟨some 126,none,.prim (.iadra 1 4 (.tmp 4) (.tmp 121))⟩,
   ⟨none,none,.prim (.store 1 (.tmp 126) (.tmp 125))⟩]))
  (.ops [⟨some 119,none,.prim (.mov (.tmp 9))⟩,
   ⟨some 120,none,.prim (.bin false .add (.tmp 119) (.const (Go.Value.int Go.IntKind.i64 1)))⟩,
   ⟨some 9,none,.prim (.mov (.tmp 120))⟩]))))))
  .skip))
  (.seq (.ops [⟨some 127,none,.prim (.load 4 true (.tmp 4))⟩,
   ⟨some 128,none,.prim (.build [.pl (.int .i64 0),.pl (.int .u64 0),.pl (.int .u64 0),.pl (.int .u64 0),.pl (.int .u64 0),.nils] [(0,1,(.const (Go.Value.int Go.IntKind.i64 1))),(1,4,(.tmp 127))])⟩,
   ⟨none,none,.prim (.store 6 (.tmp 2) (.tmp 128))⟩])
  .ret))))
def c55d:List Tmp:=[1,6,9,10,11,12,13,14,15,16,17,18,19,20,21,22,23,24,25,26,27,28,29,30,31,32,33,34,35,36,37,38,39,40,41,42,43,44,45,46,47,48,49,50,51,52,53,54,55,56,57,58,59,60,61,62,63,64,65,66,67,68,69,70,71,72,73,74,75,76,77,78,79,80,81,82,83,84,85,86,87,88,89,90,91,92,93,94,95,96,97,98,99,100,101,102,103,104,105,106,107,108,109,110,111,112,113,114,115,116,117,118,119,120,121,122,123,124,125,126,127,128]
def c55y:ACode :=
 (.seq (.seq (.ops [⟨some 79,none,.prim (.mov (.tmp 8))⟩,
   ⟨some 80,none,.prim (.mov (.tmp 7))⟩,
   ⟨some 81,none,.prim (.convi .i64 (.tmp 80))⟩,
   ⟨some 82,none,.prim (.bin false .leq (.tmp 79) (.tmp 81))⟩])
  (.cond (.tmp 82)
  .skip
  (.exit 2)))
  (.seq (.block 3 (.ops [⟨some 85,none,.prim (.mov (.tmp 8))⟩,
   ⟨some 86,none,.prim (.bin false .quo (.tmp 85) (.const (Go.Value.int Go.IntKind.i64 64)))⟩,
   ⟨some 87,none,.prim (.mov (.tmp 8))⟩,
   ⟨some 88,none,.prim (.bin false .quo (.tmp 87) (.const (Go.Value.int Go.IntKind.i64 64)))⟩,
   ⟨some 89,none,.prim (.iadra 1 4 (.tmp 4) (.tmp 88))⟩,
   ⟨some 90,none,.prim (.load 1 false (.tmp 89))⟩,
   ⟨some 91,none,.prim (.mov (.tmp 8))⟩,
   ⟨some 92,none,.prim (.bin false .rem (.tmp 91) (.const (Go.Value.int Go.IntKind.i64 64)))⟩,
   ⟨some 93,none,.prim (.convi .u64 (.tmp 92))⟩,
   ⟨some 94,none,.prim (.bin false .shl (.const (Go.Value.int Go.IntKind.u64 1)) (.tmp 93))⟩,
   ⟨some 95,none,.prim (.bin false .or (.tmp 90) (.tmp 94))⟩,
   ⟨some 96,none,.prim (.iadra 1 4 (.tmp 4) (.tmp 86))⟩,
   ⟨none,none,.prim (.store 1 (.tmp 96) (.tmp 95))⟩]))
  (.ops [⟨some 83,none,.prim (.mov (.tmp 8))⟩,
   ⟨some 84,none,.prim (.bin false .add (.tmp 83) (.const (Go.Value.int Go.IntKind.i64 1)))⟩,
   ⟨some 8,none,.prim (.mov (.tmp 84))⟩])))
theorem z6X (s:ByteArray) (a:Nat):a≤(z0o s a).2.1:=by
 unfold z0o
 repeat' split
 all_goals simp only
 all_goals omega
theorem z6Y (s:ByteArray) (a:Nat) (h:over s a false=false):a+1≤(z0o s a).2.1:=by
 unfold z0o;rw[h];simp only[Bool.false_eq_true,if_false]
 repeat' split
 all_goals simp only
 all_goals omega
theorem z6Z (s:ByteArray) (a:Nat):(z0o s a).1<256:=by
 unfold z0o
 repeat' split
 all_goals first
 |exact z1Y _ _
 |(show 0<256;decide)
theorem zd8 (s:ByteArray) (a:Nat):(z0o s a).2.1≤(dTo s a).2.1:=by
 unfold dTo;split
 · exact Nat.le_trans (Nat.le_succ _) (z6X _ _)
 · exact Nat.le_refl _
theorem ziT (s:ByteArray) (a:Nat):(dTo s a).1<256:=by
 unfold dTo;split<;>exact z6Z _ _
section
variable {σ:St} {p:Nat} {s:ByteArray}
theorem z1G (hp:p<σ.length) (a d:Nat) (b:Bool) (ex:St):Ans Tryz.prog 172 [.ptr p 0] (σ.set p (dob s a d b)++ex) (Bo (!over s a b)) (σ.set p (dob s a d b)++ex) :=
 z7v _ p s a d b (gA hp _ _)
theorem z2D (hp:p<σ.length) (a d:Nat) (b:Bool) (ex:St):Ans Tryz.prog 185 [.ptr p 0] (σ.set p (dob s a d b)++ex) (.tup []) (σ.set p (dob s a d true)++ex):=by
 have:=z2O _ p s a d b (gA hp (dob s a d b) ex)
 rwa [sA hp]at this
theorem z70 (hp:p<σ.length) (a d:Nat) (hs:s.size≤40) (ex:St):Ans Tryz.prog 190 [.ptr p 0] (σ.set p (dob s a d false)++ex) (B8 (z0o s a).1) (σ.set p (dob s (z0o s a).2.1 d (z0o s a).2.2)++ex):=by
 have:=z9F _ p s a d hs (gA hp (dob s a d false) ex)
 rwa [sA hp]at this
end
theorem zhx (n:Nat) (s:ByteArray) (a d:Nat) (b:Bool):BelO n (dob s a d b):=by
 intro x hx;simp only[List.mem_cons,List.not_mem_nil,or_false]at hx;rcases hx with rfl|rfl|rfl|rfl<;>exact .pl _
theorem z61 {σ:St} {p:Nat} {s:ByteArray} {a d:Nat} {b:Bool} (h:∀o∈σ.set p (dob s a d b),BelO (σ.set p (dob s a d b)).length o) (a' d':Nat) (b':Bool) :
  ∀o∈σ.set p (dob s a' d' b'),BelO (σ.set p (dob s a' d' b')).length o:=by
 have e:σ.set p (dob s a' d' b')=(σ.set p (dob s a d b)).set p (dob s a' d' b'):=by rw[List.set_set]
 have el:(σ.set p (dob s a' d' b')).length=(σ.set p (dob s a d b)).length:=by simp
 rw[el,e];exact z1Z h (zhx _ _ _ _ _)
theorem z0H {s:ByteArray} {a:Nat} (h:over s a false=false) (c:Nat):sees s a false c=(byteAt s a==c):=by simp[sees,h]
section
variable (σ:St) (p:Nat) (s:ByteArray) (a d:Nat)
theorem z3a (hp:p<σ.length) (neg:Bool) (n f t aT:Nat) (bT:Bool) (S:List Int) (h3:S.length=4) (hf:f<256) (ht:t<256) (k:List Fr) (B:Bs)
  (h:N Tryz.prog σ.length k B (mkE 129 [(0,.ptr p 0),(2,.ptr σ.length 0),(3,Bo neg),(4,.ptr (σ.length+1) 0),(5,I n),(7,B8 t),(8,I ((f+(t+1-f):Nat):Int)),(79,I ((f+(t+1-f):Nat):Int)),(80,B8 t),(81,I t),(82,Bo false)])
   (σ.set p (dob s aT d bT)++[box0,.box ((addR S f (t+1-f)).map U)])) :
  L Tryz.prog σ.length c55d c55y (Fr.block 2::k) B (mkE 129 [(0,.ptr p 0),(2,.ptr σ.length 0),(3,Bo neg),(4,.ptr (σ.length+1) 0),(5,I n),(7,B8 t),(8,I f)])
    (σ.set p (dob s aT d bT)++[box0,.box (S.map U)]):=by
 have d3:IntKind.i64.wrap (t:Int)=(t:Int):=wrap64 (by omega)
 refine L.count (t+1-f) (fun i=>mkE 129 [(0,.ptr p 0),(2,.ptr σ.length 0),(3,Bo neg),(4,.ptr (σ.length+1) 0),(5,I n),(7,B8 t),(8,I ((f+i:Nat):Int))])
  (fun i=>σ.set p (dob s aT d bT)++[box0,.box ((addR S f i).map U)]) ?_ ?_ rfl rfl
 · intro i hi Q hQ;have c1:(((f+i:Nat):Int)≤(t:Int))=True:=by simp;omega
   have c3:IntKind.i64.wrap (((f+i:Nat):Int)+1)=((f+(i+1):Nat):Int):=by rw[wrapN (by omega) (by omega)];omega
   have e1:IntKind.i64.wrap (((f+i:Nat):Int).tdiv 64)=(((f+i)/64:Nat):Int):=by
    rw[show((f+i:Nat):Int).tdiv 64=(((f+i)/64:Nat):Int) from rfl];exact wrapN (by omega) (by omega)
   have e2:((f+i:Nat):Int).tmod 64=(((f+i)%64:Nat):Int):=rfl;have e3:((64:Int)=0)=False:=by simp
   have e4:((((f+i)/64:Nat):Int)<(4:Nat))=True:=by simp;omega
   have e5:IntKind.u64.wrap (((f+i)%64:Nat):Int)=(((f+i)%64:Nat):Int):=by
    simp only[IntKind.wrap,IntKind.bits,IntKind.signed];simp;omega
   have hT:(addR S f i).length=4:=by rw[z2N];exact h3
   have hv:=z5T hT (c:=f+i) (by omega)
   have u0:=z38 (addR S f i) (f+i);rw[addR]at hQ;rw[←u0]at hQ;clear u0;generalize hw:(addR S f i).getD ((f+i)/64) 0=v at hv hQ;have hl:((addR S f i).map U).length=4:=by simpa using hT
   generalize (addR S f i).map U=cs at hv hQ hl⊢;have hk:(f+i)/64<cs.length:=by rw[hl];omega
   rw[Nat.zero_add]at hv hQ
   have e6:cs.drop ((f+i)/64)=U v::cs.drop ((f+i)/64+1):=by
    rw[List.drop_eq_getElem_cons hk];have:=(List.getElem?_eq_some_iff.1 hv).2;rw[this]
   have e7:((f+i)/64+1≤cs.length)=True:=by simp;omega
   have e8:(1≤(cs.drop ((f+i)/64+1)).length+1)=True:=by simp
   have y0:∀y:AV,cs.set ((f+i)/64) y=cs.take ((f+i)/64)++[y]++cs.drop ((f+i)/64+1):=fun y=>by rw[List.set_eq_take_append_cons_drop,if_pos hk];simp
   rw[y0]at hQ;simp -implicitDefEqProofs only[c55y,c55d,mkE,go_sem,d3,c1,e1,e2,e3,e4,e5,Nat.mul_one,gA hp,sA hp,gL0,sL0,gL1,sL1,e6,e7,e8,c3];exact hQ
 · intro Q;have c1:(((f+(t+1-f):Nat):Int)≤(t:Int))=False:=by simp;omega
   have c2:decide (((f+(t+1-f):Nat):Int)≤(t:Int))=false:=by simp;omega
   simp -implicitDefEqProofs only[c55y,c55d,mkE,go_sem,d3,c1,c2];simp -implicitDefEqProofs only[mkE,go_sem]at h;exact h
theorem z62 (hp:p<σ.length) (hs:s.size≤40) (neg:Bool) (a0:Nat) (r:List RV) (hr:r=r187)
  (hb2:∀(a' d':Nat) (b':Bool) (o:Ob),o∈σ.set p (dob s a' d' b')→BelO (σ.set p (dob s a' d' b')).length o)
  (res:List Int×Nat×Bool×Nat) (hres:z0S s (s.size+3) z4 a0 false 0=res) :
  L Tryz.prog σ.length c55c c55x [Fr.block 0,Fr.seq c55k] (Fini σ.length r (dOut s neg res).1.rv (σ.set p (dob s (dOut s neg res).2.1 d (dOut s neg res).2.2)))
    (mkE 129 [(0,.ptr p 0),(2,.ptr σ.length 0),(3,Bo neg),(4,.ptr (σ.length+1) 0),(5,I 0)])
    (σ.set p (dob s a0 d false)++[box0,.box (z4.map U)]):=by
 subst hr;have q1:IntKind.i64.wrap (0+1)=1:=by decide
 have q2:IntKind.i64.wrap (1+1)=2:=by decide
 have q3:IntKind.i64.wrap (2+1)=3:=by decide
 have q4:IntKind.i64.wrap (3+1)=4:=by decide
 have n1:Int.toNat 1=1:=rfl;have n2:Int.toNat 2=2:=rfl;have n3:Int.toNat 3=3:=rfl;have c4:((4:Nat):Int)=4:=rfl;unfold dOut
 refine L.intro (α:={ x:Nat×List Int×Nat×Bool×Nat // z0S s x.1 x.2.1 x.2.2.1 x.2.2.2.1 x.2.2.2.2=res∧s.size-x.2.2.1<x.1∧x.2.1.length=4∧x.2.2.2.2≤x.2.2.1 })
  (fun x=>x.1.1)
  (fun x=>mkE 129 [(0,.ptr p 0),(2,.ptr σ.length 0),(3,Bo neg),(4,.ptr (σ.length+1) 0),(5,I x.1.2.2.2.2)])
  (fun x=>σ.set p (dob s x.1.2.2.1 d x.1.2.2.2.1)++[box0,.box (x.1.2.1.map U)])
  (fun x J hJ=>?_) ⟨(s.size+3,z4,a0,false,0),hres,by simp only;omega,rfl,Nat.zero_le _⟩ rfl rfl
 obtain⟨⟨k,S,a1,b1,n⟩,h1,h2,h3,h4⟩:=x;simp only at h1 h2 h3 h4 hJ⊢;rcases k with _|k
 · omega
 rw[z0S]at h1;have d0:(((byteAt s a1:Nat):Int)==93)=(byteAt s a1==93):=z0l _ 93;have n93:(((byteAt s a1:Nat):Int) != 93)= !(byteAt s a1==93):=by rw[bne,d0]
 cases hgo:dGo s a1 b1
 · rw[hgo,if_neg Bool.false_ne_true]at h1;subst h1;clear hJ h2;obtain⟨x0,x1,x2,x3,rfl⟩:=four h3;cases ho:over s a1 b1
   · have e0:b1=false:=by cases b1<;>simp[over]at ho⊢
     subst e0;have q0:=z1p ho;have m0:(a1:Int)<s.size:=by omega
     have t0:(byteAt s a1==93)=true:=by rw[←z0H ho];simpa[dGo,ho] using hgo
     have kn:((n:Int)==0)=(n==0):=z0l n 0;simp -implicitDefEqProofs only[c55x,c55c,c55k,mkE,go_sem];refine CD.intro (z1G hp a1 d false _) ?_;simp -implicitDefEqProofs only[go_sem,ho,gA hp,sA hp,gL0,sL0,gL1,sL1,m0,z07,d0,n93,t0];refine CO.intro (z1G hp a1 d false _) ?_;simp -implicitDefEqProofs only[go_sem,ho,kn];cases hn:n==0
     · simp -implicitDefEqProofs only[go_sem,gA hp,sA hp,gL0,sL0,gL1,sL1,z0R (show a1≤4294967296 by omega),Bool.or_self]
       cases neg
       · simp -implicitDefEqProofs only[go_sem,gA hp,sA hp,gL0,sL0,gL1,sL1];refine Fini.trim2 (ex:=[_,_]) ?_ rfl ?_ (z0f _ _) (hb2 _ _ _)
         · simp -implicitDefEqProofs only[go_sem,r187,resA,z03,rvA,oneOf,gL0];rfl
         · simp
       · simp -implicitDefEqProofs only[go_sem,gA hp,sA hp,gL0,sL0,gL1,sL1]
         refine L.count 4 (fun i=>mkE 129 [(2,.ptr σ.length 0),(4,.ptr (σ.length+1) 0),(9,I i)])
          (fun i=>σ.set p (dob s (a1+1) d false)++[box0,.box (match i with|0=>[U x0,U x1,U x2,U x3]|1=>[U (notU x0),U x1,U x2,U x3]|2=>[U (notU x0),U (notU x1),U x2,U x3]|3=>[U (notU x0),U (notU x1),U (notU x2),U x3]|_=>[U (notU x0),U (notU x1),U (notU x2),U (notU x3)])]) ?_ ?_ rfl rfl
         · intro i hi Q hQ
           match i,hi,hQ with
           |0,_,hQ=>simp -implicitDefEqProofs only[mkE,go_sem,gA hp,sA hp,gL0,sL0,gL1,sL1,q1,q2,q3,q4,n1,n2,n3,c4,Int.toNat_zero,Int.cast_ofNat_Int,Int.natCast_one,Int.natCast_zero];exact hQ
           |1,_,hQ=>simp -implicitDefEqProofs only[mkE,go_sem,gA hp,sA hp,gL0,sL0,gL1,sL1,q1,q2,q3,q4,n1,n2,n3,c4,Int.toNat_zero,Int.cast_ofNat_Int,Int.natCast_one,Int.natCast_zero];exact hQ
           |2,_,hQ=>simp -implicitDefEqProofs only[mkE,go_sem,gA hp,sA hp,gL0,sL0,gL1,sL1,q1,q2,q3,q4,n1,n2,n3,c4,Int.toNat_zero,Int.cast_ofNat_Int,Int.natCast_one,Int.natCast_zero];exact hQ
           |3,_,hQ=>simp -implicitDefEqProofs only[mkE,go_sem,gA hp,sA hp,gL0,sL0,gL1,sL1,q1,q2,q3,q4,n1,n2,n3,c4,Int.toNat_zero,Int.cast_ofNat_Int,Int.natCast_one,Int.natCast_zero];exact hQ
         · intro Q;simp -implicitDefEqProofs only[mkE,go_sem,gA hp,sA hp,gL0,sL0,gL1,sL1,q1,q2,q3,q4,n1,n2,n3,c4,Int.toNat_zero,Int.cast_ofNat_Int,Int.natCast_one,Int.natCast_zero];refine Fini.trim2 (ex:=[_,_]) ?_ rfl ?_ (z0f _ _) (hb2 _ _ _)
           · simp -implicitDefEqProofs only[go_sem,r187,resA,z03,rvA,oneOf,gL0];rfl
           · simp
     · simp -implicitDefEqProofs only[go_sem];refine CO.intro (z2D hp a1 d false _) ?_;simp -implicitDefEqProofs only[go_sem,gA hp,sA hp,gL0,sL0,gL1,sL1,Bool.or_true];refine Fini.trim2 (ex:=[_,_]) ?_ rfl ?_ (z0f _ zeroR) (hb2 _ _ _)
       · simp -implicitDefEqProofs only[go_sem,r187,resA,z03,rvA,oneOf,gL0];rfl
       · simp
   · simp -implicitDefEqProofs only[c55x,c55c,c55k,mkE,go_sem];refine CD.intro (z1G hp a1 d b1 _) ?_;simp -implicitDefEqProofs only[go_sem,ho];refine CO.intro (z1G hp a1 d b1 _) ?_;simp -implicitDefEqProofs only[go_sem,ho];refine CO.intro (z2D hp a1 d b1 _) ?_;simp -implicitDefEqProofs only[go_sem,gA hp,sA hp,gL0,sL0,gL1,sL1,Bool.true_or];refine Fini.trim2 (ex:=[_,_]) ?_ rfl ?_ (z0f _ zeroR) (hb2 _ _ _)
     · simp -implicitDefEqProofs only[go_sem,r187,resA,z03,rvA,oneOf,gL0];rfl
     · simp
 · rw[hgo,if_pos rfl]at h1
   have ho:over s a1 b1=false:=by
    cases h:over s a1 b1
    · rfl
    · simp[dGo,h]at hgo
   have e0:b1=false:=by cases b1<;>simp[over]at ho⊢
   subst e0;have q0:=z1p ho;have m0:(a1:Int)<s.size:=by omega
   have t0:(byteAt s a1==93)=false:=by rw[←z0H ho];simpa[dGo,ho] using hgo
   have f0:=z6Y s a1 ho;have r0:=zd8 s a1;have u0:=hJ ⟨(k,addR S (z0o s a1).1 ((dTo s a1).1+1-(z0o s a1).1),(dTo s a1).2.1,dBad s a1,n+1),h1,by simp only;omega,by rw[z2N];exact h3,by simp only;omega⟩ (Nat.lt_succ_self k)
   simp only at u0;have y0:=ziT s a1;have k0:=z6Z s a1;have h0:dBad s a1=((dTo s a1).2.2||decide ((dTo s a1).1<(z0o s a1).1)):=rfl;have j0:dTo s a1=if sees s (z0o s a1).2.1 (z0o s a1).2.2 45 then z0o s ((z0o s a1).2.1+1) else z0o s a1:=rfl
   rw[h0]at u0;clear hJ h1 h0 hgo;simp -implicitDefEqProofs only[c55x,c55c,c55d,mkE,go_sem];refine CD.intro (z1G hp a1 d false _) ?_;simp -implicitDefEqProofs only[go_sem,ho,gA hp,sA hp,gL0,sL0,gL1,sL1,m0,z07,d0,n93,t0];refine CO.intro (z70 hp a1 d hs _) ?_;generalize z0o s a1=m at f0 r0 u0 k0 j0⊢;obtain⟨f,am,bm⟩:=m;simp only at f0 r0 u0 k0 j0⊢;simp -implicitDefEqProofs only[go_sem];refine CD.intro (z1G hp am d bm _) ?_;cases ho2:over s am bm
   · have l0:bm=false:=by cases bm<;>simp[over]at ho2⊢
     subst l0;have o0:=z1p ho2;have n0:(am:Int)<s.size:=by omega
     have u1:(((byteAt s am:Nat):Int)==45)=(byteAt s am==45):=z0l _ 45;rw[z0H ho2]at j0;simp -implicitDefEqProofs only[go_sem,gA hp,sA hp,gL0,sL0,gL1,sL1,n0,z07,u1];cases h45:byteAt s am==45
     · rw[h45,if_neg Bool.false_ne_true]at j0;rw[j0]at u0 y0;simp only at u0 y0;simp -implicitDefEqProofs only[go_sem];have d1:decide ((f:Int)<(f:Int))=decide (f<f):=by rw[Bool.eq_iff_iff];simp
       have d2:IntKind.i64.wrap (f:Int)=(f:Int):=wrap64 (by omega)
       have c5:IntKind.i64.wrap ((n:Int)+1)=((n+1:Nat):Int):=by rw[wrapN (by omega) (by omega)];rfl
       simp -implicitDefEqProofs only[go_sem,d1];cases q0:decide (f<f)
       · rw[q0,Bool.or_false]at u0;simp -implicitDefEqProofs only[go_sem,d2];refine z3a σ p s d hp neg n f f am false S h3 k0 y0 _ _ ?_;simp -implicitDefEqProofs only[mkE,go_sem,c5,c55c,c55d]at u0⊢;exact u0
       · rw[q0,Bool.or_true]at u0;simp -implicitDefEqProofs only[go_sem];refine CO.intro (z2D hp am d false _) ?_;simp -implicitDefEqProofs only[go_sem,d2];refine z3a σ p s d hp neg n f f am true S h3 k0 y0 _ _ ?_;simp -implicitDefEqProofs only[mkE,go_sem,c5,c55c,c55d]at u0⊢;exact u0
     · rw[h45,if_pos rfl]at j0;simp -implicitDefEqProofs only[go_sem,gA hp,sA hp,gL0,sL0,gL1,sL1,z0R (show am≤4294967296 by omega)]
       refine CO.intro (z70 hp (am+1) d hs _) ?_;rw[←j0];clear j0;generalize dTo s a1=q at u0 y0 r0⊢;obtain⟨t,aT,bT⟩:=q;simp only at u0 y0 r0⊢;simp -implicitDefEqProofs only[go_sem];have d1:decide ((t:Int)<(f:Int))=decide (t<f):=by rw[Bool.eq_iff_iff];simp
       have d2:IntKind.i64.wrap (f:Int)=(f:Int):=wrap64 (by omega)
       have c5:IntKind.i64.wrap ((n:Int)+1)=((n+1:Nat):Int):=by rw[wrapN (by omega) (by omega)];rfl
       simp -implicitDefEqProofs only[go_sem,d1];cases q0:decide (t<f)
       · rw[q0,Bool.or_false]at u0;simp -implicitDefEqProofs only[go_sem,d2];refine z3a σ p s d hp neg n f t aT bT S h3 k0 y0 _ _ ?_;simp -implicitDefEqProofs only[mkE,go_sem,c5,c55c,c55d]at u0⊢;exact u0
       · rw[q0,Bool.or_true]at u0;simp -implicitDefEqProofs only[go_sem];refine CO.intro (z2D hp aT d bT _) ?_;simp -implicitDefEqProofs only[go_sem,d2];refine z3a σ p s d hp neg n f t aT true S h3 k0 y0 _ _ ?_;simp -implicitDefEqProofs only[mkE,go_sem,c5,c55c,c55d]at u0⊢;exact u0
   · rw[show sees s am bm 45=false by simp[sees,ho2],if_neg Bool.false_ne_true]at j0
     rw[j0]at u0 y0;simp only at u0 y0;simp -implicitDefEqProofs only[go_sem];have d1:decide ((f:Int)<(f:Int))=decide (f<f):=by rw[Bool.eq_iff_iff];simp
     have d2:IntKind.i64.wrap (f:Int)=(f:Int):=wrap64 (by omega)
     have c5:IntKind.i64.wrap ((n:Int)+1)=((n+1:Nat):Int):=by rw[wrapN (by omega) (by omega)];rfl
     simp -implicitDefEqProofs only[go_sem,d1];cases q0:decide (f<f)
     · rw[q0,Bool.or_false]at u0;simp -implicitDefEqProofs only[go_sem,d2];refine z3a σ p s d hp neg n f f am bm S h3 k0 y0 _ _ ?_;simp -implicitDefEqProofs only[mkE,go_sem,c5,c55c,c55d]at u0⊢;exact u0
     · rw[q0,Bool.or_true]at u0;simp -implicitDefEqProofs only[go_sem];refine CO.intro (z2D hp am d bm _) ?_;simp -implicitDefEqProofs only[go_sem,d2];refine z3a σ p s d hp neg n f f am true S h3 k0 y0 _ _ ?_;simp -implicitDefEqProofs only[mkE,go_sem,c5,c55c,c55d]at u0⊢;exact u0
theorem zbG (hp:p<σ.length) (hs:s.size≤40):Ans Tryz.prog 187 [.ptr p 0] (σ.set p (dob s a d false)) (z1M s a).1.rv (σ.set p (dob s (z1M s a).2.1 d (z1M s a).2.2)):=by
 refine Ans.of_run' t187 (fun y0 _=>?_)
 have q0:=z61 y0;simp -implicitDefEqProofs only[c187,go_sem,List.append_assoc,List.length_append,List.length_set];refine CD.intro (z1G hp a d false _) ?_;unfold z1M;have k0:(((byteAt s a:Nat):Int)==94)=(byteAt s a==94):=z0l _ 94;cases ho:over s a false
 · have hlt:=z1p ho;have j0:(a:Int)<s.size:=by omega
   simp -implicitDefEqProofs only[go_sem,gA hp,sA hp,gL0,sL0,gL1,sL1,j0,z07,k0];cases h94:byteAt s a==94
   · have u0:sees s a false 94=false:=by rw[z0H ho,h94]
     rw[show nextA s a false 94=a by simp[nextA,u0],u0]
     simp -implicitDefEqProofs only[go_sem,List.append_assoc,List.length_append,List.length_set];exact z62 σ p s d hp hs false a _ rfl q0 _ rfl
   · have u0:sees s a false 94=true:=by rw[z0H ho,h94]
     rw[show nextA s a false 94=a+1 by simp[nextA,u0],u0]
     simp -implicitDefEqProofs only[go_sem,gA hp,sA hp,gL0,sL0,gL1,sL1,z0R (show a≤4294967296 by omega),List.append_assoc,List.length_append,List.length_set]
     exact z62 σ p s d hp hs true (a+1) _ rfl q0 _ rfl
 · have u0:sees s a false 94=false:=by simp[sees,ho]
   rw[show nextA s a false 94=a by simp[nextA,u0],u0]
   simp -implicitDefEqProofs only[go_sem,List.append_assoc,List.length_append,List.length_set];exact z62 σ p s d hp hs false a _ rfl q0 _ rfl
end
end Go.Proofs.YteakobbdgehlgaaGreatDoor
