/- The parser of patterns: ways, and the whole. No condition. -/
import Derived.Test.YtmkmhhjkdaklbaaGreatXPPar6s
import Derived.Test.YtmkmhhjkdaklbaaGreatXDr3s
import GoSem.Extern.BytealgCompare
import Derived.Laws.Strings
import Derived.Test.YtmkmhhjkdaklbaaGreatProg
import Derived.Test.YtmkmhhjkdaklbaaGreatAbSteps
import Derived.Test.YtmkmhhjkdaklbaaGreatCod2s
set_option linter.unusedSimpArgs false
set_option linter.unusedVariables false
set_option linter.unusedSectionVars false
namespace Go.Proofs.YtmkmhhjkdaklbaaGreat
open Go Go.Ab
set_option maxRecDepth 100000
open Rex
abbrev box0:Ob:=.box [I 0,U 0,U 0,U 0,U 0,.nils]
def exK (K:List Rex):St:=box0::(if K.isEmpty then[] else[.row 6 (K.map rv)])
def vK (l:Nat) (K:List Rex):AV:=if K.isEmpty then .nils else .osl (l+1) K.length
theorem z1p (x:Rex) (K:List Rex):exK (x::K)=[box0,.row 6 ((x::K).map rv)]:=rfl
theorem z2a (l:Nat) (x:Rex) (K:List Rex):vK l (x::K)=.osl (l+1) (K.length+1):=rfl
theorem z64:exK []=[box0]:=rfl
theorem z8S (l:Nat):vK l []=.nils:=rfl
theorem z8T (K:List Rex) (x:Rex):exK (K++[x])=[box0,.row 6 (K.map rv++[x.rv])]:=by
 cases K with
 |nil=>rfl
 |cons y K=>simp[exK]
theorem zaR (l:Nat) (K:List Rex) (x:Rex):vK l (K++[x])=.osl (l+1) (K.length+1):=by
 cases K with
 |nil=>rfl
 |cons y K=>simp[vK]
theorem z2Q (op:Int) (y z:Rex) (K:List Rex):(one op (y::z::K)).rv=.agg [I op,U 0,U 0,U 0,U 0,.sl 6 ((y::z::K).map rv)]:=by
 show Rex.rv (.mk op 0 0 0 0 (y::z::K))=_;rw[rv,z62]
theorem z65 {n:Nat} {x:AV} (h:Bel n x) (b:Bool):Bel n (.tup [x,Bo b]):=by
 refine .tup _ fun i hi=>?_
 have:∀y∈[x,Bo b],Bel n y:=by
  intro y hy;simp only[List.mem_cons,List.not_mem_nil,or_false]at hy;rcases hy with rfl|rfl
  · exact h
  · exact .pl _
 exact this _ (List.getElem_mem hi)
section
variable (s:ByteArray)
theorem zaS (F:PF) (d:Nat) (hF:FAns 193 [I d] s F) (hfw:Fwd F) (he:Eats s F):FAns 181 [I d] s (pway s F):=by
 intro σ p a b hp hs;refine Ans.of_run' t181 (fun hbel _=>?_)
 have hb2:=z4b hbel;simp -implicitDefEqProofs only[c181,r181,go_sem,List.append_assoc,List.length_append,List.length_set];unfold pway;simp only;have hm:s.size-a<s.size+1:=by omega
 generalize hres:pwayL s F (s.size+1) [] a b=res
 refine L.intro (α:={ x:Nat×List Rex×Nat×Bool // pwayL s F x.1 x.2.1 x.2.2.1 x.2.2.2=res∧s.size-x.2.2.1<x.1∧(x.2.2.2=true∨s.size≤40)∧x.2.1.length≤x.2.2.1 })
  (fun x=>x.1.1)
  (fun x=>mkE 33 [(0,.ptr p 0),(1,I d),(4,.ptr σ.length 0),(5,vK σ.length x.1.2.1)])
  (fun x=>σ.set p (pob s x.1.2.2.1 x.1.2.2.2)++exK x.1.2.1)
  (fun x J hJ=>?_) ⟨(s.size+1,[],a,b),hres,hm,hs,Nat.zero_le _⟩ ?_ ?_
 · obtain⟨⟨n,K,a1,b1⟩,h1,h2,h3,h4⟩:=x;simp only at h1 h2 h3 h4 hJ⊢
   cases n with
   |zero=>omega
   |succ n =>
   rw[pwayL]at h1
   cases hgo:wGo s a1 b1 with
   |true =>
    rw[hgo,if_pos rfl]at h1;obtain⟨ha,hb⟩:=zeJ hgo;subst hb;have hov:over s a1 false=false:=by simp[wGo]at hgo;exact hgo.1
    have hs1:sees s a1 false 124=false:=by simp[wGo]at hgo;exact hgo.2.1
    have hs2:sees s a1 false 41=false:=by simp[wGo]at hgo;exact hgo.2.2
    have hsz:s.size≤40:=by
     rcases h3 with h|h
     · exact absurd h Bool.false_ne_true
     · exact h
    have hea:=he a1 false hov;have hJ':=hJ ⟨(n,K++[(F a1 false).1],(F a1 false).2.1,(F a1 false).2.2),h1,by simp only;omega,.inr hsz,by simp;omega⟩ (Nat.lt_succ_self n)
    simp only[z8T,zaR]at hJ';clear hJ h1 hgo;simp -implicitDefEqProofs only[mkE,go_sem];refine CO.intro (z63 hp a1 false _) ?_;simp -implicitDefEqProofs only[go_sem,hov];refine CO.intro (z4Q hp a1 false 124 _) ?_;simp -implicitDefEqProofs only[go_sem,hs1];refine CO.intro (z4Q hp a1 false 41 _) ?_;simp -implicitDefEqProofs only[go_sem,hs2];refine CO.intro (hF.ex hp a1 false (.inr hsz) _) ?_;generalize F a1 false=w at hJ' hea⊢;obtain⟨x,a2,b2⟩:=w;simp only at hJ' hea⊢;rw[rv_eq x]at hJ'⊢;rcases K with _|⟨y,K⟩
    all_goals rcases rvK_cases x.ks with hK|⟨l,hK⟩
    all_goals rw[hK]at hJ'⊢
    all_goals first
    |(simp -implicitDefEqProofs only[go_sem,z64,z8S,gA hp,sA hp,gL0,sL0,gL1,sL1]at hJ'⊢
      simpa[mkE] using hJ')
    |(have g1:(K.length+1+1≤2^32)=True:=by simp at h4;simp;omega
      simp -implicitDefEqProofs only[go_sem,z1p,z2a,gA hp,sA hp,gL0,sL0,gL1,sL1,List.length_map,g1]at hJ'⊢
      simpa[mkE] using hJ')
   |false =>
    rw[hgo,if_neg Bool.false_ne_true]at h1;subst h1;clear hJ h2
    have hex:over s a1 b1=true∨(over s a1 b1=false∧sees s a1 b1 124=true)∨(over s a1 b1=false∧sees s a1 b1 124=false∧sees s a1 b1 41=true):=by
     unfold wGo at hgo;cases h1:over s a1 b1<;>cases h2:sees s a1 b1 124<;>cases h3:sees s a1 b1 41<;>simp[h1,h2,h3]at hgo⊢
    rcases hex with ho|⟨ho,h5⟩|⟨ho,h5,h6⟩
    · simp -implicitDefEqProofs only[mkE,go_sem];refine CO.intro (z63 hp a1 b1 _) ?_;simp -implicitDefEqProofs only[go_sem,ho];rcases K with _|⟨y,_|⟨z,K⟩⟩
      · simp -implicitDefEqProofs only[go_sem,z64,z8S,gA hp,sA hp,gL0,sL0,gL1,sL1];refine Fini.trim2 (ex:=[_]) ?_ rfl ?_ (z0K _ _) (hb2 _ _)
        · ((try simp -implicitDefEqProofs only[go_sem,resA,z04,rvA,oneOf,gL0]);first|done|rfl|(rw[z2Q];rfl)|rw[rv_eq,hK]|(simp only[rv,rvK,rvL];rw[rv_eq,hK]))
        · simp
      · have g3:(((1:Nat):Int)==1)=true:=rfl;have g4:((0:Int)<((1:Nat):Int))=True:=by simp
        have hbx:∀n,Bel n y.rv:=fun n=>z0K n y
        rw[z1p,z2a,List.map_cons,List.map_nil,show(one 2 [y])=y from rfl]
        rw[rv_eq y]at hbx⊢;rcases rvK_cases y.ks with hK|⟨l,hK⟩
        all_goals rw[hK]at hbx⊢
        all_goals simp -implicitDefEqProofs only[go_sem,gA hp,sA hp,gL0,sL0,gL1,sL1,List.length_map,g3,g4,Int.toNat_zero]
        all_goals (
         refine Fini.trim2 (ex:=[_,_]) ?_ rfl ?_ (hbx _) (hb2 _ _)
         · ((try simp -implicitDefEqProofs only[go_sem,resA,z04,rvA,oneOf,gL0]);first|done|rfl|(rw[z2Q];rfl)|rw[rv_eq,hK]|(simp only[rv,rvK,rvL];rw[rv_eq,hK]))
         · simp)
      · rw[z1p,z2a];have g2:(((K.length+1+1:Nat):Int)==1)=false:=by simp;omega
        simp -implicitDefEqProofs only[go_sem,gA hp,sA hp,gL0,sL0,gL1,sL1,List.length_map,g2];refine Fini.trim2 (ex:=[_,_]) ?_ rfl ?_ (z0K _ _) (hb2 _ _)
        · ((try simp -implicitDefEqProofs only[go_sem,resA,z04,rvA,oneOf,gL0]);first|done|rfl|(rw[z2Q];rfl)|rw[rv_eq,hK]|(simp only[rv,rvK,rvL];rw[rv_eq,hK]))
        · simp
    · simp -implicitDefEqProofs only[mkE,go_sem];refine CO.intro (z63 hp a1 b1 _) ?_;simp -implicitDefEqProofs only[go_sem,ho];refine CO.intro (z4Q hp a1 b1 124 _) ?_;simp -implicitDefEqProofs only[go_sem,h5];rcases K with _|⟨y,_|⟨z,K⟩⟩
      · simp -implicitDefEqProofs only[go_sem,z64,z8S,gA hp,sA hp,gL0,sL0,gL1,sL1];refine Fini.trim2 (ex:=[_]) ?_ rfl ?_ (z0K _ _) (hb2 _ _)
        · ((try simp -implicitDefEqProofs only[go_sem,resA,z04,rvA,oneOf,gL0]);first|done|rfl|(rw[z2Q];rfl)|rw[rv_eq,hK]|(simp only[rv,rvK,rvL];rw[rv_eq,hK]))
        · simp
      · have g3:(((1:Nat):Int)==1)=true:=rfl;have g4:((0:Int)<((1:Nat):Int))=True:=by simp
        have hbx:∀n,Bel n y.rv:=fun n=>z0K n y
        rw[z1p,z2a,List.map_cons,List.map_nil,show(one 2 [y])=y from rfl]
        rw[rv_eq y]at hbx⊢;rcases rvK_cases y.ks with hK|⟨l,hK⟩
        all_goals rw[hK]at hbx⊢
        all_goals simp -implicitDefEqProofs only[go_sem,gA hp,sA hp,gL0,sL0,gL1,sL1,List.length_map,g3,g4,Int.toNat_zero]
        all_goals (
         refine Fini.trim2 (ex:=[_,_]) ?_ rfl ?_ (hbx _) (hb2 _ _)
         · ((try simp -implicitDefEqProofs only[go_sem,resA,z04,rvA,oneOf,gL0]);first|done|rfl|(rw[z2Q];rfl)|rw[rv_eq,hK]|(simp only[rv,rvK,rvL];rw[rv_eq,hK]))
         · simp)
      · rw[z1p,z2a];have g2:(((K.length+1+1:Nat):Int)==1)=false:=by simp;omega
        simp -implicitDefEqProofs only[go_sem,gA hp,sA hp,gL0,sL0,gL1,sL1,List.length_map,g2];refine Fini.trim2 (ex:=[_,_]) ?_ rfl ?_ (z0K _ _) (hb2 _ _)
        · ((try simp -implicitDefEqProofs only[go_sem,resA,z04,rvA,oneOf,gL0]);first|done|rfl|(rw[z2Q];rfl)|rw[rv_eq,hK]|(simp only[rv,rvK,rvL];rw[rv_eq,hK]))
        · simp
    · simp -implicitDefEqProofs only[mkE,go_sem];refine CO.intro (z63 hp a1 b1 _) ?_;simp -implicitDefEqProofs only[go_sem,ho];refine CO.intro (z4Q hp a1 b1 124 _) ?_;simp -implicitDefEqProofs only[go_sem,h5];refine CO.intro (z4Q hp a1 b1 41 _) ?_;simp -implicitDefEqProofs only[go_sem,h6];rcases K with _|⟨y,_|⟨z,K⟩⟩
      · simp -implicitDefEqProofs only[go_sem,z64,z8S,gA hp,sA hp,gL0,sL0,gL1,sL1];refine Fini.trim2 (ex:=[_]) ?_ rfl ?_ (z0K _ _) (hb2 _ _)
        · ((try simp -implicitDefEqProofs only[go_sem,resA,z04,rvA,oneOf,gL0]);first|done|rfl|(rw[z2Q];rfl)|rw[rv_eq,hK]|(simp only[rv,rvK,rvL];rw[rv_eq,hK]))
        · simp
      · have g3:(((1:Nat):Int)==1)=true:=rfl;have g4:((0:Int)<((1:Nat):Int))=True:=by simp
        have hbx:∀n,Bel n y.rv:=fun n=>z0K n y
        rw[z1p,z2a,List.map_cons,List.map_nil,show(one 2 [y])=y from rfl]
        rw[rv_eq y]at hbx⊢;rcases rvK_cases y.ks with hK|⟨l,hK⟩
        all_goals rw[hK]at hbx⊢
        all_goals simp -implicitDefEqProofs only[go_sem,gA hp,sA hp,gL0,sL0,gL1,sL1,List.length_map,g3,g4,Int.toNat_zero]
        all_goals (
         refine Fini.trim2 (ex:=[_,_]) ?_ rfl ?_ (hbx _) (hb2 _ _)
         · ((try simp -implicitDefEqProofs only[go_sem,resA,z04,rvA,oneOf,gL0]);first|done|rfl|(rw[z2Q];rfl)|rw[rv_eq,hK]|(simp only[rv,rvK,rvL];rw[rv_eq,hK]))
         · simp)
      · rw[z1p,z2a];have g2:(((K.length+1+1:Nat):Int)==1)=false:=by simp;omega
        simp -implicitDefEqProofs only[go_sem,gA hp,sA hp,gL0,sL0,gL1,sL1,List.length_map,g2];refine Fini.trim2 (ex:=[_,_]) ?_ rfl ?_ (z0K _ _) (hb2 _ _)
        · ((try simp -implicitDefEqProofs only[go_sem,resA,z04,rvA,oneOf,gL0]);first|done|rfl|(rw[z2Q];rfl)|rw[rv_eq,hK]|(simp only[rv,rvK,rvL];rw[rv_eq,hK]))
        · simp
 · simp[mkE,vK]
 · rfl
theorem z6Z (F:PF) (d:Nat) (hF:FAns 181 [I d] s F) (hfw:Fwd F):FAns 171 [I d] s (pways s F):=by
 intro σ p a b hp hs;refine Ans.of_run' t171 (fun hbel _=>?_)
 have hb2:=z4b hbel;simp -implicitDefEqProofs only[c171,r171,go_sem,List.append_assoc,List.length_append,List.length_set];unfold pways;simp only;refine CO.intro (hF.ex hp a b hs _) ?_;have hs0:(F a b).2.2=true∨s.size≤40:=hfw.hs hs;generalize F a b=w0 at hs0⊢;obtain⟨x0,a0,b0⟩:=w0;simp only at hs0⊢;have hm:s.size-a0<s.size+1:=by omega
 generalize hres:z3I s F (s.size+1) [x0] a0 b0=res;rw[rv_eq x0];rcases rvK_cases x0.ks with hK0|⟨l0,hK0⟩
 all_goals rw[hK0]
 all_goals simp -implicitDefEqProofs only[go_sem,gA hp,sA hp,gL0,sL0,gL1,sL1,List.append_assoc,List.length_append,List.length_set]
 all_goals (
  refine L.intro (α:={ x:Nat×List Rex×Nat×Bool // z3I s F x.1 x.2.1 x.2.2.1 x.2.2.2=res∧s.size-x.2.2.1<x.1∧(x.2.2.2=true∨s.size≤40)∧x.2.1.length≤x.2.2.1+1∧x.2.1≠[] })
   (fun x=>x.1.1)
   (fun x=>mkE 26 [(0,.ptr p 0),(1,I d),(4,.ptr σ.length 0),(5,vK σ.length x.1.2.1)])
   (fun x=>σ.set p (pob s x.1.2.2.1 x.1.2.2.2)++exK x.1.2.1)
   (fun x J hJ=>?_) ⟨(s.size+1,[x0],a0,b0),hres,hm,hs0,by simp,by simp⟩ ?_ ?_)
 all_goals try (simp[mkE,vK];done)
 all_goals try (simp only[z1p,List.map_cons,List.map_nil,rv_eq x0,hK0];done)
 all_goals (
  obtain⟨⟨n,K,a1,b1⟩,h1,h2,h3,h4,h5⟩:=x;simp only at h1 h2 h3 h4 h5 hJ⊢;rcases n with _|n
  · omega
  rw[z3I]at h1;cases hgo:sees s a1 b1 124
  · rw[hgo,if_neg Bool.false_ne_true]at h1;subst h1;clear hJ h2;have hn:=z3q (s:=s) hp a1 b1 124 h3;simp only[nextA,hgo,Bool.false_eq_true,if_false]at hn;simp -implicitDefEqProofs only[mkE,go_sem];refine CO.intro (hn _) ?_;simp -implicitDefEqProofs only[go_sem];rcases K with _|⟨y,_|⟨z,K⟩⟩
    · exact absurd rfl h5
    · have g3:(((1:Nat):Int)==1)=true:=rfl;have g4:((0:Int)<((1:Nat):Int))=True:=by simp
      have hbx:∀n,Bel n y.rv:=fun n=>z0K n y
      rw[z1p,z2a,List.map_cons,List.map_nil,show(one 3 [y])=y from rfl]
      rw[rv_eq y]at hbx⊢;rcases rvK_cases y.ks with hK|⟨l,hK⟩
      all_goals rw[hK]at hbx⊢
      all_goals simp -implicitDefEqProofs only[go_sem,gA hp,sA hp,gL0,sL0,gL1,sL1,List.length_map,g3,g4,Int.toNat_zero]
      all_goals (
       refine Fini.trim2 (ex:=[_,_]) ?_ rfl ?_ (hbx _) (hb2 _ _)
       · ((try simp -implicitDefEqProofs only[go_sem,resA,z04,rvA,oneOf,gL0]);first|done|rfl|(rw[z2Q];rfl)|rw[rv_eq,hK]|(simp only[rv,rvK,rvL];rw[rv_eq,hK]))
       · simp)
    · rw[z1p,z2a];have g2:(((K.length+1+1:Nat):Int)==1)=false:=by simp;omega
      simp -implicitDefEqProofs only[go_sem,gA hp,sA hp,gL0,sL0,gL1,sL1,List.length_map,g2];refine Fini.trim2 (ex:=[_,_]) ?_ rfl ?_ (z0K _ _) (hb2 _ _)
      · ((try simp -implicitDefEqProofs only[go_sem,resA,z04,rvA,oneOf,gL0]);first|done|rfl|(rw[z2Q];rfl)|rw[rv_eq,hK]|(simp only[rv,rvK,rvL];rw[rv_eq,hK]))
      · simp
  · rw[hgo,if_pos rfl]at h1;obtain⟨ha,hb⟩:=zaO hgo;subst hb
    have hsz:s.size≤40:=by
     rcases h3 with h|h
     · exact absurd h Bool.false_ne_true
     · exact h
    have hea:=(hfw (a1+1) false).1;have hJ':=hJ ⟨(n,K++[(F (a1+1) false).1],(F (a1+1) false).2.1,(F (a1+1) false).2.2),h1,by simp only;omega,.inr hsz,by simp;omega,by simp⟩ (Nat.lt_succ_self n)
    simp only[z8T,zaR]at hJ';clear hJ h1;have hn:=z3q (s:=s) hp a1 false 124 h3;simp only[nextA,hgo,if_true]at hn;simp -implicitDefEqProofs only[mkE,go_sem];refine CO.intro (hn _) ?_;simp -implicitDefEqProofs only[go_sem];refine CO.intro (hF.ex hp (a1+1) false (.inr hsz) _) ?_;generalize F (a1+1) false=w at hJ' hea⊢;obtain⟨x,a2,b2⟩:=w;simp only at hJ' hea⊢;rw[rv_eq x]at hJ'⊢;rcases K with _|⟨y,K⟩
    · exact absurd rfl h5
    have g1:(K.length+1+1≤2^32)=True:=by simp at h4;simp;omega
    rcases rvK_cases x.ks with hK|⟨l,hK⟩
    all_goals rw[hK]at hJ'⊢
    all_goals (
     simp -implicitDefEqProofs only[go_sem,z1p,z2a,gA hp,sA hp,gL0,sL0,gL1,sL1,List.length_map,g1]at hJ'⊢
     simpa[mkE] using hJ'))
theorem zdd:∀k,k≤8→FAns 171 [I ((8-k:Nat):Int)] s (PW s k)
 |0,_=>z6Z s _ 8 (zaS s _ 8 (z5C s _ 8 (z8R s _ 8 (Nat.le_refl _) (fun h=>absurd h (Nat.lt_irrefl _)) (fun a b=>⟨Nat.le_refl _,id⟩)) (z2w s (fun a b=>⟨Nat.le_refl _,id⟩) 8))
  (z2m s (z2w s (fun a b=>⟨Nat.le_refl _,id⟩) 8)) (z4P s (z6X s (fun a b=>⟨Nat.le_refl _,id⟩) 8)))
  (z84 s (z2m s (z2w s (fun a b=>⟨Nat.le_refl _,id⟩) 8)))
 |k+1,h=>by
  have ih:=zdd k (by omega)
  have hf:=zaQ s k;have e:8-(k+1)=7-k:=by omega
  have e2:8-k=7-k+1:=by omega
  rw[e2]at ih;rw[e]
  exact z6Z s _ (7-k) (zaS s _ (7-k) (z5C s _ (7-k) (z8R s _ (7-k) (by omega) (fun _=>ih) hf) (z2w s hf _))
   (z2m s (z2w s hf _)) (z4P s (z6X s hf _)))
   (z84 s (z2m s (z2w s hf _)))
def z3d:Rex×Bool :=
 let w:=PW s 8 0 (decide (40<s.size))
 if w.2.2||decide (w.2.1<s.size) then(.mk 0 0 0 0 0 [],false) else(w.1,true)
theorem zaT (σ:St):Ans Tryz.prog 160 [Sx s] σ (.tup [(z3d s).1.rv,Bo (z3d s).2]) σ:=by
 have hw:∀b:Bool,(b=true∨s.size≤40)→Ans Tryz.prog 171 [.ptr (σ.length+1) 0,I 0] (σ++[box0,pob s 0 b]) (PW s 8 0 b).1.rv (σ++[box0,pob s (PW s 8 0 b).2.1 (PW s 8 0 b).2.2]):=by
  intro b hs;have:=zdd s 8 (Nat.le_refl _) (σ++[box0,pob s 0 b]) (σ.length+1) 0 b (by simp) hs
  have e:∀o,(σ++[box0,pob s 0 b]).set (σ.length+1) o=σ++[box0,o]:=fun o=>by rw[List.set_append_right _ _ (by omega)];simp
  rwa [e,e]at this
 have hs:(decide (40<s.size))=true∨s.size≤40:=by
  rcases Nat.lt_or_ge 40 s.size with h|h
  · exact .inl (by simpa using h)
  · exact .inr h
 have e40:decide ((40:Int)<(s.size:Int))=decide (40<s.size):=by rw[Bool.eq_iff_iff];simp;omega
 have k0:∀(x y:Ob) (ex:St),(σ++x::y::ex)[σ.length]?=some x:=fun x y ex=>by rw[List.getElem?_append_right (by simp)];simp
 have k1:∀(x y:Ob) (ex:St),(σ++x::y::ex)[σ.length+1]?=some y:=fun x y ex=>by rw[List.getElem?_append_right (by simp)];simp
 have k2:∀(x y z:Ob),(σ++[x,y,z])[σ.length+2]?=some z:=fun x y z=>by rw[List.getElem?_append_right (by simp)];simp
 have s0:∀(x z:Ob) (ex:St),(σ++x::ex).set σ.length z=σ++z::ex:=fun x z ex=>by rw[List.set_append_right _ _ (by simp)];simp
 refine Ans.of_run' t160 (fun hbel _=>?_)
 simp -implicitDefEqProofs only[c160,r160,go_sem,List.append_assoc,List.length_append,e40];refine CO.intro (hw _ hs) ?_;unfold z3d;generalize PW s 8 0 (decide (40<s.size))=w;obtain⟨x,a,b⟩:=w;simp only;have eL:decide ((a:Int)<(s.size:Int))=decide (a<s.size):=by rw[Bool.eq_iff_iff];simp
 have hbx:∀n,Bel n x.rv:=fun n=>z0K n x
 rw[rv_eq x];have hrx:=rv_eq x;rcases rvK_cases x.ks with hK|⟨l,hK⟩
 all_goals (
  rw[hK]at hrx⊢;cases b
  · cases hlt:decide (a<s.size)
    · simp -implicitDefEqProofs only[go_sem,k0,k1,k2,s0,List.append_assoc,List.length_append,eL,hlt,Bool.or_self,hrx];rw[hrx]at hbx;refine Fini.trim2 (σ':=σ) (ex:=[_,_]) ?_ rfl (Nat.le_refl _) ?_ hbel
      · simp -implicitDefEqProofs only[go_sem,resA,z04,rvA,oneOf,k0]
      · exact z65 (hbx _) _
    · simp -implicitDefEqProofs only[go_sem,k0,k1,k2,s0,List.append_assoc,List.length_append,eL,hlt,Bool.or_true];refine Fini.trim2 (σ':=σ) (ex:=[_,_]) ?_ rfl (Nat.le_refl _) ?_ hbel
      · simp -implicitDefEqProofs only[go_sem,resA,z04,rvA,oneOf,k0];rfl
      · exact z65 (z0K _ (.mk 0 0 0 0 0 [])) _
  · simp -implicitDefEqProofs only[go_sem,k0,k1,k2,s0,List.append_assoc,List.length_append,Bool.true_or];refine Fini.trim2 (σ':=σ) (ex:=[_,_]) ?_ rfl (Nat.le_refl _) ?_ hbel
    · simp -implicitDefEqProofs only[go_sem,resA,z04,rvA,oneOf,k0];rfl
    · exact z65 (z0K _ (.mk 0 0 0 0 0 [])) _)
end
theorem zeK {M:Nat→Prop} {R:Ref→Value→Prop} {w:World}:∀(n:Nat) (x:Rex),SizeOf.sizeOf x≤n→∀v,Rep M R w (rvK x.ks) v→Rep M R w (.sl 6 (x.ks.map av)) v:=by
 intro n
 induction n with
 |zero=>intro x h;cases x;simp at h
 |succ n ih =>
  intro x hx v h;have hlt:∀y∈x.ks,SizeOf.sizeOf y<SizeOf.sizeOf x:=fun y hy=>zaE hy
  generalize x.ks=L at h hlt;rcases L with _|⟨y,L⟩
  · cases h;exact .sl0 6 _ _
  · rw[z62]at h;generalize hM:y::L=M' at h hlt
    have hget:∀i (hi:i<(M'.map rv).length),(M'.map rv)[i].cells=[I (M'[i]'(by simpa using hi)).op,U (M'[i]'(by simpa using hi)).a,U (M'[i]'(by simpa using hi)).b,U (M'[i]'(by simpa using hi)).c,U (M'[i]'(by simpa using hi)).d,rvK (M'[i]'(by simpa using hi)).ks]:=fun i hi=>by
     rw[List.getElem_map,zco]
    have hget2:∀i (hi:i<(M'.map av).length),(M'.map av)[i].cells=[I (M'[i]'(by simpa using hi)).op,U (M'[i]'(by simpa using hi)).a,U (M'[i]'(by simpa using hi)).b,U (M'[i]'(by simpa using hi)).c,U (M'[i]'(by simpa using hi)).d,.sl 6 ((M'[i]'(by simpa using hi)).ks.map av)]:=fun i hi=>by
     rw[List.getElem_map,av_eq];rfl
    generalize hN:M'.map rv=N at h
    cases h with
    |sl0 => 
     have:M'=[]:=by simpa using hN
     rw[this]at hM;cases hM
    |sl _ _ b o cap f hcap hc hr =>
     subst hN;have e:(M'.map rv).length=(M'.map av).length:=by simp
     rw[e];refine Rep.sl 6 (M'.map av) b o cap f (by rw[←e];exact hcap) ?_ ?_
     · intro i j hi hj;have hi':i<(M'.map rv).length:=by rw[e];exact hi
       refine hc i j hi' ?_;rw[hget2 i hi]at hj;rw[hget i hi'];exact hj
     · intro i j hi hj;have hi':i<(M'.map rv).length:=by rw[e];exact hi
       have hj6:j<6:=by rw[hget2 i hi]at hj;exact hj
       have hj':j<((M'.map rv)[i].cells).length:=by rw[hget i hi'];exact hj6
       have h2:=hr i j hi' hj';simp only[hget i hi']at h2;simp only[hget2 i hi];have hmem:M'[i]'(by simpa using hi)∈M':=List.getElem_mem _
       have ih2:=ih (M'[i]'(by simpa using hi)) (by have:=hlt _ hmem;omega)
       have h6:j=0∨j=1∨j=2∨j=3∨j=4∨j=5:=by omega
       rcases h6 with rfl|rfl|rfl|rfl|rfl|rfl
       · exact h2
       · exact h2
       · exact h2
       · exact h2
       · exact h2
       · exact ih2 _ h2
theorem zeL {M:Nat→Prop} {R:Ref→Value→Prop} {w:World} (x:Rex) (v:Value) (h:Rep M R w x.rv v):Rep M R w x.av v:=by
 have hk:=zeK (M:=M) (R:=R) (w:=w) (SizeOf.sizeOf x) x (Nat.le_refl _);rw[rv_eq]at h;rw[av_eq]
 cases h with
 |agg _ vs hl hr =>
  refine .agg _ vs hl fun j hj hj'=>?_
  have h2:=hr j hj hj';have hj6:j<6:=hj;have h6:j=0∨j=1∨j=2∨j=3∨j=4∨j=5:=by omega
  rcases h6 with rfl|rfl|rfl|rfl|rfl|rfl
  · exact h2
  · exact h2
  · exact h2
  · exact h2
  · exact h2
  · exact hk _ h2
theorem Ans.sub {P:Program} {f:FuncId} {x:Rex} {σ σ':St} {r:AV} (h:Ans P f [x.av] σ r σ'):Ans P f [x.rv] σ r σ':=by
 intro M ν w vs hg hr;refine h M ν w vs hg ⟨hr.1,fun j hj hj'=>?_⟩
 have h2:=hr.2 j hj hj';have:j=0:=by simp at hj;exact hj
 subst this;exact zeL x _ h2
section
variable (s:ByteArray)
end
end Go.Proofs.YtmkmhhjkdaklbaaGreat
namespace Go.Proofs.YtmkmhhjkdaklbaaGreat
open Go Go.Ab
set_option maxRecDepth 100000
def z2R (c:Nat):Bool:=decide (97≤c)&&decide (c≤122)||decide (65≤c)&&decide (c≤90)||c==95
def z8U (c:Nat):Bool:=decide (48≤c)&&decide (c≤57)
def nameB (s:ByteArray):Bool:=decide (1≤s.size)&&decide (s.size≤12)&&z2R (byteAt s 0)&&(List.range s.size).all fun i=>z2R (byteAt s i)||z8U (byteAt s i)
theorem z70 (a b:Nat):decide ((a:Int)≤(b:Int))=decide (a≤b):=by
 rw[Bool.eq_iff_iff];simp only[decide_eq_true_eq];omega
theorem z5D (σ:St) (c:Nat):Ans Tryz.prog 144 [.pl (.int .u8 c)] σ (Bo (z2R c)) σ:=by
 have e1:decide ((97:Int)≤c)=decide (97≤c):=z70 97 c;have e2:decide ((c:Int)≤122)=decide (c≤122):=z70 c 122;have e3:decide ((65:Int)≤c)=decide (65≤c):=z70 65 c;have e4:decide ((c:Int)≤90)=decide (c≤90):=z70 c 90;have e5:((c:Int)==95)=(c==95):=z22 c 95
 have hg:(if(if decide (97≤c) then decide (c≤122) else false) then true else if(if decide (65≤c) then decide (c≤90) else false) then true else(c==95))=z2R c:=by
  unfold z2R;cases decide (97≤c)<;>cases decide (c≤122)<;>cases decide (65≤c)<;>cases decide (c≤90)<;>cases(c==95)<;>rfl
 rw[←hg];refine Ans.of_run t144 ?_;cases h1:decide (97≤c)<;>cases h2:decide (c≤122)<;>cases h3:decide (65≤c)<;>cases h4:decide (c≤90)<;>rw[h1]at e1<;>rw[h2]at e2<;>rw[h3]at e3<;>rw[h4]at e4
 all_goals (simp -implicitDefEqProofs only[c144,r144,go_sem,e1,e2,e3,e4,e5];exact Fini.ret rfl)
theorem decN (a b:Nat):decide ((a:Int)<(b:Int))=decide (a<b):=by
 rw[Bool.eq_iff_iff];simp only[decide_eq_true_eq];omega
theorem z4S (σ:St) (s:ByteArray):Ans Tryz.prog 108 [Sx s] σ (Bo (nameB s)) σ:=by
 refine Ans.of_run t108 ?_;have d1:decide ((s.size:Int)<1)=decide (s.size<1):=decN s.size 1;have d2:decide ((12:Int)<s.size)=decide (12<s.size):=decN 12 s.size;by_cases h1:s.size<1
 · have e1:decide (s.size<1)=true:=by simpa using h1
   rw[e1]at d1;simp -implicitDefEqProofs only[c108,r108,go_sem,d1];refine Fini.ret' rfl (z1k ?_);rw[nameB,show decide (1≤s.size)=false from decide_eq_false (by omega)];rfl
 have e1:decide (s.size<1)=false:=by simpa using h1
 rw[e1]at d1;by_cases h2:12<s.size
 · have e2:decide (12<s.size)=true:=by simpa using h2
   rw[e2]at d2;simp -implicitDefEqProofs only[c108,r108,go_sem,d1,d2];refine Fini.ret' rfl (z1k ?_);rw[nameB,show decide (s.size≤12)=false from decide_eq_false (by omega),Bool.and_false];rfl
 have e2:decide (12<s.size)=false:=by simpa using h2
 rw[e2]at d2;have z1:((0:Int)<s.size)=True:=by simp;omega
 have n1:decide (1≤s.size)=true:=by simp;omega
 have n2:decide (s.size≤12)=true:=by simp;omega
 simp -implicitDefEqProofs only[c108,r108,go_sem,d1,d2,z1,z1b,Int.toNat_zero];refine CO.intro (z5D _ _) ?_
 cases hl:z2R (byteAt s 0) with
 |false =>
  simp -implicitDefEqProofs only[go_sem,Int.toNat_zero,hl];refine Fini.ret' rfl (z1k ?_);rw[nameB,hl,Bool.and_false];rfl
 |true =>
 simp -implicitDefEqProofs only[go_sem,Int.toNat_zero,hl];refine Go.Ab.L.scan s.size (fun i=>z2R (byteAt s i)||z8U (byteAt s i)) (fun i=>mkE 41 [(0,Sx s),(19,I s.size),(20,I i)]) (fun _=>σ) ?_ ?_ ?_ rfl
 · intro i hi hp J hJ;have hlt:((i:Int)<s.size)=True:=by simp;omega
   have hin:=z4m (n:=i) (by omega)
   have f1:decide ((byteAt s i:Int)<48)=decide (byteAt s i<48):=decN _ 48;have f2:decide ((57:Int)<byteAt s i)=decide (57<byteAt s i):=decN 57 _;simp -implicitDefEqProofs only[mkE,go_sem,hlt,z1b];refine CO.intro (z5D _ _) ?_
   have hd:z8U (byteAt s i)= !(decide (byteAt s i<48)||decide (57<byteAt s i)):=by
    unfold z8U;rw[Bool.eq_iff_iff];simp
   rw[hd]at hJ
   cases h3:z2R (byteAt s i) with
   |true =>
    rw[h3]at hJ;simp -implicitDefEqProofs only[go_sem,hin];exact hJ rfl
   |false =>
    rw[h3]at hJ;simp -implicitDefEqProofs only[go_sem,hlt,z1b];cases h4:decide (byteAt s i<48)<;>rw[h4]at f1 hJ
    · cases h5:decide (57<byteAt s i)<;>rw[h5]at f2 hJ
      · simp -implicitDefEqProofs only[go_sem,f1,f2,hlt,z1b,hin];exact hJ rfl
      · simp -implicitDefEqProofs only[go_sem,f1,f2,hlt,z1b];refine Fini.ret' rfl (z1k ?_);rw[nameB,List.all_eq_false.2 ⟨i,List.mem_range.2 hi,by simp[h3,hd,h4,h5]⟩,Bool.and_false]
    · simp -implicitDefEqProofs only[go_sem,f1,hlt,z1b];refine Fini.ret' rfl (z1k ?_);rw[nameB,List.all_eq_false.2 ⟨i,List.mem_range.2 hi,by simp[h3,hd,h4]⟩,Bool.and_false]
 · intro hp J;have hlt:((s.size:Int)<s.size)=False:=by simp
   simp -implicitDefEqProofs only[mkE,go_sem,hlt];refine Fini.ret' rfl (z1k ?_);rw[nameB,n1,n2,hl,List.all_eq_true.2 fun i hi=>hp i (List.mem_range.1 hi)];rfl
 · rfl
def likeB (k:Int):Bool:=k==3||k==4
def isB (k:Int) (nm v:ByteArray):Bool:=nameB nm&&(if likeB k then(z3d v).2 else(k==1||k==2)&&decide (v.size≤24))
theorem zcp (σ:St) (k:Int) (nm v:ByteArray):Ans Tryz.prog 159 [mat k nm v] σ (Bo (likeB k)) σ:=by
 refine Ans.of_run t159 ?_;simp -implicitDefEqProofs only[c159,r159,go_sem];unfold likeB;cases h:k==3
 · simp -implicitDefEqProofs only[go_sem];exact Fini.ret rfl
 · simp -implicitDefEqProofs only[go_sem];exact Fini.ret rfl
theorem zeM (σ:St) (k:Int) (nm v:ByteArray):Ans Tryz.prog 142 [mat k nm v] σ (Bo (isB k nm v)) σ:=by
 refine Ans.of_run t142 ?_;unfold isB;simp -implicitDefEqProofs only[c142,r142,go_sem];refine CO.intro (z4S σ nm) ?_
 cases hn:nameB nm with
 |false =>
  simp -implicitDefEqProofs only[go_sem];exact Fini.ret rfl
 |true =>
 simp -implicitDefEqProofs only[go_sem];refine CO.intro (zcp σ k nm v) ?_
 cases hk:likeB k with
 |true =>
  simp -implicitDefEqProofs only[go_sem];refine CO.intro (zaT v σ) ?_;have hrv:=Rex.rv_eq (z3d v).1;generalize (z3d v).1=x at hrv⊢;generalize (z3d v).2=b;rw[hrv];rcases Rex.rvK_cases x.ks with e|⟨l,e⟩<;>rw[e]
  all_goals (simp -implicitDefEqProofs only[go_sem];exact Fini.ret rfl)
 |false =>
  have d:decide ((v.size:Int)≤24)=decide (v.size≤24):=z70 v.size 24;simp -implicitDefEqProofs only[go_sem]
  cases h1:k==1 with
  |true =>
   simp -implicitDefEqProofs only[go_sem,d];exact Fini.ret rfl
  |false =>
   simp -implicitDefEqProofs only[go_sem]
   cases h2:k==2 with
   |true =>
    simp -implicitDefEqProofs only[go_sem,d];exact Fini.ret rfl
   |false =>
    simp -implicitDefEqProofs only[go_sem];exact Fini.ret rfl
abbrev Mtr:=Int×ByteArray×ByteArray
def mv3 (x:Mtr):AV:=mat x.1 x.2.1 x.2.2
def mvs3 (L:List Mtr):List AV:=L.map mv3
def cmpL:List UInt8→List UInt8→Int
 |[],[]=>0
 |[],_::_=>-1
 |_::_,[]=>1
 |a::x,b::y=>if a != b then(if a<b then -1 else 1) else cmpL x y
def cmpI2 (x y:List UInt8):Int:=match(List.range (min x.length y.length)).find? fun i=>x.getD i 0 != y.getD i 0 with
 |some i=>if x.getD i 0<y.getD i 0 then -1 else 1
 |none=>if x.length<y.length then -1 else if x.length>y.length then 1 else 0
theorem z8V:∀x y:List UInt8,cmpI2 x y=cmpL x y
 |[],[]=>rfl
 |[],b::y=>by simp[cmpI2,cmpL]
 |a::x,[]=>by simp[cmpI2,cmpL]
 |a::x,b::y=>by
  rw[cmpL,←z8V x y];unfold cmpI2;rw[List.length_cons,List.length_cons,Nat.succ_min_succ,List.range_succ_eq_map,List.find?_cons];simp only[List.getD_cons_zero]
  cases h:(a != b) with
  |true=>simp
  |false =>
   simp only[Bool.false_eq_true,if_false];rw[List.find?_map];simp only[Function.comp_def,List.getD_cons_succ]
   cases(List.range (min x.length y.length)).find? fun i=>x.getD i 0 != y.getD i 0 with
   |none=>simp
   |some i=>simp
theorem z71:∀x y:List UInt8,cmpL x y=if x==y then 0 else if Op.bytesLess x y then -1 else 1
 |[],[]=>rfl
 |[],b::y=>by simp[cmpL,Op.bytesLess]
 |a::x,[]=>by simp[cmpL,Op.bytesLess]
 |a::x,b::y=>by
  rw[cmpL,z71 x y,Op.bytesLess];by_cases h:a=b
  · subst h;have:¬a<a:=by simp
    simp[this]
  · by_cases hl:a<b
    · simp[h,hl]
    · simp[h,hl]
theorem zcq (a b:ByteArray):Extern.BytealgCompare.cmp a b=cmpL a.data.toList b.data.toList:=by
 rw[←z8V];unfold Extern.BytealgCompare.cmp cmpI2
 have hg:∀(a:ByteArray) (i:Nat),a[i]! =a.data.toList.getD i 0:=fun a i=>by
  rw[List.getD_eq_getElem?_getD,Array.getElem?_toList,getElem!_def];by_cases h:i<a.size
  · have h1:a[i]?=some a[i]:=by rw[getElem?_pos]
    have h2:a.data[i]?=some a[i]:=Array.getElem?_eq_getElem h;rw[h1,h2];rfl
  · have h1:a[i]?=none:=by rw[getElem?_neg];exact h
    have h2:a.data[i]?=none:=Array.getElem?_eq_none (by simpa using h)
    rw[h1,h2];rfl
 simp only[hg];rfl
def cmpS (a b:ByteArray):Int:=Extern.BytealgCompare.cmp a b
def cmpI (a b:Int):Int:=if a<b then -1 else if b<a then 1 else 0
def or3 (a b c:Int):Int:=if a != 0 then a else if b != 0 then b else c
def cmp3 (x y:Mtr):Int:=or3 (cmpS x.2.1 y.2.1) (cmpI x.1 y.1) (cmpS x.2.2 y.2.2)
section
variable (σ:St)
theorem z5E (a b:ByteArray):Ans Tryz.prog 162 [Sx a,Sx b] σ (I (cmpS a b)) σ:=by
 have h139:Ans Tryz.prog 183 [Sx a,Sx b] σ (I (cmpS a b)) σ:=zeG _ _ _ _ rfl
 have h123:Ans Tryz.prog 172 [Sx a,Sx b] σ (I (cmpS a b)) σ:=by
  refine Ans.of_run t172 ?_;simp -implicitDefEqProofs only[c172,r172,go_sem];refine CO.intro h139 ?_;simp -implicitDefEqProofs only[go_sem];exact Fini.ret rfl
 refine Ans.of_run t162 ?_;simp -implicitDefEqProofs only[c162,r162,go_sem];refine CO.intro h123 ?_;simp -implicitDefEqProofs only[go_sem];exact Fini.ret rfl
theorem zaU (a:Int):Ans Tryz.prog 173 [I a] σ (Bo false) σ:=by
 have h:(a != a)=false:=by simp
 refine Ans.of_run t173 ?_;simp -implicitDefEqProofs only[c173,r173,go_sem,h];exact Fini.ret rfl
theorem z9O (a b:Int):Ans Tryz.prog 163 [I a,I b] σ (I (cmpI a b)) σ:=by
 unfold cmpI;refine Ans.of_run t163 ?_;simp -implicitDefEqProofs only[c163,r163,go_sem];refine CO.intro (zaU σ a) ?_;simp -implicitDefEqProofs only[go_sem];refine CO.intro (zaU σ b) ?_;simp -implicitDefEqProofs only[go_sem];by_cases h1:a<b
 · have h1':decide (a<b)=true:=by simpa using h1
   simp -implicitDefEqProofs only[go_sem,h1'];rw[if_pos h1];exact Fini.ret rfl
 · have h1':decide (a<b)=false:=by simpa using h1
   simp -implicitDefEqProofs only[go_sem,h1'];rw[if_neg h1];by_cases h2:b<a
   · have h2':decide (b<a)=true:=by simpa using h2
     simp -implicitDefEqProofs only[go_sem,h2'];rw[if_pos h2];exact Fini.ret rfl
   · have h2':decide (b<a)=false:=by simpa using h2
     simp -implicitDefEqProofs only[go_sem,h2'];rw[if_neg h2];exact Fini.ret rfl
def orF (a b c:Int):Nat→Int
 |0=>or3 a b c
 |1=>if b != 0 then b else c
 |2=>c
 |_=>0
theorem zeN (a b c:Int):Ans Tryz.prog 161 [.sl 1 [I a,I b,I c]] σ (I (or3 a b c)) σ:=by
 refine Ans.of_run t161 ?_;simp -implicitDefEqProofs only[c161,r161,go_sem];generalize hres:or3 a b c=res
 refine Go.Ab.L.intro (α:={ i:Nat // i≤3∧orF a b c i=res }) (fun x=>3-x.1)
  (fun x=>mkE 18 [(3,I 0),(6,.sl 1 [I a,I b,I c]),(7,I ((3:Nat):Int)),(8,I x.1)]) (fun _=>σ) (fun x J hJ=>?_) ⟨0,Nat.zero_le _,hres⟩ rfl rfl
 obtain⟨i,hi,hg⟩:=x;simp only at hJ⊢;have i4:i=0∨i=1∨i=2∨i=3:=by omega
 have w0:IntKind.i64.wrap (((0:Nat):Int)+1)=((1:Nat):Int):=by decide
 have w1:IntKind.i64.wrap (((1:Nat):Int)+1)=((2:Nat):Int):=by decide
 have w2:IntKind.i64.wrap (((2:Nat):Int)+1)=((3:Nat):Int):=by decide
 rcases i4 with rfl|rfl|rfl|rfl
 · have d1:decide (((0:Nat):Int)<((3:Nat):Int))=true:=by decide
   have d2:(((0:Nat):Int)<((3:Nat):Int))=True:=by simp
   simp only[orF,or3]at hg;simp -implicitDefEqProofs only[mkE,go_sem,d1,d2];cases h:a != 0
   · rw[h,if_neg Bool.false_ne_true]at hg;have hJ':=hJ ⟨1,by omega,hg⟩ (by simp only;omega)
     simp only at hJ';simp -implicitDefEqProofs only[go_sem,w0];exact hJ'
   · rw[h,if_pos rfl]at hg;simp -implicitDefEqProofs only[go_sem];rw[←hg];exact Fini.ret rfl
 · have d1:decide (((1:Nat):Int)<((3:Nat):Int))=true:=by decide
   have d2:(((1:Nat):Int)<((3:Nat):Int))=True:=by simp
   simp only[orF]at hg;simp -implicitDefEqProofs only[mkE,go_sem,d1,d2];cases h:b != 0
   · rw[h,if_neg Bool.false_ne_true]at hg;have hJ':=hJ ⟨2,by omega,hg⟩ (by simp only;omega)
     simp only at hJ';simp -implicitDefEqProofs only[go_sem,w1];exact hJ'
   · rw[h,if_pos rfl]at hg;simp -implicitDefEqProofs only[go_sem];rw[←hg];exact Fini.ret rfl
 · have d1:decide (((2:Nat):Int)<((3:Nat):Int))=true:=by decide
   have d2:(((2:Nat):Int)<((3:Nat):Int))=True:=by simp
   simp only[orF]at hg;simp -implicitDefEqProofs only[mkE,go_sem,d1,d2];cases h:c != 0
   · have hc:c=0:=by simpa using h
     have hJ':=hJ ⟨3,by omega,by rw[←hg,hc];rfl⟩ (by simp only;omega)
     simp only at hJ';simp -implicitDefEqProofs only[go_sem,w2];exact hJ'
   · simp -implicitDefEqProofs only[go_sem];rw[←hg];exact Fini.ret rfl
 · have d1:decide (((3:Nat):Int)<((3:Nat):Int))=false:=by decide
   have d2:(((3:Nat):Int)<((3:Nat):Int))=False:=by simp
   simp only[orF]at hg;simp -implicitDefEqProofs only[mkE,go_sem,d1,d2];rw[←hg];exact Fini.ret rfl
theorem z85 (x y:Mtr):Ans Tryz.prog 143 [mv3 x,mv3 y] σ (I (cmp3 x y)) σ:=by
 have h1:=fun s=>z5E s x.2.1 y.2.1
 have h2:=fun s=>z9O s x.1 y.1
 have h3:=fun s=>z5E s x.2.2 y.2.2
 have h4:=fun s=>zeN s (cmpS x.2.1 y.2.1) (cmpI x.1 y.1) (cmpS x.2.2 y.2.2)
 unfold cmp3;refine Ans.of_run t143 ?_;simp -implicitDefEqProofs only[c143,r143,go_sem,z00,mv3]
 first|refine CD.intro (h1 _) ?_|refine CS.intro h1 ?_
 simp -implicitDefEqProofs only[go_sem,z00]
 first|refine CD.intro (h2 _) ?_|refine CS.intro h2 ?_
 simp -implicitDefEqProofs only[go_sem,z00]
 first|refine CD.intro (h3 _) ?_|refine CS.intro h3 ?_
 simp -implicitDefEqProofs only[go_sem,z00]
 first|refine CD.intro (h4 _) ?_|refine CS.intro h4 ?_
 simp -implicitDefEqProofs only[go_sem];exact Fini.ret rfl
end
theorem zaV (a b:ByteArray):cmpS a b=(if a.toList==b.toList then 0 else if Op.bytesLess a.toList b.toList then -1 else 1):=by
 rw[cmpS,zcq,z71,ByteArray.toList_eq,ByteArray.toList_eq]
def z4T (x y:Mtr):Bool :=
 if !(x.2.1.toList==y.2.1.toList) then Op.bytesLess x.2.1.toList y.2.1.toList
 else if !(x.1==y.1) then decide (x.1<y.1)
 else Op.bytesLess x.2.2.toList y.2.2.toList
theorem z4U:∀x:List UInt8,Op.bytesLess x x=false
 |[]=>rfl
 |a::x=>by rw[Op.bytesLess,z4U x];simp
theorem z86 (x y:Mtr):decide (0≤cmp3 x y)= !z4T x y:=by
 unfold cmp3 or3 z4T;rw[zaV,zaV]
 cases h1:(x.2.1.toList==y.2.1.toList) with
 |false =>
  cases h2:Op.bytesLess x.2.1.toList y.2.1.toList<;>simp
 |true =>
  simp only[Bool.not_true,Bool.false_eq_true,if_false,if_true];unfold cmpI;by_cases h3:x.1<y.1
  · have:(x.1==y.1)=false:=by simp;omega
    simp[h3,this]
  · by_cases h4:y.1<x.1
    · have:(x.1==y.1)=false:=by simp;omega
      simp[h3,h4,this]
    · have h5:(x.1==y.1)=true:=by simp;omega
      simp only[h3,h4,h5,if_false,Bool.not_true,Bool.false_eq_true]
      cases h6:(x.2.2.toList==y.2.2.toList) with
      |true =>
       have:x.2.2.toList=y.2.2.toList:=by simpa using h6
       rw[this,z4U];rfl
      |false=>cases h7:Op.bytesLess x.2.2.toList y.2.2.toList<;>simp
def epsTo (ys:List Stp) (p q:Nat):Prop:=∃s,ys[p]?=some s∧((s.op=2∧(q=s.x.toNat∨q=s.y.toNat))∨(s.op=3∧q=s.x.toNat))
inductive Eps (ys:List Stp):Nat→Nat→Prop where
 |refl (p:Nat):Eps ys p p
 |step {p q r:Nat}:epsTo ys p q→Eps ys q r→Eps ys p r
theorem z66 {ys:List Stp} {p:Nat} {s:Stp} (h:ys[p]?=some s):stpAt ys p=s:=by
 rw[stpAt,List.getD_eq_getElem?_getD,h];rfl
theorem Eps.snoc {ys:List Stp} {p q r:Nat} (h:Eps ys p q) (h':epsTo ys q r):Eps ys p r:=by
 induction h with
 |refl p=>exact .step h' (.refl _)
 |step h1 _ ih=>exact .step h1 (ih h')
section
variable {ys:List Stp} (hc:zeF ys=true)
include hc
end
inductive Reach (ys:List Stp) (s:ByteArray):Nat→Nat→Prop where
 |zero:Reach ys s 0 0
 |eps {p q i:Nat}:Reach ys s p i→epsTo ys p q→Reach ys s q i
 |byte {p i:Nat}:Reach ys s p i→p<ys.length→i<s.size→z4M (stpAt ys p) (byteAt s i)=true→Reach ys s (p+1) (i+1)
theorem Reach.last {ys:List Stp} {s:ByteArray} {q i:Nat} (h:Reach ys s q i):(i=0∧Eps ys 0 q)∨∃j p,i=j+1∧j<s.size∧p<ys.length∧Reach ys s p j∧z4M (stpAt ys p) (byteAt s j)=true∧Eps ys (p+1) q:=by
 induction h with
 |zero=>exact .inl ⟨rfl,.refl _⟩
 |eps _ h1 ih =>
  rcases ih with⟨h,h'⟩|⟨j,p,h⟩
  · exact .inl ⟨h,h'.snoc h1⟩
  · exact .inr ⟨j,p,h.1,h.2.1,h.2.2.1,h.2.2.2.1,h.2.2.2.2.1,h.2.2.2.2.2.snoc h1⟩
 |byte h hp hi ht _=>exact .inr ⟨_,_,rfl,hi,hp,h,ht,.refl _⟩
end Go.Proofs.YtmkmhhjkdaklbaaGreat
namespace Go.Proofs.YtmkmhhjkdaklbaaGreat
open Go Go.Ab
set_option maxRecDepth 100000
inductive Star (R:Nat→Nat→Prop):Nat→Nat→Prop where
 |refl (i:Nat):Star R i i
 |step {i m j:Nat}:R i m→Star R m j→Star R i j
section
variable (s:ByteArray)
mutual
def Mt:Rex→Nat→Nat→Prop
 |.mk op a b c d ks=>fun i j =>
  if op==1 then i<s.size∧j=i+1∧z4M ⟨1,a,b,c,d,0,0⟩ (byteAt s i)=true
  else if op==2 then MtL ks i j
  else if op==3 then MtA ks i j
  else if op==4 then Star (MtH ks) i j
  else if op==5 then ∃m,MtH ks i m∧Star (MtH ks) m j
  else if op==6 then i=j∨MtH ks i j
  else False
def MtL:List Rex→Nat→Nat→Prop
 |[]=>fun i j=>i=j
 |x::xs=>fun i j=>∃m,Mt x i m∧MtL xs m j
def MtA:List Rex→Nat→Nat→Prop
 |[]=>fun _ _=>False
 |x::xs=>fun i j=>Mt x i j∨MtA xs i j
def MtH:List Rex→Nat→Nat→Prop
 |[]=>fun _ _=>False
 |x::_=>fun i j=>Mt x i j
end
inductive Ed (ys:List Stp):Nat×Nat→Nat×Nat→Prop where
 |eps {p q i:Nat}:epsTo ys p q→Ed ys (p,i) (q,i)
 |byte {p i:Nat}:p<ys.length→i<s.size→z4M (stpAt ys p) (byteAt s i)=true→Ed ys (p,i) (p+1,i+1)
def Run (ys:List Stp) (lo hi:Nat):Nat→Nat×Nat→Nat×Nat→Prop
 |0,c,d=>c=d∧¬(lo≤c.1∧c.1<hi)
 |k+1,c,d=>(lo≤c.1∧c.1<hi)∧∃e,Ed s ys c e∧Run ys lo hi k e d
def Path (ys:List Stp):Nat→Nat×Nat→Nat×Nat→Prop
 |0,c,d=>c=d
 |k+1,c,d=>∃e,Ed s ys c e∧Path ys k e d
variable {s} {ys:List Stp}
theorem Run.split {lo hi lo' hi':Nat} (h1:lo≤lo') (h2:hi'≤hi):∀(k:Nat) (c d:Nat×Nat),Run s ys lo hi k c d→∃k1 k2 m,k1+k2=k∧Run s ys lo' hi' k1 c m∧Run s ys lo hi k2 m d
 |0,c,d,h=>⟨0,0,c,rfl,⟨rfl,fun hc=>h.2 ⟨by omega,by omega⟩⟩,h⟩
 |k+1,c,d,h=>by
  by_cases hc:lo'≤c.1∧c.1<hi'
  · obtain⟨_,e,he,hr⟩:=h;obtain⟨k1,k2,m,hk,h3,h4⟩:=Run.split h1 h2 k e d hr;exact⟨k1+1,k2,m,by omega,⟨hc,e,he,h3⟩,h4⟩
  · exact⟨0,k+1,c,by omega,⟨rfl,hc⟩,h⟩
theorem Path.run {lo hi:Nat}:∀(k:Nat) (c d:Nat×Nat),Path s ys k c d→¬(lo≤d.1∧d.1<hi)→∃k1 k2 m,Run s ys lo hi k1 c m∧Path s ys k2 m d
 |0,c,d,h,hd=>⟨0,0,c,⟨rfl,by rw[show c=d from h];exact hd⟩,h⟩
 |k+1,c,d,h,hd=>by
  by_cases hc:lo≤c.1∧c.1<hi
  · obtain⟨e,he,hr⟩:=h;obtain⟨k1,k2,m,h3,h4⟩:=Path.run k e d hr hd;exact⟨k1+1,k2,m,⟨hc,e,he,h3⟩,h4⟩
  · exact⟨0,k+1,c,⟨rfl,hc⟩,h⟩
theorem Path.snoc:∀(k:Nat) (c d e:Nat×Nat),Path s ys k c d→Ed s ys d e→Path s ys (k+1) c e
 |0,c,d,e,h,he=>by rw[show c=d from h];exact⟨e,he,rfl⟩
 |k+1,c,d,e,h,he=>by
  obtain⟨f,hf,hr⟩:=h;exact⟨f,hf,Path.snoc k f d e hr he⟩
theorem Run.out {lo hi k:Nat} {c d:Nat×Nat} (h:Run s ys lo hi k c d) (hc:¬(lo≤c.1∧c.1<hi)):k=0∧c=d:=by
 cases k with
 |zero=>exact⟨rfl,h.1⟩
 |succ k=>exact absurd h.1 hc
theorem Run.move {lo hi k:Nat} {c d:Nat×Nat} (h:Run s ys lo hi k c d) (hc:lo≤c.1∧c.1<hi):∃k' e,k=k'+1∧Ed s ys c e∧Run s ys lo hi k' e d:=by
 cases k with
 |zero=>exact absurd hc h.2
 |succ k=>obtain⟨_,e,h1,h2⟩:=h;exact⟨k,e,rfl,h1,h2⟩
theorem Ed.two {p i:Nat} {e:Nat×Nat} {st:Stp} (h:Ed s ys (p,i) e) (hs:ys[p]?=some st) (ho:st.op=2):e=(st.x.toNat,i)∨e=(st.y.toNat,i):=by
 cases h with
 |eps h =>
  obtain⟨s',h1,h2⟩:=h;rw[hs]at h1;cases h1;rcases h2 with⟨_,rfl|rfl⟩|⟨h3,_⟩
  · exact .inl rfl
  · exact .inr rfl
  · omega
 |byte h1 h2 h3 =>
  rw[z66 hs]at h3;simp[z4M,ho]at h3
theorem Ed.one {p i:Nat} {e:Nat×Nat} {st:Stp} (h:Ed s ys (p,i) e) (hs:ys[p]?=some st) (ho:st.op=1):e=(p+1,i+1)∧i<s.size∧z4M st (byteAt s i)=true:=by
 cases h with
 |eps h =>
  obtain⟨s',h1,h2⟩:=h;rw[hs]at h1;cases h1;rcases h2 with⟨h3,_⟩|⟨h3,_⟩<;>omega
 |byte h1 h2 h3 =>
  rw[z66 hs]at h3;exact⟨rfl,h2,h3⟩
theorem Ed.four {p i:Nat} {e:Nat×Nat} {st:Stp} (h:Ed s ys (p,i) e) (hs:ys[p]?=some st) (ho:st.op=4):False:=by
 cases h with
 |eps h =>
  obtain⟨s',h1,h2⟩:=h;rw[hs]at h1;cases h1;rcases h2 with⟨h3,_⟩|⟨h3,_⟩<;>omega
 |byte h1 h2 h3 =>
  rw[z66 hs]at h3;simp[z4M,ho]at h3
def Frag (ys:List Stp) (n:Nat) (l:List Stp):Prop:=∀k,k<l.length→ys[n+k]?=l[k]?
theorem Frag.left {n:Nat} {a b:List Stp} (h:Frag ys n (a++b)):Frag ys n a:=fun k hk=>by
 rw[h k (by simp;omega),List.getElem?_append_left hk]
theorem Frag.right {n:Nat} {a b:List Stp} (h:Frag ys n (a++b)):Frag ys (n+a.length) b:=fun k hk=>by
 rw[show n+a.length+k=n+(a.length+k) by omega,h _ (by simp;omega),List.getElem?_append_right (by omega)]
 congr 1;omega
theorem Frag.head {n:Nat} {a:Stp} {b:List Stp} (h:Frag ys n (a::b)):ys[n]?=some a:=by
 have:=h 0 (by simp);simpa using this
theorem Frag.tail {n:Nat} {a:Stp} {b:List Stp} (h:Frag ys n (a::b)):Frag ys (n+1) b:=fun k hk=>by
 have:=h (k+1) (by simp;omega)
 rw[show n+1+k=n+(k+1) by omega,this];simp
end
end Go.Proofs.YtmkmhhjkdaklbaaGreat
namespace Go.Proofs.YtmkmhhjkdaklbaaGreat
open Go Go.Ab Rex
set_option maxRecDepth 100000
section
variable (s:ByteArray)
end
theorem Star.one {R:Nat→Nat→Prop} {i m j:Nat} (h:R i m) (h':Star R m j):Star R i j:=.step h h'
section
variable {s:ByteArray} {ys:List Stp}
def Comp (s:ByteArray) (ys:List Stp) (x:Rex):Prop:=∀n i j,Frag ys n (lay n x)→Mt s x i j→Reach ys s n i→Reach ys s (n+(lay n x).length) j
theorem compL (l:List Rex):∀n i j,(∀k∈l,Comp s ys k)→Frag ys n (layL n l)→MtL s l i j→Reach ys s n i→Reach ys s (n+(layL n l).length) j:=by
 induction l with
 |nil=>intro n i j _ _ h hr;rw[show i=j from h]at hr;exact hr
 |cons x xs ih =>
  intro n i j hk hf h hr;rw[layL]at hf⊢;obtain⟨m,h1,h2⟩:=h;have a1:=hk x List.mem_cons_self n i m hf.left h1 hr;have a2:=ih _ m j (fun k hk'=>hk k (List.mem_cons_of_mem _ hk')) hf.right h2 a1
  rw[List.length_append,←Nat.add_assoc];exact a2
end
abbrev dob (s:ByteArray) (a d:Nat) (b:Bool):Ob:=.box [Sx s,I a,I d,Bo b]
section
variable (σ:St) (p:Nat) (s:ByteArray) (a d:Nat)
end
abbrev DF:=Nat→Rex×Nat×Nat×Bool
def DAns (f:FuncId) (g:Bool) (s:ByteArray) (d:Nat) (F:DF):Prop :=
 ∀(σ:St) (p a:Nat),p<σ.length→s.size≤40→(g=true→a<s.size) →
  Ans Tryz.prog f [.ptr p 0] (σ.set p (dob s a d false)) (F a).1.rv (σ.set p (dob s (F a).2.1 (F a).2.2.1 (F a).2.2.2))
section
variable {σ:St} {p:Nat} {s:ByteArray}
theorem DAns.ex {f:FuncId} {g:Bool} {d:Nat} {F:DF} (h:DAns f g s d F) (hp:p<σ.length) (a:Nat) (hs:s.size≤40) (hg:g=true→a<s.size) (ex:St) :
  Ans Tryz.prog f [.ptr p 0] (σ.set p (dob s a d false)++ex) (F a).1.rv (σ.set p (dob s (F a).2.1 (F a).2.2.1 (F a).2.2.2)++ex):=by
 have:=h (σ.set p (dob s a d false)++ex) p a (by simp;omega) hs hg
 rwa [sA hp,sA hp]at this
end
section
variable (s:ByteArray)
end
end Go.Proofs.YtmkmhhjkdaklbaaGreat
namespace Go.Proofs.YtmkmhhjkdaklbaaGreat
open Go Go.Ab
set_option maxRecDepth 100000
theorem z8W (M:List Mtr) (i:Nat) (h:i<M.length):(mvs3 M)[i]?=some (mv3 M[i]):=by simp[mvs3,h]
theorem z0t (M:List Mtr):(mvs3 M).length=M.length:=List.length_map ..
abbrev noM3:Mtr:=(0,⟨#[]⟩,⟨#[]⟩)
def isM (x:Mtr):Bool:=isB x.1 x.2.1 x.2.2
def okL (M:List Mtr) (i:Nat):Bool:=isM (M.getD i noM3)&&(i==0||z4T (M.getD (i-1) noM3) (M.getD i noM3))
def listB (M:List Mtr):Bool:=decide (M.length≤5)&&(List.range M.length).all (okL M)
theorem z8X (M:List Mtr) (i:Nat) (h:i<M.length):(mvs3 M)[i]?=some (mv3 (M.getD i noM3)):=by
 rw[z8W M i h,List.getD_eq_getElem?_getD,List.getElem?_eq_getElem h];rfl
theorem z0h (n:Nat) (M:List Mtr):Bel n (.sl 3 (mvs3 M)):=by
 refine .sl 3 _ fun i hi=>?_
 have:∀y∈mvs3 M,Bel n y:=by
  intro y hy;simp only[mvs3,List.mem_map]at hy;obtain⟨x,_,rfl⟩:=hy;refine .agg _ fun i hi=>?_
  have:∀y∈([I x.1,Sx x.2.1,Sx x.2.2]:List AV),Bel n y:=by
   intro y hy;simp only[List.mem_cons,List.not_mem_nil,or_false]at hy;rcases hy with rfl|rfl|rfl<;>exact .pl _
  exact this _ (List.getElem_mem hi)
 exact this _ (List.getElem_mem hi)
theorem zde (n:Nat) (M:List Mtr):Bel n (.sl 3 (mvs3 M))=True:=eq_true (z0h n M)
theorem memM (n:Nat) (k:Int) (a b:ByteArray):∀y∈([I k,Sx a,Sx b]:List AV),Bel n y:=by
 intro y hy;simp only[List.mem_cons,List.not_mem_nil,or_false]at hy;rcases hy with rfl|rfl|rfl<;>exact .pl _
theorem zdf (n:Nat) (k:Int) (a b:ByteArray):Bel n (.agg [I k,Sx a,Sx b])=True:=eq_true (.agg _ fun i hi=>memM n k a b _ (List.getElem_mem hi))
theorem BL_rp (n:Nat) (k:Int) (a b:ByteArray):Bel n (.rp [I k,Sx a,Sx b])=True:=eq_true (.rp _ fun i hi=>memM n k a b _ (List.getElem_mem hi))
theorem z14 (σ:St) (M:List Mtr):Ans Tryz.prog 106 [.sl 3 (mvs3 M)] σ (Bo (listB M)) σ:=by
 refine Ans.of_run' t106 (fun hbel _=>?_)
 have d5:decide ((5:Int)<M.length)=decide (5<M.length):=decN 5 _;have hb0:(∀o∈σ,BelO σ.length o)=True:=eq_true hbel;unfold listB;simp -implicitDefEqProofs only[c106,r106,go_sem,z0t,d5];by_cases hl:M.length≤5
 · rw[decide_eq_true hl,Bool.true_and];have h5:decide (5<M.length)=false:=decide_eq_false (by omega)
   simp -implicitDefEqProofs only[go_sem,h5,z0t];refine Go.Ab.L.scan M.length (okL M) (fun i=>mkE 33 [(0,.sl 3 (mvs3 M)),(8,.sl 3 (mvs3 M)),(9,I M.length),(10,I i)]) (fun _=>σ) ?_ ?_ rfl rfl
   · intro i hi hp J hJ;have htk:∀x:Ob,(σ++[x]).take σ.length=σ:=fun x=>List.take_left' rfl
     have hF:okL M i=false→(List.range M.length).all (okL M)=false:=fun h=>List.all_eq_false.2 ⟨i,List.mem_range.2 hi,by simp[h]⟩
     have hx:=z8X M i hi;have hin:=z4m (n:=i) (by omega)
     have hI:=fun σ=>zeM σ (M.getD i noM3).1 (M.getD i noM3).2.1 (M.getD i noM3).2.2
     have hO:okL M i=(isB (M.getD i noM3).1 (M.getD i noM3).2.1 (M.getD i noM3).2.2&&(i==0||z4T (M.getD (i-1) noM3) (M.getD i noM3))):=rfl;have d0:decide ((0:Int)<i)=decide (0<i):=decN 0 i;rw[hO]at hJ hF;simp -implicitDefEqProofs only[mkE,go_sem,z0t,z0j hi,dec_lt hi,hx,mv3,z00,g0,s0,List.drop_nil]
     first|refine CD.intro (hI _) ?_|refine CS.intro hI ?_
     generalize isB (M.getD i noM3).1 (M.getD i noM3).2.1 (M.getD i noM3).2.2=b1 at hJ hF
     cases b1 with
     |false =>
      simp -implicitDefEqProofs only[go_sem,z00,g0,s0];rw[hF rfl];exact Fini.trim2 (σ':=σ) rfl rfl (Nat.le_refl _) (.pl _) hbel
     |true =>
      by_cases hz:i=0
      · subst hz;have hgo:=hJ rfl;simp -implicitDefEqProofs only[go_sem,hin,z00,g0,s0,Int.natCast_zero,B_pl,B_any,z1R,B_tup,B_osl,B_ptr,B_sl0,zde,zdf,BL_rp,htk,Nat.add_zero,hb0,List.length_append];exact⟨by omega,hgo⟩
      · have hpos:decide (0<i)=true:=by simp;omega
        have hx1:=z8X M (i-1) (by omega)
        have hB:=fun σ=>z85 σ (M.getD (i-1) noM3) (M.getD i noM3)
        have hc:=z86 (M.getD (i-1) noM3) (M.getD i noM3);have w1:IntKind.i64.wrap ((i:Int)-1)=((i-1:Nat):Int):=by rw[wrapN (by omega) (by omega)];omega
        have hlt1:(((i-1:Nat):Int)<M.length)=True:=by simp;omega
        have hz':(i==0)=false:=by simpa using hz
        rw[hz']at hJ hF;simp -implicitDefEqProofs only[go_sem,d0,hpos,w1,z0t,z0j hi,dec_lt hi,hlt1,hx,hx1,z00,mv3,g0,s0]
        first|refine CD.intro (hB _) ?_|refine CS.intro hB ?_
        generalize z4T (M.getD (i-1) noM3) (M.getD i noM3)=b2 at hJ hF hc;generalize cmp3 (M.getD (i-1) noM3) (M.getD i noM3)=cc at hc
        cases b2 with
        |true =>
         have hgo:=hJ rfl;simp -implicitDefEqProofs only[go_sem,hc,hin,g0,s0,B_pl,B_any,z1R,B_tup,B_osl,B_ptr,B_sl0,zde,zdf,BL_rp,htk,Nat.add_zero,hb0,List.length_append,Bool.not_true];exact⟨by omega,hgo⟩
        |false =>
         simp -implicitDefEqProofs only[go_sem,hc,Bool.not_false,g0,s0];rw[hF rfl];exact Fini.trim2 (σ':=σ) rfl rfl (Nat.le_refl _) (.pl _) hbel
   · intro hp J;have hd:decide ((M.length:Int)<M.length)=false:=by simp
     simp -implicitDefEqProofs only[mkE,go_sem,z0t,hd];refine Fini.ret' rfl (z1k ?_);exact(List.all_eq_true.2 fun i hi=>hp i (List.mem_range.1 hi)).symm
 · rw[decide_eq_false hl,Bool.false_and];have h5:decide (5<M.length)=true:=decide_eq_true (by omega)
   simp -implicitDefEqProofs only[go_sem,h5];exact Fini.ret rfl
def c22:ACode :=
 (sq_ [pr_ 1 (.boxr (.tmp 0)),
 pr_ 2 (.allocm [.nils,.nils,.pl (.bool false),.pl (.float .f64 0),.pl (.float .f64 0),.nils])]
 (.seq (.draw [⟨pr_ 7 (fa_ 0 1),[],false,0,0⟩,
 ⟨pr_ 8 (lf_ 1 7),[0],false,0,0⟩,
 ⟨cl_ 9 79 [(.tmp 8),(.const (.bool true))],[0,1],false,0,0⟩,
 ⟨pr_ 10 (fa_ 1 1),[],false,0,0⟩,
 ⟨pr_ 11 (lf_ 1 10),[3],false,0,0⟩,
 ⟨cl_ 12 79 [(.tmp 11),(.const (.bool true))],[0,1,2,3,4],false,0,0⟩,
 ⟨pr_ 13 (fa_ 2 1),[],false,0,0⟩,
 ⟨pr_ 14 (lt_ 3 13),[6],false,0,0⟩,
 ⟨c1_ 15 80 14,(List.range 8),true,0,0⟩,
 ⟨pr_ 16 (.build [.nils,.nils,.pl (.bool false),.pl (.float .f64 0),.pl (.float .f64 0),.nils] [(0,1,(.tmp 9)),(1,1,(.tmp 12)),(2,3,(.tmp 15))]),(List.range 9),false,1,1⟩,
 ⟨⟨some 3,none,.flo 6⟩,[],false,0,1⟩,
 ⟨⟨some 3,none,.adopt true 3 6 (.tmp 16)⟩,(List.range 11),true,0,0⟩])
 (.seq (sq_ [pr_ 4 (mi_ .i64 0)]
 (.block 0 (.loop [0,5,6,7,8,9,10,11,12,13,14,15,16,17,18,19,20,21,22,23,24,25,26,27,28,29,30,31,32,33,34,35,36,37,38,39,40,41,42,43,44,45,46,47,48,49,50,51,52,53,54,55] (.seq (sq_ [mv_ 17 4,
 pr_ 18 (bk_ .lss 17 .i64 5),
 mv_ 19 18,
 gp_ 20 19 true (fa_ 5 3),
 gp_ 21 19 true (lf_ 1 20),
 gp_ 22 19 true (.lenv (.tmp 21)),
 gp_ 23 19 true (bk_ .lss 22 .i64 4),
 pr_ 24 (pa_ 19 23)]
 (.cond (.tmp 24)
 .skip
 (.exit 0)))
 (.seq (.block 1 (sq_ [pr_ 27 (.build [.pl (.string .empty),.pl (.string .empty),.pl (.string .empty),.pl (.string .empty),.pl (.string .empty)] [(0,1,(.const (.string (ByteArray.mk #[90,111,110,101,57])))),(1,1,(.const (.string (ByteArray.mk #[95,120])))),(2,1,(.const (.string (ByteArray.mk #[104,111,115,116])))),(3,1,(.const (.string (ByteArray.mk #[106,111,98])))),(4,1,(.const (.string (ByteArray.mk #[115,101,118]))))]),
 mv_ 28 4,
 pr_ 29 (.idxa 1 5 false (.tmp 27) (.tmp 28)),
 mv_ 5 29]
 (sq_ [pr_ 6 (mi_ .i64 0)]
 (.block 2 (.loop [0,7,8,9,10,11,12,13,14,15,16,17,18,19,20,21,22,23,24,25,26,27,28,29,30,31,32,33,34,35,36,37,38,39,40,41,42,43,44,45,46,47,48,49,50,51,52,53,54,55] (.seq (sq_ [mv_ 30 6,
 pr_ 31 (fa_ 5 1),
 pr_ 32 (lf_ 1 31),
 pr_ 33 (.lenv (.tmp 32)),
 pr_ 34 (bt_ .lss 30 33),
 mv_ 35 34,
 gp_ 36 35 true (mo_ 6),
 gp_ 37 35 true (bk_ .lss 36 .i64 9),
 pr_ 38 (pa_ 35 37)]
 (.cond (.tmp 38)
 .skip
 (.exit 2)))
 (.seq (.block 3 (sq_ [pr_ 41 (fa_ 5 1),
 pr_ 42 (lf_ 1 41),
 mv_ 43 6,
 pr_ 44 (.iadrs 1 (.tmp 42) (.tmp 43)),
 pr_ 45 (lf_ 1 44),
 c1_ 46 81 45,
 mv_ 47 5,
 pr_ 48 (bt_ .eql 46 47)]
 (.cond (.tmp 48)
 (sq_ [pr_ 49 (fa_ 5 3),
 pr_ 50 (lf_ 1 49),
 mv_ 51 5,
 pr_ 52 (.bsl false 1 false 1 [.pl (.string .empty)] [(0,1,(.tmp 51))]),
 pr_ 53 (.app 1 (.tmp 50) (.tmp 52)),
 pr_ 54 (fa_ 5 3),
 st_ (so_ 1 54 53)]
 (.exit 2))
 .skip)))
 (.ops [mv_ 39 6,
 pr_ 40 (bk_ .add 39 .i64 1),
 mv_ 6 40]))))))))
 (.ops [mv_ 25 4,
 pr_ 26 (bk_ .add 25 .i64 1),
 mv_ 4 26]))))))
 (.seq (.ghost (.shutc 3 5 1) (.ops [pr_ 55 (lt_ 6 3),
 st_ (so_ 6 2 55)]))
 .ret))))
def o22:List Tmp:=[2,3]
def r22:List RV:=[.cell 2 6 true]
theorem t22:Text Tryz.prog 22 o22 c22 r22 56:=.mk_ Tryz.f22 rfl
def c51:ACode :=
 (sq_ [pr_ 1 (.boxr (.tmp 0)),
 pr_ 2 mf_]
 (.seq (sq_ [pr_ 5 (fa_ 0 1),
 pr_ 6 (lf_ 1 5),
 pr_ 7 (.lenv (.tmp 6)),
 pr_ 8 (bk_ .eql 7 .i64 0),
 mv_ 9 8,
 gp_ 10 9 false (fa_ 1 1),
 gp_ 11 9 false (lf_ 1 10),
 gp_ 12 9 false (.lenv (.tmp 11)),
 gp_ 13 9 false (bk_ .eql 12 .i64 0),
 pr_ 14 (po_ 9 13),
 mv_ 15 14,
 gp_ 16 15 false (fa_ 0 1),
 gp_ 17 15 false (lf_ 1 16),
 gc_ 18 15 false 106 [(.tmp 17)],
 gp_ 19 15 false (no_ 18),
 pr_ 20 (po_ 15 19),
 mv_ 21 20,
 gp_ 22 21 false (fa_ 1 1),
 gp_ 23 21 false (lf_ 1 22),
 gc_ 24 21 false 106 [(.tmp 23)],
 gp_ 25 21 false (no_ 24),
 pr_ 26 (po_ 21 25),
 mv_ 27 26,
 gp_ 28 27 false (fa_ 2 1),
 gp_ 29 27 false (lt_ 3 28),
 gc_ 30 27 false 107 [(.tmp 29)],
 gp_ 31 27 false (no_ 30),
 pr_ 32 (po_ 27 31),
 mv_ 33 32,
 gp_ 34 33 false (fa_ 5 1),
 gp_ 35 33 false (lf_ 1 34),
 gp_ 36 33 false (.lenv (.tmp 35)),
 gp_ 37 33 false (bk_ .gtr 36 .i64 4),
 pr_ 38 (po_ 33 37)]
 (.cond (.tmp 38)
 (sq_ [pr_ 2 mf_]
 .ret)
 .skip))
 (.seq (sq_ [pr_ 39 (fa_ 5 1),
 pr_ 40 (lf_ 1 39),
 pr_ 41 (.lenv (.tmp 40)),
 pr_ 42 (mi_ .i64 0)]
 (.block 0 (.loop [0,2,3,4,5,6,7,8,9,10,11,12,13,14,15,16,17,18,19,20,21,22,23,24,25,26,27,28,29,30,31,32,33,34,35,36,37,38,39,43,44,45,46,47,48,49,50,51,52,53,54,55,56,57,58,59,60,61,62,63,64] (sq_ [pr_ 43 (bt_ .lss 42 41)]
 (.seq (.cond (.tmp 43)
 .skip
 (.exit 0))
 (.seq (.block 1 (sq_ [mv_ 44 42,
 pr_ 45 (.iadrs 1 (.tmp 40) (.tmp 42)),
 pr_ 46 (lf_ 1 45),
 mv_ 3 44,
 mv_ 4 46]
 (sq_ [mv_ 47 4,
 c1_ 48 108 47,
 pr_ 49 (no_ 48),
 mv_ 50 49,
 gp_ 51 50 false (mo_ 3),
 gp_ 52 50 false (bk_ .gtr 51 .i64 0),
 gp_ 53 50 false (mo_ 52),
 gp_ 54 53 true (mo_ 4),
 gp_ 55 53 true (fa_ 5 1),
 gp_ 56 53 true (lf_ 1 55),
 gp_ 57 53 true (mo_ 3),
 gp_ 58 53 true (bk_ .sub 57 .i64 1),
 gp_ 59 53 true (.iadrs 1 (.tmp 56) (.tmp 58)),
 gp_ 60 53 true (lf_ 1 59),
 gp_ 61 53 true (bt_ .leq 54 60),
 gp_ 62 50 false (pa_ 53 61),
 pr_ 63 (po_ 50 62)]
 (.cond (.tmp 63)
 (sq_ [pr_ 2 mf_]
 .ret)
 .skip))))
 (.ops [pr_ 64 (bk_ .add 42 .i64 1),
 mv_ 42 64])))))))
 (sq_ [pr_ 2 mt_]
 .ret))))
def o51:List Tmp:=[]
def r51:List RV:=[.tmp 2]
theorem t51:Text Tryz.prog 51 o51 c51 r51 65:=.mk_ Tryz.f51 rfl
def c80:ACode :=
 (sq_ [pr_ 1 (.boxr (.tmp 0)),
 pr_ 2 (.allocm [.pl (.bool false),.pl (.float .f64 0),.pl (.float .f64 0)])]
 (sq_ [pr_ 4 (fa_ 1 1),
 pr_ 5 (lf_ 1 4),
 pr_ 6 (fa_ 2 1),
 pr_ 7 (lf_ 1 6),
 pr_ 8 (.build [.pl (.bool false),.pl (.float .f64 0),.pl (.float .f64 0)] [(1,1,(.tmp 5)),(2,1,(.tmp 7))]),
 pr_ 3 (.allocm [.pl (.bool false),.pl (.float .f64 0),.pl (.float .f64 0)]),
 st_ (so_ 3 3 8)]
 (.seq (sq_ [pr_ 9 (fa_ 0 1),
 pr_ 10 (lf_ 1 9),
 pr_ 11 (bk_ .rem 10 .i64 3),
 pr_ 12 (bk_ .eql 11 .i64 0),
 mv_ 13 12,
 gp_ 14 13 false (fa_ 1 3),
 gp_ 15 13 false (lf_ 1 14),
 gp_ 16 13 false (fa_ 1 3),
 gp_ 17 13 false (lf_ 1 16),
 gp_ 18 13 false (bt_ .neq 15 17),
 pr_ 19 (po_ 13 18),
 mv_ 20 19,
 gp_ 21 20 false (fa_ 2 3),
 gp_ 22 20 false (lf_ 1 21),
 gp_ 23 20 false (fa_ 2 3),
 gp_ 24 20 false (lf_ 1 23),
 gp_ 25 20 false (bt_ .neq 22 24),
 pr_ 26 (po_ 20 25)]
 (.cond (.tmp 26)
 (sq_ [pr_ 27 (.build [.pl (.bool false),.pl (.float .f64 0),.pl (.float .f64 0)] [(0,1,(.const (.bool true)))]),
 st_ (so_ 3 2 27)]
 .ret)
 .skip))
 (.seq (sq_ [pr_ 28 (fa_ 2 3),
 pr_ 29 (lf_ 1 28),
 pr_ 30 (fa_ 1 3),
 pr_ 31 (lf_ 1 30),
 pr_ 32 (bt_ .lss 29 31)]
 (.cond (.tmp 32)
 (.ops [pr_ 33 (fa_ 2 3),
 pr_ 34 (lf_ 1 33),
 pr_ 35 (fa_ 1 3),
 pr_ 36 (lf_ 1 35),
 pr_ 37 (fa_ 1 3),
 st_ (so_ 1 37 34),
 pr_ 38 (fa_ 2 3),
 st_ (so_ 1 38 36)])
 .skip))
 (sq_ [pr_ 39 (lt_ 3 3),
 st_ (so_ 3 2 39)]
 .ret)))))
def o80:List Tmp:=[2,3]
def r80:List RV:=[.cell 2 3 true]
theorem t80:Text Tryz.prog 80 o80 c80 r80 40:=.mk_ Tryz.f80 rfl
def c94:ACode :=
 (sq_ [pr_ 2 (mi_ .u64 0)]
 (.seq (sq_ [mv_ 3 0,
 c1_ 4 132 3]
 (.cond (.tmp 4)
 (sq_ [pr_ 2 (mi_ .u64 9221120237041090561)]
 .ret)
 .skip))
 (sq_ [mv_ 5 0,
 c1_ 6 47 5,
 mv_ 2 6]
 .ret)))
def o94:List Tmp:=[]
def r94:List RV:=[.tmp 2]
theorem t94:Text Tryz.prog 94 o94 c94 r94 7:=.mk_ Tryz.f94 rfl
def c107:ACode :=
 (sq_ [pr_ 1 (.boxr (.tmp 0)),
 pr_ 2 mf_]
 (.seq (sq_ [pr_ 3 (fa_ 0 1),
 pr_ 4 (lf_ 1 3)]
 (.cond (.tmp 4)
 (sq_ [pr_ 5 (fa_ 1 1),
 pr_ 6 (lf_ 1 5),
 c1_ 7 94 6,
 pr_ 8 (bk_ .eql 7 .u64 0),
 mv_ 9 8,
 gp_ 10 9 true (fa_ 2 1),
 gp_ 11 9 true (lf_ 1 10),
 gc_ 12 9 true 94 [(.tmp 11)],
 gp_ 13 9 true (bk_ .eql 12 .u64 0),
 pr_ 14 (pa_ 9 13),
 mv_ 2 14]
 .ret)
 .skip))
 (sq_ [pr_ 15 (fa_ 1 1),
 pr_ 16 (lf_ 1 15),
 pr_ 17 (fa_ 2 1),
 pr_ 18 (lf_ 1 17),
 pr_ 19 (bt_ .leq 16 18),
 mv_ 2 19]
 .ret)))
def o107:List Tmp:=[]
def r107:List RV:=[.tmp 2]
theorem t107:Text Tryz.prog 107 o107 c107 r107 20:=.mk_ Tryz.f107 rfl
def c54:ACode :=
 (sq_ [pr_ 2 (.mov (.const (.pointer none)))]
 (sq_ [mv_ 3 0,
 pr_ 4 (.build [.nils,.pl (.int .i64 0),.pl (.bool false)] [(0,1,(.tmp 3))]),
 pr_ 5 (.boxm (.tmp 4)),
 mv_ 2 5]
 .ret))
def o54:List Tmp:=[5]
def r54:List RV:=[.tmp 2]
theorem t54:Text Tryz.prog 54 o54 c54 r54 6:=.mk_ Tryz.f54 rfl
def c56:ACode :=
 (sq_ [pr_ 2 (.mov (.const (.slice none 0 0))),
 pr_ 3 (mi_ .i64 0),
 pr_ 4 mf_]
 (sq_ [mv_ 9 0,
 c1_ 10 54 9,
 mv_ 5 10]
 (.seq (.after (.ops [pr_ 6 (.mov (.const (.slice none 0 0)))]) (.own 6 3))
 (.seq (sq_ [mv_ 11 5,
 cl_ 12 59 [(.tmp 11),(.const (.int .u64 5))],
 pr_ 13 (mi_ .u64 0)]
 (.block 0 (.loop [0,1,2,3,4,7,8,9,10,11,14,15,16,17,18,19,20,21,22,23,24,25,26,27,28,29,30,31,32,33,34,35,36,37,38,39] (sq_ [pr_ 14 (bt_ .lss 13 12)]
 (.seq (.cond (.tmp 14)
 .skip
 (.exit 0))
 (.seq (.block 1 (.ops [mv_ 15 6,
 mv_ 16 5,
 c1_ 17 83 16,
 pr_ 18 (.convi .i64 (.tmp 17)),
 mv_ 19 5,
 cl_ 20 60 [(.tmp 19),(.const (.int .i64 12))],
 mv_ 21 5,
 cl_ 22 60 [(.tmp 21),(.const (.int .i64 40))],
 pr_ 23 (.build [.pl (.int .i64 0),.pl (.string .empty),.pl (.string .empty)] [(0,1,(.tmp 18)),(1,1,(.tmp 20)),(2,1,(.tmp 22))]),
 pr_ 24 (.bsl false 3 true 1 [.pl (.int .i64 0),.pl (.string .empty),.pl (.string .empty)] [(0,3,(.tmp 23))]),
 pr_ 25 (.app 3 (.tmp 15) (.tmp 24)),
 mv_ 6 25]))
 (.ops [pr_ 26 (bk_ .add 13 .u64 1),
 mv_ 13 26])))))))
 (.seq (.ghost (.shut 6) (.ops [mv_ 27 5,
 mv_ 28 6,
 c1_ 29 106 28,
 cl_ 30 61 [(.tmp 27),(.tmp 29)]]))
 (sq_ [mv_ 32 5,
 c1_ 33 62 32,
 mv_ 31 33,
 pr_ 34 (ex_ 0 31),
 pr_ 35 (ex_ 1 31),
 mv_ 7 34,
 mv_ 8 35]
 (.seq (sq_ [mv_ 36 8,
 pr_ 37 (no_ 36)]
 (.cond (.tmp 37)
 (sq_ [pr_ 2 (.mov (.const (.slice none 0 0))),
 pr_ 3 (mi_ .i64 0),
 pr_ 4 mf_]
 (.ghost (.shut 2) .ret))
 .skip))
 (sq_ [mv_ 38 6,
 mv_ 39 7,
 mv_ 2 38,
 mv_ 3 39,
 pr_ 4 mt_]
 (.ghost (.shut 2) .ret)))))))))
def o56:List Tmp:=[]
def r56:List RV:=[.tmp 2,.tmp 3,.tmp 4]
theorem t56:Text Tryz.prog 56 o56 c56 r56 40:=.mk_ Tryz.f56 rfl
def c59:ACode :=
 (sq_ [pr_ 4 (mi_ .u64 0)]
 (sq_ [mv_ 9 0,
 c1_ 10 112 9,
 c1_ 11 115 10,
 mv_ 8 11,
 pr_ 12 (ex_ 0 8),
 pr_ 13 (ex_ 1 8),
 pr_ 14 (ex_ 2 8),
 mv_ 5 12,
 mv_ 6 13,
 mv_ 7 14]
 (.seq (sq_ [mv_ 15 0,
 mv_ 16 6,
 mv_ 17 7,
 mv_ 18 17,
 gp_ 19 18 true (mo_ 5),
 gp_ 20 18 true (mo_ 1),
 gp_ 21 18 true (bt_ .leq 19 20),
 pr_ 22 (pa_ 18 21),
 cl_ 23 113 [(.tmp 15),(.tmp 16),(.tmp 22)],
 pr_ 24 (no_ 23)]
 (.cond (.tmp 24)
 (sq_ [pr_ 4 (mi_ .u64 0)]
 .ret)
 .skip))
 (sq_ [mv_ 25 5,
 mv_ 4 25]
 .ret))))
def o59:List Tmp:=[]
def r59:List RV:=[.tmp 4]
theorem t59:Text Tryz.prog 59 o59 c59 r59 26:=.mk_ Tryz.f59 rfl
def c60:ACode :=
 (sq_ [pr_ 4 (.mov (.const (.string (ByteArray.mk #[]))))]
 (sq_ [mv_ 9 0,
 c1_ 10 112 9,
 mv_ 11 1,
 cl_ 12 116 [(.tmp 10),(.tmp 11)],
 mv_ 8 12,
 pr_ 13 (ex_ 0 8),
 pr_ 14 (ex_ 1 8),
 pr_ 15 (ex_ 2 8),
 mv_ 5 13,
 mv_ 6 14,
 mv_ 7 15]
 (.seq (sq_ [mv_ 16 0,
 mv_ 17 6,
 mv_ 18 7,
 cl_ 19 113 [(.tmp 16),(.tmp 17),(.tmp 18)],
 pr_ 20 (no_ 19)]
 (.cond (.tmp 20)
 (sq_ [pr_ 4 (.mov (.const (.string (ByteArray.mk #[]))))]
 .ret)
 .skip))
 (sq_ [mv_ 21 5,
 mv_ 4 21]
 .ret))))
def o60:List Tmp:=[]
def r60:List RV:=[.tmp 4]
theorem t60:Text Tryz.prog 60 o60 c60 r60 22:=.mk_ Tryz.f60 rfl
def c61:ACode :=
 (.ops [mv_ 4 0,
 mv_ 5 1,
 cl_ 6 113 [(.tmp 4),(.const (.int .i64 0)),(.tmp 5)]])
def o61:List Tmp:=[]
def r61:List RV:=[]
theorem t61:Text Tryz.prog 61 o61 c61 r61 7:=.mk_ Tryz.f61 rfl
def c62:ACode :=
 (sq_ [pr_ 2 (mi_ .i64 0),
 pr_ 3 mf_]
 (.seq (sq_ [mv_ 4 0,
 pr_ 5 (nc_ 4),
 pr_ 6 (fa_ 2 5),
 pr_ 7 (lf_ 1 6)]
 (.cond (.tmp 7)
 (sq_ [pr_ 2 (mi_ .i64 0),
 pr_ 3 mf_]
 .ret)
 .skip))
 (sq_ [mv_ 8 0,
 pr_ 9 (nc_ 8),
 pr_ 10 (fa_ 1 9),
 pr_ 11 (lf_ 1 10),
 mv_ 2 11,
 pr_ 3 mt_]
 .ret)))
def o62:List Tmp:=[]
def r62:List RV:=[.tmp 2,.tmp 3]
theorem t62:Text Tryz.prog 62 o62 c62 r62 12:=.mk_ Tryz.f62 rfl
def c69:ACode :=
 (sq_ [pr_ 2 (.mov (.const (.slice none 0 0)))]
 (.seq (sq_ [mv_ 6 0,
 c1_ 7 106 6,
 pr_ 8 (no_ 7)]
 (.cond (.tmp 8)
 (sq_ [pr_ 2 (.mov (.const (.slice none 0 0)))]
 (.ghost (.shut 2) .ret))
 .skip))
 (sq_ [mv_ 9 0,
 pr_ 10 (.lenv (.tmp 9)),
 pr_ 11 (.convi .u64 (.tmp 10)),
 c1_ 12 71 11,
 mv_ 3 12]
 (.seq (sq_ [mv_ 13 0,
 pr_ 14 (.lenv (.tmp 13)),
 pr_ 15 (mi_ .i64 0)]
 (.block 0 (.loop [0,1,2,4,5,6,7,8,9,10,11,12,16,17,18,19,20,21,22,23,24,25,26,27,28,29,30,31,32,33,34,35,36] (sq_ [pr_ 16 (bt_ .lss 15 14)]
 (.seq (.cond (.tmp 16)
 .skip
 (.exit 0))
 (.seq (.block 1 (sq_ [pr_ 17 (.iadrs 3 (.tmp 13) (.tmp 15)),
 pr_ 18 (lt_ 3 17),
 ⟨some 5,none,.fresh 3 5 (.tmp 18)⟩]
 (sq_ [mv_ 19 3,
 pr_ 20 (fa_ 0 5),
 pr_ 21 (lf_ 1 20),
 pr_ 22 (.convi .u8 (.tmp 21)),
 pr_ 23 (.bsl false 1 false 1 [.pl (.int .u8 0)] [(0,1,(.tmp 22))]),
 pr_ 24 (.app 1 (.tmp 19) (.tmp 23)),
 mv_ 3 24]
 (sq_ [mv_ 25 3,
 pr_ 26 (fa_ 1 5),
 pr_ 27 (lf_ 1 26),
 c1_ 28 72 27,
 pr_ 29 (.app 1 (.tmp 25) (.tmp 28)),
 mv_ 3 29]
 (.ops [mv_ 30 3,
 pr_ 31 (fa_ 2 5),
 pr_ 32 (lf_ 1 31),
 c1_ 33 72 32,
 pr_ 34 (.app 1 (.tmp 30) (.tmp 33)),
 mv_ 3 34])))))
 (.ops [pr_ 35 (bk_ .add 15 .i64 1),
 mv_ 15 35])))))))
 (sq_ [mv_ 36 3,
 mv_ 2 36]
 (.ghost (.shut 2) .ret))))))
def o69:List Tmp:=[]
def r69:List RV:=[.tmp 2]
theorem t69:Text Tryz.prog 69 o69 c69 r69 37:=.mk_ Tryz.f69 rfl
def c71:ACode :=
 (sq_ [pr_ 2 (.mov (.const (.slice none 0 0)))]
 (.seq (.after (.ops [pr_ 3 (.mov (.const (.slice none 0 0)))]) (.own 3 1))
 (.seq (.block 0 (.loop [1,2,4,5,6,7,8,9,10,11,12,13,14,15,16,17,18] (.seq (sq_ [mv_ 4 0,
 pr_ 5 (bk_ .geq 4 .u64 128)]
 (.cond (.tmp 5)
 .skip
 (.exit 0)))
 (.block 1 (sq_ [mv_ 6 3,
 mv_ 7 0,
 pr_ 8 (.convi .u8 (.tmp 7)),
 pr_ 9 (bk_ .or 8 .u8 128),
 pr_ 10 (.bsl false 1 false 1 [.pl (.int .u8 0)] [(0,1,(.tmp 9))]),
 pr_ 11 (.app 1 (.tmp 6) (.tmp 10)),
 mv_ 3 11]
 (.ops [mv_ 12 0,
 pr_ 13 (bk_ .shr 12 .u64 7),
 mv_ 0 13]))))))
 (sq_ [mv_ 14 3,
 mv_ 15 0,
 pr_ 16 (.convi .u8 (.tmp 15)),
 pr_ 17 (.bsl false 1 false 1 [.pl (.int .u8 0)] [(0,1,(.tmp 16))]),
 pr_ 18 (.app 1 (.tmp 14) (.tmp 17)),
 mv_ 2 18]
 .ret))))
def o71:List Tmp:=[]
def r71:List RV:=[.tmp 2]
theorem t71:Text Tryz.prog 71 o71 c71 r71 19:=.mk_ Tryz.f71 rfl
def c72:ACode :=
 (sq_ [pr_ 2 (.mov (.const (.slice none 0 0)))]
 (sq_ [mv_ 3 0,
 pr_ 4 (.lens (.tmp 3)),
 pr_ 5 (.convi .u64 (.tmp 4)),
 c1_ 6 71 5,
 mv_ 7 0,
 pr_ 8 (.app 1 (.tmp 6) (.tmp 7)),
 mv_ 2 8]
 .ret))
def o72:List Tmp:=[]
def r72:List RV:=[.tmp 2]
theorem t72:Text Tryz.prog 72 o72 c72 r72 9:=.mk_ Tryz.f72 rfl
def c77:ACode :=
 (sq_ [pr_ 4 mf_]
 (.seq (sq_ [mv_ 6 0,
 pr_ 7 (.lenv (.tmp 6)),
 mv_ 8 1,
 pr_ 9 (.lenv (.tmp 8)),
 pr_ 10 (bt_ .neq 7 9)]
 (.cond (.tmp 10)
 (sq_ [pr_ 4 mf_]
 .ret)
 .skip))
 (.seq (sq_ [pr_ 5 (mi_ .i64 0)]
 (.block 0 (.loop [2,3,4,6,7,8,9,10,11,12,13,14,15,16,17,18,19,20,21,22,23,24,25] (.seq (sq_ [mv_ 11 5,
 mv_ 12 0,
 pr_ 13 (.lenv (.tmp 12)),
 pr_ 14 (bt_ .lss 11 13)]
 (.cond (.tmp 14)
 .skip
 (.exit 0)))
 (.seq (.block 1 (.seq (.draw [⟨mv_ 17 0,[],false,0,0⟩,
 ⟨mv_ 18 5,[],false,0,0⟩,
 ⟨pr_ 19 (.iadrs 3 (.tmp 17) (.tmp 18)),[0,1],false,0,0⟩,
 ⟨pr_ 20 (lt_ 3 19),[0,1,2],false,0,0⟩,
 ⟨mv_ 21 1,[],false,0,0⟩,
 ⟨mv_ 22 5,[],false,0,0⟩,
 ⟨pr_ 23 (.iadrs 3 (.tmp 21) (.tmp 22)),[4,5],false,0,0⟩,
 ⟨pr_ 24 (lt_ 3 23),[4,5,6],false,0,0⟩,
 ⟨pr_ 25 (.eqa true [.int,.str,.str] (.tmp 20) (.tmp 24)),(List.range 8),false,0,0⟩])
 (.cond (.tmp 25)
 (sq_ [pr_ 4 mf_]
 .ret)
 .skip)))
 (.ops [mv_ 15 5,
 pr_ 16 (bk_ .add 15 .i64 1),
 mv_ 5 16]))))))
 (sq_ [pr_ 4 mt_]
 .ret))))
def o77:List Tmp:=[]
def r77:List RV:=[.tmp 4]
theorem t77:Text Tryz.prog 77 o77 c77 r77 26:=.mk_ Tryz.f77 rfl
def c83:ACode :=
 (sq_ [pr_ 2 (mi_ .u8 0)]
 (sq_ [mv_ 4 0,
 c1_ 5 112 4,
 mv_ 3 5]
 (.seq (sq_ [mv_ 6 0,
 mv_ 7 3,
 pr_ 8 (.lenv (.tmp 7)),
 pr_ 9 (bk_ .gtr 8 .i64 0),
 cl_ 10 113 [(.tmp 6),(.const (.int .i64 1)),(.tmp 9)],
 pr_ 11 (no_ 10)]
 (.cond (.tmp 11)
 (sq_ [pr_ 2 (mi_ .u8 0)]
 .ret)
 .skip))
 (sq_ [mv_ 12 3,
 pr_ 13 (.iadrs 1 (.tmp 12) (.const (.int .i64 0))),
 pr_ 14 (lf_ 1 13),
 mv_ 2 14]
 .ret))))
def o83:List Tmp:=[]
def r83:List RV:=[.tmp 2]
theorem t83:Text Tryz.prog 83 o83 c83 r83 15:=.mk_ Tryz.f83 rfl
def c112:ACode :=
 (sq_ [pr_ 2 (.mov (.const (.slice none 0 0)))]
 (.seq (.draw [⟨mv_ 3 0,[],false,0,0⟩,
 ⟨pr_ 4 (nc_ 3),[0],false,0,0⟩,
 ⟨pr_ 5 (fa_ 0 4),[0,1],false,0,0⟩,
 ⟨pr_ 6 (lf_ 1 5),[0,1,2],false,0,0⟩,
 ⟨mv_ 7 0,[],false,0,0⟩,
 ⟨pr_ 8 (nc_ 7),[4],false,0,0⟩,
 ⟨pr_ 9 (fa_ 1 8),[4,5],false,0,0⟩,
 ⟨pr_ 10 (lf_ 1 9),[4,5,6],false,0,0⟩,
 ⟨pr_ 11 (.slcv 1 (.tmp 6) (some (.tmp 10)) none),(List.range 8),false,0,0⟩,
 ⟨mv_ 2 11,(List.range 9),false,0,0⟩])
 (.ghost (.shut 2) .ret)))
def o112:List Tmp:=[]
def r112:List RV:=[.tmp 2]
theorem t112:Text Tryz.prog 112 o112 c112 r112 12:=.mk_ Tryz.f112 rfl
def c113:ACode :=
 (sq_ [pr_ 6 mf_]
 (sq_ [mv_ 7 0,
 mv_ 8 0,
 pr_ 9 (nc_ 8),
 pr_ 10 (fa_ 2 9),
 pr_ 11 (lf_ 1 10),
 mv_ 12 11,
 gp_ 13 12 false (mo_ 2),
 gp_ 14 12 false (no_ 13),
 pr_ 15 (po_ 12 14),
 pr_ 16 (nc_ 7),
 pr_ 17 (fa_ 2 16),
 st_ (so_ 1 17 15)]
 (.seq (sq_ [mv_ 18 0,
 pr_ 19 (nc_ 18),
 pr_ 20 (fa_ 2 19),
 pr_ 21 (lf_ 1 20),
 pr_ 22 (no_ 21)]
 (.cond (.tmp 22)
 (.ops [mv_ 23 0,
 pr_ 24 (nc_ 23),
 pr_ 25 (fa_ 1 24),
 pr_ 26 (lf_ 1 25),
 mv_ 27 1,
 pr_ 28 (bt_ .add 26 27),
 pr_ 29 (nc_ 23),
 pr_ 30 (fa_ 1 29),
 st_ (so_ 1 30 28)])
 .skip))
 (sq_ [mv_ 31 0,
 pr_ 32 (nc_ 31),
 pr_ 33 (fa_ 2 32),
 pr_ 34 (lf_ 1 33),
 pr_ 35 (no_ 34),
 mv_ 6 35]
 .ret))))
def o113:List Tmp:=[]
def r113:List RV:=[.tmp 6]
theorem t113:Text Tryz.prog 113 o113 c113 r113 36:=.mk_ Tryz.f113 rfl
def c115:ACode :=
 (sq_ [pr_ 2 (mi_ .u64 0),
 pr_ 3 (mi_ .i64 0),
 pr_ 4 mf_]
 (sq_ [pr_ 5 (mi_ .u64 0)]
 (.seq (sq_ [mv_ 8 0,
 pr_ 9 (.lenv (.tmp 8)),
 pr_ 10 (mi_ .i64 0)]
 (.block 0 (.loop [0,1,2,3,4,6,7,11,12,13,14,15,16,17,18,19,20,21,22,23,24,25,26,27,28,29,30,31,32,33,34,35,36,37,38,39,40,41,42] (sq_ [pr_ 11 (bt_ .lss 10 9)]
 (.seq (.cond (.tmp 11)
 .skip
 (.exit 0))
 (.seq (.block 1 (sq_ [mv_ 12 10,
 pr_ 13 (.iadrs 1 (.tmp 8) (.tmp 10)),
 pr_ 14 (lf_ 1 13),
 mv_ 6 12,
 mv_ 7 14]
 (.seq (sq_ [mv_ 15 6,
 pr_ 16 (bk_ .eql 15 .i64 9),
 mv_ 17 16,
 gp_ 18 17 true (mo_ 7),
 gp_ 19 17 true (bk_ .gtr 18 .u8 1),
 pr_ 20 (pa_ 17 19),
 mv_ 21 20,
 gp_ 22 21 false (mo_ 6),
 gp_ 23 21 false (bk_ .gtr 22 .i64 0),
 gp_ 24 21 false (mo_ 23),
 gp_ 25 24 true (mo_ 7),
 gp_ 26 24 true (bk_ .eql 25 .u8 0),
 gp_ 27 21 false (pa_ 24 26),
 pr_ 28 (po_ 21 27)]
 (.cond (.tmp 28)
 (.exit 0)
 .skip))
 (sq_ [mv_ 29 5,
 mv_ 30 7,
 pr_ 31 (bk_ .and 30 .u8 127),
 pr_ 32 (.convi .u64 (.tmp 31)),
 mv_ 33 6,
 pr_ 34 (.bin false .mul (.const (.int .i64 7)) (.tmp 33)),
 pr_ 35 (bt_ .shl 32 34),
 pr_ 36 (bt_ .or 29 35),
 mv_ 5 36]
 (sq_ [mv_ 37 7,
 pr_ 38 (bk_ .lss 37 .u8 128)]
 (.cond (.tmp 38)
 (sq_ [mv_ 39 5,
 mv_ 40 6,
 pr_ 41 (bk_ .add 40 .i64 1),
 mv_ 2 39,
 mv_ 3 41,
 pr_ 4 mt_]
 .ret)
 .skip))))))
 (.ops [pr_ 42 (bk_ .add 10 .i64 1),
 mv_ 10 42])))))))
 (sq_ [pr_ 2 (mi_ .u64 0),
 pr_ 3 (mi_ .i64 0),
 pr_ 4 mf_]
 .ret))))
def o115:List Tmp:=[]
def r115:List RV:=[.tmp 2,.tmp 3,.tmp 4]
theorem t115:Text Tryz.prog 115 o115 c115 r115 43:=.mk_ Tryz.f115 rfl
def c116:ACode :=
 (sq_ [pr_ 4 (.mov (.const (.string (ByteArray.mk #[])))),
 pr_ 5 (mi_ .i64 0),
 pr_ 6 mf_]
 (sq_ [mv_ 12 0,
 c1_ 13 115 12,
 mv_ 11 13,
 pr_ 14 (ex_ 0 11),
 pr_ 15 (ex_ 1 11),
 pr_ 16 (ex_ 2 11),
 mv_ 7 14,
 mv_ 8 15,
 mv_ 9 16]
 (.seq (sq_ [mv_ 17 9,
 pr_ 18 (no_ 17),
 mv_ 19 18,
 gp_ 20 19 false (mo_ 1),
 gp_ 21 19 false (bk_ .lss 20 .i64 0),
 pr_ 22 (po_ 19 21),
 mv_ 23 22,
 gp_ 24 23 false (mo_ 7),
 gp_ 25 23 false (mo_ 1),
 gp_ 26 23 false (.convi .u64 (.tmp 25)),
 gp_ 27 23 false (bt_ .gtr 24 26),
 pr_ 28 (po_ 23 27),
 mv_ 29 28,
 gp_ 30 29 false (mo_ 7),
 gp_ 31 29 false (mo_ 0),
 gp_ 32 29 false (.lenv (.tmp 31)),
 gp_ 33 29 false (mo_ 8),
 gp_ 34 29 false (bt_ .sub 32 33),
 gp_ 35 29 false (.convi .u64 (.tmp 34)),
 gp_ 36 29 false (bt_ .gtr 30 35),
 pr_ 37 (po_ 29 36)]
 (.cond (.tmp 37)
 (sq_ [pr_ 4 (.mov (.const (.string (ByteArray.mk #[])))),
 pr_ 5 (mi_ .i64 0),
 pr_ 6 mf_]
 .ret)
 .skip))
 (sq_ [mv_ 38 8,
 mv_ 39 7,
 pr_ 40 (.convi .i64 (.tmp 39)),
 pr_ 41 (bt_ .add 38 40),
 mv_ 10 41]
 (sq_ [mv_ 42 0,
 mv_ 43 8,
 mv_ 44 10,
 pr_ 45 (.slcv 1 (.tmp 42) (some (.tmp 43)) (some (.tmp 44))),
 pr_ 46 (.b2s (.tmp 45)),
 mv_ 47 10,
 mv_ 4 46,
 mv_ 5 47,
 pr_ 6 mt_]
 .ret)))))
def o116:List Tmp:=[]
def r116:List RV:=[.tmp 4,.tmp 5,.tmp 6]
theorem t116:Text Tryz.prog 116 o116 c116 r116 48:=.mk_ Tryz.f116 rfl
end Go.Proofs.YtmkmhhjkdaklbaaGreat
namespace Go.Proofs.YtmkmhhjkdaklbaaGreat
open Go Go.Ab Go.Cod
set_option maxRecDepth 100000
abbrev UN (n:Nat):AV:=.pl (.int .u64 n)
def bc (c:UInt8):AV:=.pl (.int .u8 c.toNat)
def byv (b:Byt):List AV:=b.map bc
theorem z06 (b:Byt):(byv b).length=b.length:=List.length_map ..
theorem zdQ:byv []=[]:=rfl
theorem z69 (c:UInt8) (b:Byt):byv (c::b)=bc c::byv b:=rfl
theorem z0Z (a b:Byt):byv (a++b)=byv a++byv b:=List.map_append ..
theorem z35 (b:Byt) (k:Nat):(byv b).take k=byv (b.take k):=by simp[byv]
theorem z37 (b:Byt) (k:Nat):(byv b).drop k=byv (b.drop k):=by simp[byv]
theorem zaX (b:Byt):(byv b).isEmpty=b.isEmpty:=by simp[byv]
theorem z15 (b:Byt) (f:AV→Bool) (h:∀c:UInt8,f (bc c)=true):(byv b).all f=true:=by
 simp only[byv,List.all_map,List.all_eq_true];intro c _;exact h c
theorem zaY (b:Byt) (i:Nat) (h:i<b.length):(byv b)[i]?=some (bc b[i]):=by simp[byv,h]
theorem zeO (n:Nat) (c:UInt8):Bel n (bc c):=.pl _
theorem z1x (n:Nat) (b:Byt):Bel n (.sl 1 (byv b)):=.sl 1 _ fun i hi=>by
 have:(byv b)[i]=bc (b[i]'(by rw[←z06];exact hi)):=by simp[byv]
 rw[this];exact zeO n _
theorem zcu (s:ByteArray):(s.data.toList.map fun b=>(AV.pl (.int .u8 b.toNat)))=byv s.data.toList:=rfl
theorem z2o:∀b:Byt,byteL (byv b)=some (b.map fun c=>(c.toNat:Int))
 |[]=>rfl
 |c::b=>by simp only[z69,bc,byteL,z2o b,Option.map_some,List.map_cons]
theorem z2p (b:Byt):textOf (b.map fun c=>(c.toNat:Int))=⟨b.toArray⟩:=by
 unfold textOf;congr 2
 rw[List.map_map]
 conv=>rhs;rw[←List.map_id b]
 apply List.map_congr_left;intro c _;simp
theorem z1N {n:Nat} (h:n<18446744073709551616):IntKind.u64.wrap (n:Int)=(n:Int):=by
 simp only[IntKind.wrap,IntKind.bits,IntKind.signed];simp;omega
theorem z93 {n:Nat}:IntKind.u8.wrap (n:Int)=((n%256:Nat):Int):=by
 simp only[IntKind.wrap,IntKind.bits,IntKind.signed];simp
theorem or128:∀m:Fin 256,IntKind.u8.wrap ((BitVec.ofInt 8 (m.val:Int) ||| BitVec.ofInt 8 128).toNat:Int)=((m.val%128+128:Nat):Int):=by decide +kernel
theorem bc_of {n:Nat} (h:n<256):AV.pl (.int .u8 n)=bc n.toUInt8:=by
 rw[bc,toNat_toUInt8 h]
theorem row1 (σ:St) (x:Ob):(σ++[x])[σ.length]?=some x:=by simp
theorem shr7 (n:Nat):((n:Int).fdiv (2^min (7:Int).toNat 64))=((n/128:Nat):Int):=by
 have:(min (7:Int).toNat 64)=7:=rfl;rw[this];rw[Int.fdiv_eq_ediv_of_nonneg _ (by decide)]
 rfl
theorem z94:∀(k n:Nat),n<128^(k+1)→(putN n).length≤k+1
 |0,n,h=>by rw[z2S (by simpa using h)];simp
 |k+1,n,h=>by
  by_cases h1:n<128
  · rw[z2S h1];simp
  · rw[z4W h1,List.length_cons];have:=z94 k (n/128) (Nat.div_lt_of_lt_mul (by rw[Nat.pow_succ,Nat.mul_comm]at h;exact h))
    omega
theorem z0w {n:Nat} (h:n<18446744073709551616):(putN n).length≤10:=z94 9 n (Nat.lt_of_lt_of_le h (by decide))
theorem zaZ (n:Nat):IntKind.u8.wrap ((BitVec.ofInt 8 (((n%256:Nat):Int)) ||| BitVec.ofInt 8 128).toNat:Int)=((n%128+128:Nat):Int):=by
 have:=or128 ⟨n%256,Nat.mod_lt _ (by decide)⟩
 simp only[show(n%256)%128=n%128 by omega]at this
 exact this
theorem u8_or (n:Nat):IntKind.u8.wrap ((BitVec.ofInt IntKind.u8.bits (((n%256:Nat):Int)) ||| BitVec.ofInt IntKind.u8.bits 128).toNat:Int)=((n%128+128:Nat):Int):=zaZ n
theorem intle (a b:Nat):decide ((a:Int)≤(b:Int))=decide (a≤b):=by rw[Bool.eq_iff_iff];simp
theorem Fini.ret3 {n m:Nat} {rvs:List RV} {r r':AV} {σ σ':St} {env:Env} (h:resA env σ rvs=some r') (e:r'=r) (e':σ=σ'):Fini m rvs r σ' .ret env σ:=by
 subst e;subst e';exact Fini.ret h
section
variable (σ:St)
theorem z6a (n:Nat) (hn:n<18446744073709551616):Ans Tryz.prog 71 [UN n] σ (.osl σ.length (putN n).length) (σ++[.row 1 (byv (putN n))]):=by
 have h10:=z0w hn;refine Ans.of_run t71 ?_;simp -implicitDefEqProofs only[c71,r71,go_sem];refine Go.Ab.L.intro (α:={ p:Nat×Byt // p.1<18446744073709551616∧p.2++putN p.1=putN n }) (fun p=>p.1.1) (fun p=>mkE 19 [(0,UN p.1.1),(3,.osl σ.length p.1.2.length)]) (fun p=>σ++[.row 1 (byv p.1.2)]) ?_ ⟨(n,[]),hn,rfl⟩ rfl rfl
 rintro⟨⟨m,pre⟩,hm,hp⟩ J hJ;have hl:pre.length+(putN m).length≤10:=by rw[←List.length_append,hp];exact h10
 have hx:∀c:Int,(byv pre++[AV.pl (.int .u8 c)]).length=pre.length+1:=fun c=>by simp[z06]
 have d0:=intle 128 m;simp only[Int.cast_ofNat_Int]at d0;have hw:=z1N hm;have hle:pre.length+1≤2^32:=by omega
 by_cases h:m<128
 · have d1:decide ((128:Int)≤m)=false:=by simp;omega
   have d2:IntKind.u8.wrap (m:Int)=m:=by rw[z93];congr 1;omega
   simp -implicitDefEqProofs only[mkE,go_sem,d1,row1,z06,List.length_singleton,hle,d2];refine Fini.ret3 (n:=0) rfl ?_ ?_
   · show AV.osl σ.length (pre.length+1)=AV.osl σ.length (putN n).length;rw[←hp,z2S h];simp
   · rw[List.set_append_right _ _ (Nat.le_refl _)];simp only[Nat.sub_self,List.set_cons_zero];rw[←hp,z0Z,z2S h,bc_of (show m<256 by omega)]
     rfl
 · have d1:decide ((128:Int)≤m)=true:=by simp;omega
   simp -implicitDefEqProofs only[mkE,go_sem,d1,row1,z06,List.length_singleton,hle,z93 (n:=m),u8_or,zaZ,shr7,z1N (show m/128<18446744073709551616 by omega)]
   rw[List.set_append_right _ _ (Nat.le_refl _)];simp only[Nat.sub_self,List.set_cons_zero]
   have hgo:=hJ ⟨(m/128,pre++[(m%128+128).toUInt8]),by simp only;omega,by
    rw[←hp];simp only[List.append_assoc,List.singleton_append];rw[z4W h]⟩ (by simp only;omega)
   simp only[z0Z,List.length_append,List.length_singleton]at hgo
   have key:∀v:Int,v=((m%128+128:Nat):Int)→J (mkE 19 [(0,UN (m/128)),(3,.osl σ.length (pre.length+1))]) (σ++[Ob.row 1 (byv pre++[AV.pl (.int .u8 v)])]):=by
    rintro _ rfl;rw[bc_of (show m%128+128<256 by omega)]
    exact hgo
   exact key _ (zaZ m)
theorem z4X (s:ByteArray) (hs:s.size≤4294967280):Ans Tryz.prog 72 [Sx s] σ (.osl σ.length (txtB s).length) (σ++[.row 1 (byv (txtB s))]):=by
 have h10:=z0w (n:=s.size) (by omega)
 have hsz:=z1S s;have hw:=z1N (n:=s.size) (by omega)
 have hle:(putN s.size).length+s.size≤2^32:=by omega
 refine Ans.of_run' t72 (fun hbel _=>?_)
 simp -implicitDefEqProofs only[c72,r72,go_sem,hw];refine CO.intro (z6a σ s.size (by omega)) ?_
 simp -implicitDefEqProofs only[go_sem,zcu,row1,z06,hsz,hle];simp -implicitDefEqProofs only[go_sem,g0,s0,z06,hsz,←z0Z,List.length_append];refine Fini.ret3 (n:=0) rfl ?_ rfl;show AV.osl σ.length ((putN s.size).length+s.size)=AV.osl σ.length (txtB s).length;unfold txtB;rw[List.length_append,hsz]
theorem z1y (s:ByteArray) (hs:s.size≤4294967280):Ans Tryz.prog 72 [Sx s] σ (.sl 1 (byv (txtB s))) σ :=
 (z4X σ s hs).shut (by rw[z06]) (z1x _ _)
end
def getV (b:Byt):AV:=match getN 0 b with
 |some p=>.tup [UN p.1,I (b.length-p.2.length:Nat),Bo true]
 |none=>.tup [UN 0,I 0,Bo false]
theorem z3L {b:Byt} (h:getN 0 b=none):getV b=.tup [UN 0,I 0,Bo false]:=by unfold getV;rw[h]
theorem z4Y {b:Byt} {n:Nat} {t:Byt} (h:getN 0 b=some (n,t)):getV b=.tup [UN n,I (b.length-t.length:Nat),Bo true]:=by unfold getV;rw[h]
theorem zeP:∀m:Fin 256,IntKind.u8.wrap ((BitVec.ofInt 8 (m.val:Int) &&& BitVec.ofInt 8 127).toNat:Int)=((m.val%128:Nat):Int):=by decide +kernel
theorem u8_and (c:UInt8):IntKind.u8.wrap ((BitVec.ofInt IntKind.u8.bits (c.toNat:Int) &&& BitVec.ofInt IntKind.u8.bits 127).toNat:Int)=((c.toNat%128:Nat):Int):=zeP ⟨c.toNat,c.toNat_lt⟩
theorem zdg (a d s:Nat) (ha:a<2^s) (hs:s<64) (hd:d*2^s<18446744073709551616) :
  IntKind.u64.wrap ((BitVec.ofInt IntKind.u64.bits (a:Int) ||| BitVec.ofInt IntKind.u64.bits (IntKind.u64.wrap ((d:Int)*2^min (((s:Nat):Int).toNat) IntKind.u64.bits))).toNat:Int)=((a+2^s*d:Nat):Int):=by
 have hm:min (((s:Nat):Int).toNat) IntKind.u64.bits=s:=by
  show min s 64=s;omega
 have ha2:a<18446744073709551616:=Nat.lt_of_lt_of_le ha (by
  calc 2^s≤2^63:=Nat.pow_le_pow_right (by decide) (by omega)
   _≤18446744073709551616:=by decide)
 rw[hm];have e1:((d:Int)*2^s)=((d*2^s:Nat):Int):=by push_cast;rfl
 rw[e1,z1N hd]
 have e2:(BitVec.ofInt IntKind.u64.bits (a:Int) ||| BitVec.ofInt IntKind.u64.bits ((d*2^s:Nat):Int)).toNat=a+2^s*d:=by
  rw[BitVec.toNat_or]
  have f:∀n:Nat,n<18446744073709551616→(BitVec.ofInt IntKind.u64.bits (n:Int)).toNat=n:=fun n hn=>by
   rw[BitVec.ofInt_natCast,BitVec.toNat_ofNat];exact Nat.mod_eq_of_lt hn
  rw[f a ha2,f _ hd,←Nat.shiftLeft_eq,Nat.or_comm,←Nat.shiftLeft_add_eq_or_of_lt ha,Nat.shiftLeft_eq,Nat.mul_comm,Nat.add_comm]
 rw[e2]
 have hlt:a+2^s*d<18446744073709551616:=by
  by_cases h0:d=0
  · subst h0;simpa using ha2
  · have h64:(18446744073709551616:Nat)=2^s*2^(64-s):=by rw[←Nat.pow_add,show s+(64-s)=64 by omega]
    have hd2:d<2^(64-s):=by
     rw[h64,Nat.mul_comm]at hd;exact Nat.lt_of_mul_lt_mul_left hd
    have:2^s*(d+1)≤2^s*2^(64-s):=Nat.mul_le_mul_left _ hd2;rw[Nat.mul_add,Nat.mul_one]at this;omega
 exact z1N hlt
def orT (a:Nat) (c:UInt8) (s:Nat):Int:=IntKind.u64.wrap ((BitVec.ofInt 64 (a:Int) ||| BitVec.ofInt 64 (IntKind.u64.wrap (IntKind.u64.wrap (IntKind.u8.wrap ((BitVec.ofInt 8 (c.toNat:Int) &&& BitVec.ofInt 8 127).toNat:Int))*2^min s 64))).toNat:Int)
theorem zeQ (a:Nat) (c:UInt8) (s:Nat) (ha:a<2^s) (hs:s<64) (hd:c.toNat%128*2^s<18446744073709551616):orT a c s=((a+2^s*(c.toNat%128):Nat):Int):=by
 have h1:=zdg a (c.toNat%128) s ha hs hd
 have h2:IntKind.u64.wrap (IntKind.u8.wrap ((BitVec.ofInt 8 (c.toNat:Int) &&& BitVec.ofInt 8 127).toNat:Int))=((c.toNat%128:Nat):Int):=by
  have:IntKind.u8.wrap ((BitVec.ofInt 8 (c.toNat:Int) &&& BitVec.ofInt 8 127).toNat:Int)=((c.toNat%128:Nat):Int):=u8_and c;rw[this];exact z1N (by omega)
 unfold orT;rw[h2];exact h1
theorem zb0 {i:Nat} (h:i≤100):IntKind.i64.wrap (7*(i:Int))=((7*i:Nat):Int):=by rw[wrapN (by omega) (by omega)];push_cast;rfl
section
variable (σ:St)
theorem z95 (b:Byt) (hb:b.length≤100000):Ans Tryz.prog 115 [.sl 1 (byv b)] σ (getV b) σ:=by
 refine Ans.of_run t115 ?_;simp -implicitDefEqProofs only[c115,r115,go_sem,z06]
 refine Go.Ab.L.intro (α:={ p:Nat×Nat // p.1≤b.length∧p.1≤9∧p.2<2^(7*p.1)∧getN 0 b=(getN p.1 (b.drop p.1)).map fun q=>(p.2+2^(7*p.1)*q.1,q.2) }) (fun p=>b.length-p.1.1)
  (fun p=>mkE 43 [(5,UN p.1.2),(8,.sl 1 (byv b)),(9,I b.length),(10,I p.1.1)]) (fun _=>σ) ?_ ⟨(0,0),Nat.zero_le _,Nat.zero_le _,by simp,by cases h:getN 0 b<;>simp[h]⟩ rfl rfl
 rintro⟨⟨i,a⟩,hi,h9,ha,hg⟩ J hJ;simp only at hi h9 ha hg hJ;by_cases hlt:i<b.length
 · have hx:=zaY b i hlt;have hdr:b.drop i=b[i]::b.drop (i+1):=List.drop_eq_getElem_cons hlt;rw[hdr]at hg;have hcl:=(b[i]).toNat_lt;generalize hc:b[i]=c at hx hg hcl;have hbeq9:((i:Int)==9)=decide (i=9):=by rw[Bool.eq_iff_iff];simp;omega
   have hgt1:decide ((1:Int)<c.toNat)=decide (1<c.toNat):=by rw[Bool.eq_iff_iff];simp;omega
   have hgt0:decide ((0:Int)<i)=decide (0<i):=by rw[Bool.eq_iff_iff];simp
   have hbeq0:((c.toNat:Int)==0)=decide (c.toNat=0):=by rw[Bool.eq_iff_iff];simp
   have h128:decide ((c.toNat:Int)<128)=decide (c.toNat<128):=by rw[Bool.eq_iff_iff];simp;omega
   simp only[getN]at hg;by_cases hbad:(i=9∧1<c.toNat)∨(0<i∧c.toNat=0)
   · rw[if_pos hbad]at hg;simp only[Option.map_none]at hg;rw[z3L hg];rcases hbad with⟨h1,h2⟩|⟨h1,h2⟩
     · simp -implicitDefEqProofs only[mkE,go_sem,z06,z0j hlt,dec_lt hlt,hx,bc,hbeq9,hgt1,decide_eq_true h1,decide_eq_true h2];exact Fini.ret rfl
     · by_cases h3:i=9
       · have h4:decide (1<c.toNat)=false:=decide_eq_false (by omega)
         simp -implicitDefEqProofs only[mkE,go_sem,z06,z0j hlt,dec_lt hlt,hx,bc,hbeq9,hgt1,hgt0,hbeq0,decide_eq_true h1,decide_eq_true h2,decide_eq_true h3,h4];exact Fini.ret rfl
       · simp -implicitDefEqProofs only[mkE,go_sem,z06,z0j hlt,dec_lt hlt,hx,bc,hbeq9,hgt1,hgt0,hbeq0,decide_eq_true h1,decide_eq_true h2,decide_eq_false h3];exact Fini.ret rfl
   · rw[if_neg hbad]at hg;have hs:7*i<64:=by omega
     have hd:c.toNat%128*2^(7*i)<18446744073709551616:=by
      by_cases h3:i=9
      · subst h3;have:c.toNat≤1:=by omega
        have:c.toNat%128≤1:=by omega
        calc c.toNat%128*2^(7*9)≤1*2^63:=Nat.mul_le_mul_right _ this
         _<18446744073709551616:=by decide
      · have h4:c.toNat%128<2^7:=Nat.mod_lt _ (by decide)
        calc c.toNat%128*2^(7*i)<2^7*2^(7*i):=Nat.mul_lt_mul_of_pos_right h4 (Nat.two_pow_pos _)
         _=2^(7+7*i):=by rw[Nat.pow_add]
         _≤2^63:=Nat.pow_le_pow_right (by decide) (by omega)
         _<18446744073709551616:=by decide
     have hor:=zeQ a c (7*i) ha hs hd;have hin:=wrap_succ (i:=i) (by omega)
     have h7:=zb0 (i:=i) (by omega)
     have go:∀(P:Prop),(decide (i=9)=true→decide (1<c.toNat)=false→P)→(decide (i=9)=false→P)→P:=fun P p q=>by
      by_cases h3:i=9
      · exact p (decide_eq_true h3) (decide_eq_false (by omega))
      · exact q (decide_eq_false h3)
     have go2:∀(P:Prop),(decide (0<i)=true→decide (c.toNat=0)=false→P)→(decide (0<i)=false→P)→P:=fun P p q=>by
      by_cases h3:0<i
      · exact p (decide_eq_true h3) (decide_eq_false (by omega))
      · exact q (decide_eq_false h3)
     by_cases hend:c.toNat<128
     · have e128:=decide_eq_true hend;rw[if_pos hend]at hg;simp only[Option.map_some]at hg;rw[z4Y hg];have hmod:c.toNat%128=c.toNat:=Nat.mod_eq_of_lt hend
       have hfin:∀v:Int,v=((a+2^(7*i)*(c.toNat%128):Nat):Int)→(.tup [.pl (.int .u64 v),I ((i+1:Nat):Int),Bo true]:AV)=.tup [UN (a+2^(7*i)*c.toNat),I (b.length-(b.drop (i+1)).length:Nat),Bo true]:=by
        rintro _ rfl;rw[hmod,List.length_drop,show b.length-(b.length-(i+1))=i+1 by omega]
       refine go _ (fun x1 x2=>go2 _ (fun y1 y2=>?_) fun y1=>?_) fun x1=>go2 _ (fun y1 y2=>?_) fun y1=>?_
       · simp -implicitDefEqProofs only[mkE,go_sem,z06,z0j hlt,dec_lt hlt,hx,bc,hbeq9,hgt1,hgt0,hbeq0,x1,x2,y1,y2,h7,h128,e128,hin];exact Fini.ret' rfl (hfin _ hor)
       · simp -implicitDefEqProofs only[mkE,go_sem,z06,z0j hlt,dec_lt hlt,hx,bc,hbeq9,hgt1,hgt0,hbeq0,x1,x2,y1,h7,h128,e128,hin];exact Fini.ret' rfl (hfin _ hor)
       · simp -implicitDefEqProofs only[mkE,go_sem,z06,z0j hlt,dec_lt hlt,hx,bc,hbeq9,hgt1,hgt0,hbeq0,x1,y1,y2,h7,h128,e128,hin];exact Fini.ret' rfl (hfin _ hor)
       · simp -implicitDefEqProofs only[mkE,go_sem,z06,z0j hlt,dec_lt hlt,hx,bc,hbeq9,hgt1,hgt0,hbeq0,x1,y1,h7,h128,e128,hin];exact Fini.ret' rfl (hfin _ hor)
     · have e128:=decide_eq_false hend;rw[if_neg hend]at hg
       have hi9:i<9:=by
        rcases Nat.lt_or_eq_of_le h9 with h|h
        · exact h
        · omega
       have hgo:=hJ ⟨(i+1,a+2^(7*i)*(c.toNat%128)),by simp only;omega,by simp only;omega,(by
        simp only;have e1:2^(7*(i+1))=2^(7*i)*128:=by rw[Nat.mul_add,Nat.pow_add]
        have:c.toNat%128<128:=Nat.mod_lt _ (by decide)
        have:2^(7*i)*(c.toNat%128+1)≤2^(7*i)*128:=Nat.mul_le_mul_left _ this;rw[Nat.mul_add,Nat.mul_one]at this
        omega),(by
        simp only;rw[hg];have hm:c.toNat%128=c.toNat-128:=by omega
        cases getN (i+1) (b.drop (i+1)) with
        |none=>rfl
        |some q =>
         simp only[Option.map_some,Option.some.injEq,Prod.mk.injEq,and_true]
         rw[hm,show 7*(i+1)=7*i+7 by omega,Nat.pow_add,Nat.mul_add,Nat.add_assoc,←Nat.mul_assoc])⟩ (by simp only;omega)
       have key:∀v:Int,v=((a+2^(7*i)*(c.toNat%128):Nat):Int)→J (mkE 43 [(5,.pl (.int .u64 v)),(8,.sl 1 (byv b)),(9,I b.length),(10,I ((i+1:Nat):Int))]) σ:=by
        rintro _ rfl;exact hgo
       refine go _ (fun x1 x2=>go2 _ (fun y1 y2=>?_) fun y1=>?_) fun x1=>go2 _ (fun y1 y2=>?_) fun y1=>?_
       · simp -implicitDefEqProofs only[mkE,go_sem,z06,z0j hlt,dec_lt hlt,hx,bc,hbeq9,hgt1,hgt0,hbeq0,x1,x2,y1,y2,h7,h128,e128,hin];exact key _ hor
       · simp -implicitDefEqProofs only[mkE,go_sem,z06,z0j hlt,dec_lt hlt,hx,bc,hbeq9,hgt1,hgt0,hbeq0,x1,x2,y1,h7,h128,e128,hin];exact key _ hor
       · simp -implicitDefEqProofs only[mkE,go_sem,z06,z0j hlt,dec_lt hlt,hx,bc,hbeq9,hgt1,hgt0,hbeq0,x1,y1,y2,h7,h128,e128,hin];exact key _ hor
       · simp -implicitDefEqProofs only[mkE,go_sem,z06,z0j hlt,dec_lt hlt,hx,bc,hbeq9,hgt1,hgt0,hbeq0,x1,y1,h7,h128,e128,hin];exact key _ hor
 · have hn:b.drop i=[]:=List.drop_eq_nil_of_le (by omega)
   rw[hn]at hg;simp only[getN,Option.map_none]at hg;rw[z3L hg];simp -implicitDefEqProofs only[mkE,go_sem,z06,z2u hlt,z2v hlt];exact Fini.ret rfl
end
end Go.Proofs.YtmkmhhjkdaklbaaGreat
