/- The parser of patterns: ways, and the whole. No condition. -/
import Derived.Test.YtmkmhhjkdaklbaaGreatXPPar6q
import Derived.Test.YtmkmhhjkdaklbaaGreatXDr4q
import GoSem.Extern.BytealgCompare
import Derived.Laws.Strings
set_option linter.unusedSimpArgs false
set_option linter.unusedVariables false
set_option linter.unusedSectionVars false
namespace Go.Proofs.YtmkmhhjkdaklbaaGreat
open Go Go.Ab
set_option maxRecDepth 100000
open Rex
abbrev box0:Ob:=.box [I 0,U 0,U 0,U 0,U 0,.nils]
def exK (K:List Rex):St:=box0::(if K.isEmpty then[] else[.row 6 (K.map rv)])
def vK (l:Nat) (K:List Rex):AV:=if K.isEmpty then .nils else .osl (l+1) K.length
theorem z0n (x:Rex) (K:List Rex):exK (x::K)=[box0,.row 6 ((x::K).map rv)]:=rfl
theorem z0A (l:Nat) (x:Rex) (K:List Rex):vK l (x::K)=.osl (l+1) (K.length+1):=rfl
theorem z2h:exK []=[box0]:=rfl
theorem z3n (l:Nat):vK l []=.nils:=rfl
theorem z3A (K:List Rex) (x:Rex):exK (K++[x])=[box0,.row 6 (K.map rv++[x.rv])]:=by
 cases K with
 |nil=>rfl
 |cons y K=>simp[exK]
theorem z5k (l:Nat) (K:List Rex) (x:Rex):vK l (K++[x])=.osl (l+1) (K.length+1):=by
 cases K with
 |nil=>rfl
 |cons y K=>simp[vK]
theorem z0Q (op:Int) (y z:Rex) (K:List Rex):(one op (y::z::K)).rv=.agg [I op,U 0,U 0,U 0,U 0,.sl 6 ((y::z::K).map rv)]:=by
 show Rex.rv (.mk op 0 0 0 0 (y::z::K))=_
 rw[rv,z5i]
theorem z24 {n:Nat} {x:AV} (h:Bel n x) (b:Bool):Bel n (.tup [x,Bo b]):=by
 refine .tup _ fun i hi=>?_
 have:∀y∈[x,Bo b],Bel n y:=by
  intro y hy
  simp only[List.mem_cons,List.not_mem_nil,or_false]at hy
  rcases hy with rfl|rfl
  · exact h
  · exact .pl _
 exact this _ (List.getElem_mem hi)
section
variable (s:ByteArray)
theorem z9d (F:PF) (d:Nat) (hF:FAns 193 [I d] s F) (hfw:Fwd F) (he:Eats s F):FAns 181 [I d] s (pway s F):=by
 intro σ p a b hp hs
 refine Ans.of_run' t181 (fun hbel _=>?_)
 have hb2:=z3l hbel
 simp -implicitDefEqProofs only[c181,r181,go_sem,List.append_assoc,List.length_append,List.length_set]
 unfold pway
 simp only
 have hm:s.size-a<s.size+1:=by omega
 generalize hres:pwayL s F (s.size+1) [] a b=res
 refine L.intro (α:={ x:Nat×List Rex×Nat×Bool // pwayL s F x.1 x.2.1 x.2.2.1 x.2.2.2=res∧s.size-x.2.2.1<x.1∧(x.2.2.2=true∨s.size≤40)∧x.2.1.length≤x.2.2.1 })
  (fun x=>x.1.1)
  (fun x=>mkE 33 [(0,.ptr p 0),(1,I d),(4,.ptr σ.length 0),(5,vK σ.length x.1.2.1)])
  (fun x=>σ.set p (pob s x.1.2.2.1 x.1.2.2.2)++exK x.1.2.1)
  (fun x J hJ=>?_) ⟨(s.size+1,[],a,b),hres,hm,hs,Nat.zero_le _⟩ ?_ ?_
 · obtain⟨⟨n,K,a1,b1⟩,h1,h2,h3,h4⟩:=x
   simp only at h1 h2 h3 h4 hJ⊢
   cases n with
   |zero=>omega
   |succ n =>
   rw[pwayL]at h1
   cases hgo:wGo s a1 b1 with
   |true =>
    rw[hgo,if_pos rfl]at h1
    obtain⟨ha,hb⟩:=zbh hgo
    subst hb
    have hov:over s a1 false=false:=by simp[wGo]at hgo;exact hgo.1
    have hs1:sees s a1 false 124=false:=by simp[wGo]at hgo;exact hgo.2.1
    have hs2:sees s a1 false 41=false:=by simp[wGo]at hgo;exact hgo.2.2
    have hsz:s.size≤40:=by
     rcases h3 with h|h
     · exact absurd h Bool.false_ne_true
     · exact h
    have hea:=he a1 false hov
    have hJ':=hJ ⟨(n,K++[(F a1 false).1],(F a1 false).2.1,(F a1 false).2.2),h1,by simp only;omega,.inr hsz,by simp;omega⟩ (Nat.lt_succ_self n)
    simp only[z3A,z5k]at hJ'
    clear hJ h1 hgo
    simp -implicitDefEqProofs only[mkE,go_sem]
    refine CO.intro (z5j hp a1 false _) ?_
    simp -implicitDefEqProofs only[go_sem,hov]
    refine CO.intro (z42 hp a1 false 124 _) ?_
    simp -implicitDefEqProofs only[go_sem,hs1]
    refine CO.intro (z42 hp a1 false 41 _) ?_
    simp -implicitDefEqProofs only[go_sem,hs2]
    refine CO.intro (hF.ex hp a1 false (.inr hsz) _) ?_
    generalize F a1 false=w at hJ' hea⊢
    obtain⟨x,a2,b2⟩:=w
    simp only at hJ' hea⊢
    rw[rv_eq x]at hJ'⊢
    rcases K with _|⟨y,K⟩
    all_goals rcases rvK_cases x.ks with hK|⟨l,hK⟩
    all_goals rw[hK]at hJ'⊢
    all_goals first
    |(simp -implicitDefEqProofs only[go_sem,z2h,z3n,gA hp,sA hp,gL0,sL0,gL1,sL1]at hJ'⊢
      simpa[mkE] using hJ')
    |(have g1:(K.length+1+1≤2^32)=True:=by simp at h4;simp;omega
      simp -implicitDefEqProofs only[go_sem,z0n,z0A,gA hp,sA hp,gL0,sL0,gL1,sL1,List.length_map,g1]at hJ'⊢
      simpa[mkE] using hJ')
   |false =>
    rw[hgo,if_neg Bool.false_ne_true]at h1
    subst h1
    clear hJ h2
    have hex:over s a1 b1=true∨(over s a1 b1=false∧sees s a1 b1 124=true)∨(over s a1 b1=false∧sees s a1 b1 124=false∧sees s a1 b1 41=true):=by
     unfold wGo at hgo
     cases h1:over s a1 b1<;>cases h2:sees s a1 b1 124<;>cases h3:sees s a1 b1 41<;>simp[h1,h2,h3]at hgo⊢
    rcases hex with ho|⟨ho,h5⟩|⟨ho,h5,h6⟩
    · simp -implicitDefEqProofs only[mkE,go_sem]
      refine CO.intro (z5j hp a1 b1 _) ?_
      simp -implicitDefEqProofs only[go_sem,ho]
      rcases K with _|⟨y,_|⟨z,K⟩⟩
      · simp -implicitDefEqProofs only[go_sem,z2h,z3n,gA hp,sA hp,gL0,sL0,gL1,sL1]
        refine Fini.trim2 (ex:=[_]) ?_ rfl ?_ (z09 _ _) (hb2 _ _)
        · ((try simp -implicitDefEqProofs only[go_sem,resA,z03,rvA,oneOf,gL0]);first|done|rfl|(rw[z0Q];rfl)|rw[rv_eq,hK]|(simp only[rv,rvK,rvL];rw[rv_eq,hK]))
        · simp
      · have g3:(((1:Nat):Int)==1)=true:=rfl
        have g4:((0:Int)<((1:Nat):Int))=True:=by simp
        have hbx:∀n,Bel n y.rv:=fun n=>z09 n y
        rw[z0n,z0A,List.map_cons,List.map_nil,show(one 2 [y])=y from rfl]
        rw[rv_eq y]at hbx⊢
        rcases rvK_cases y.ks with hK|⟨l,hK⟩
        all_goals rw[hK]at hbx⊢
        all_goals simp -implicitDefEqProofs only[go_sem,gA hp,sA hp,gL0,sL0,gL1,sL1,List.length_map,g3,g4,Int.toNat_zero]
        all_goals (
         refine Fini.trim2 (ex:=[_,_]) ?_ rfl ?_ (hbx _) (hb2 _ _)
         · ((try simp -implicitDefEqProofs only[go_sem,resA,z03,rvA,oneOf,gL0]);first|done|rfl|(rw[z0Q];rfl)|rw[rv_eq,hK]|(simp only[rv,rvK,rvL];rw[rv_eq,hK]))
         · simp)
      · rw[z0n,z0A]
        have g2:(((K.length+1+1:Nat):Int)==1)=false:=by simp;omega
        simp -implicitDefEqProofs only[go_sem,gA hp,sA hp,gL0,sL0,gL1,sL1,List.length_map,g2]
        refine Fini.trim2 (ex:=[_,_]) ?_ rfl ?_ (z09 _ _) (hb2 _ _)
        · ((try simp -implicitDefEqProofs only[go_sem,resA,z03,rvA,oneOf,gL0]);first|done|rfl|(rw[z0Q];rfl)|rw[rv_eq,hK]|(simp only[rv,rvK,rvL];rw[rv_eq,hK]))
        · simp
    · simp -implicitDefEqProofs only[mkE,go_sem]
      refine CO.intro (z5j hp a1 b1 _) ?_
      simp -implicitDefEqProofs only[go_sem,ho]
      refine CO.intro (z42 hp a1 b1 124 _) ?_
      simp -implicitDefEqProofs only[go_sem,h5]
      rcases K with _|⟨y,_|⟨z,K⟩⟩
      · simp -implicitDefEqProofs only[go_sem,z2h,z3n,gA hp,sA hp,gL0,sL0,gL1,sL1]
        refine Fini.trim2 (ex:=[_]) ?_ rfl ?_ (z09 _ _) (hb2 _ _)
        · ((try simp -implicitDefEqProofs only[go_sem,resA,z03,rvA,oneOf,gL0]);first|done|rfl|(rw[z0Q];rfl)|rw[rv_eq,hK]|(simp only[rv,rvK,rvL];rw[rv_eq,hK]))
        · simp
      · have g3:(((1:Nat):Int)==1)=true:=rfl
        have g4:((0:Int)<((1:Nat):Int))=True:=by simp
        have hbx:∀n,Bel n y.rv:=fun n=>z09 n y
        rw[z0n,z0A,List.map_cons,List.map_nil,show(one 2 [y])=y from rfl]
        rw[rv_eq y]at hbx⊢
        rcases rvK_cases y.ks with hK|⟨l,hK⟩
        all_goals rw[hK]at hbx⊢
        all_goals simp -implicitDefEqProofs only[go_sem,gA hp,sA hp,gL0,sL0,gL1,sL1,List.length_map,g3,g4,Int.toNat_zero]
        all_goals (
         refine Fini.trim2 (ex:=[_,_]) ?_ rfl ?_ (hbx _) (hb2 _ _)
         · ((try simp -implicitDefEqProofs only[go_sem,resA,z03,rvA,oneOf,gL0]);first|done|rfl|(rw[z0Q];rfl)|rw[rv_eq,hK]|(simp only[rv,rvK,rvL];rw[rv_eq,hK]))
         · simp)
      · rw[z0n,z0A]
        have g2:(((K.length+1+1:Nat):Int)==1)=false:=by simp;omega
        simp -implicitDefEqProofs only[go_sem,gA hp,sA hp,gL0,sL0,gL1,sL1,List.length_map,g2]
        refine Fini.trim2 (ex:=[_,_]) ?_ rfl ?_ (z09 _ _) (hb2 _ _)
        · ((try simp -implicitDefEqProofs only[go_sem,resA,z03,rvA,oneOf,gL0]);first|done|rfl|(rw[z0Q];rfl)|rw[rv_eq,hK]|(simp only[rv,rvK,rvL];rw[rv_eq,hK]))
        · simp
    · simp -implicitDefEqProofs only[mkE,go_sem]
      refine CO.intro (z5j hp a1 b1 _) ?_
      simp -implicitDefEqProofs only[go_sem,ho]
      refine CO.intro (z42 hp a1 b1 124 _) ?_
      simp -implicitDefEqProofs only[go_sem,h5]
      refine CO.intro (z42 hp a1 b1 41 _) ?_
      simp -implicitDefEqProofs only[go_sem,h6]
      rcases K with _|⟨y,_|⟨z,K⟩⟩
      · simp -implicitDefEqProofs only[go_sem,z2h,z3n,gA hp,sA hp,gL0,sL0,gL1,sL1]
        refine Fini.trim2 (ex:=[_]) ?_ rfl ?_ (z09 _ _) (hb2 _ _)
        · ((try simp -implicitDefEqProofs only[go_sem,resA,z03,rvA,oneOf,gL0]);first|done|rfl|(rw[z0Q];rfl)|rw[rv_eq,hK]|(simp only[rv,rvK,rvL];rw[rv_eq,hK]))
        · simp
      · have g3:(((1:Nat):Int)==1)=true:=rfl
        have g4:((0:Int)<((1:Nat):Int))=True:=by simp
        have hbx:∀n,Bel n y.rv:=fun n=>z09 n y
        rw[z0n,z0A,List.map_cons,List.map_nil,show(one 2 [y])=y from rfl]
        rw[rv_eq y]at hbx⊢
        rcases rvK_cases y.ks with hK|⟨l,hK⟩
        all_goals rw[hK]at hbx⊢
        all_goals simp -implicitDefEqProofs only[go_sem,gA hp,sA hp,gL0,sL0,gL1,sL1,List.length_map,g3,g4,Int.toNat_zero]
        all_goals (
         refine Fini.trim2 (ex:=[_,_]) ?_ rfl ?_ (hbx _) (hb2 _ _)
         · ((try simp -implicitDefEqProofs only[go_sem,resA,z03,rvA,oneOf,gL0]);first|done|rfl|(rw[z0Q];rfl)|rw[rv_eq,hK]|(simp only[rv,rvK,rvL];rw[rv_eq,hK]))
         · simp)
      · rw[z0n,z0A]
        have g2:(((K.length+1+1:Nat):Int)==1)=false:=by simp;omega
        simp -implicitDefEqProofs only[go_sem,gA hp,sA hp,gL0,sL0,gL1,sL1,List.length_map,g2]
        refine Fini.trim2 (ex:=[_,_]) ?_ rfl ?_ (z09 _ _) (hb2 _ _)
        · ((try simp -implicitDefEqProofs only[go_sem,resA,z03,rvA,oneOf,gL0]);first|done|rfl|(rw[z0Q];rfl)|rw[rv_eq,hK]|(simp only[rv,rvK,rvL];rw[rv_eq,hK]))
        · simp
 · simp[mkE,vK]
 · rfl
theorem z5W (F:PF) (d:Nat) (hF:FAns 181 [I d] s F) (hfw:Fwd F):FAns 171 [I d] s (pways s F):=by
 intro σ p a b hp hs
 refine Ans.of_run' t171 (fun hbel _=>?_)
 have hb2:=z3l hbel
 simp -implicitDefEqProofs only[c171,r171,go_sem,List.append_assoc,List.length_append,List.length_set]
 unfold pways
 simp only
 refine CO.intro (hF.ex hp a b hs _) ?_
 have hs0:(F a b).2.2=true∨s.size≤40:=hfw.hs hs
 generalize F a b=w0 at hs0⊢
 obtain⟨x0,a0,b0⟩:=w0
 simp only at hs0⊢
 have hm:s.size-a0<s.size+1:=by omega
 generalize hres:z1y s F (s.size+1) [x0] a0 b0=res
 rw[rv_eq x0]
 rcases rvK_cases x0.ks with hK0|⟨l0,hK0⟩
 all_goals rw[hK0]
 all_goals simp -implicitDefEqProofs only[go_sem,gA hp,sA hp,gL0,sL0,gL1,sL1,List.append_assoc,List.length_append,List.length_set]
 all_goals (
  refine L.intro (α:={ x:Nat×List Rex×Nat×Bool // z1y s F x.1 x.2.1 x.2.2.1 x.2.2.2=res∧s.size-x.2.2.1<x.1∧(x.2.2.2=true∨s.size≤40)∧x.2.1.length≤x.2.2.1+1∧x.2.1≠[] })
   (fun x=>x.1.1)
   (fun x=>mkE 26 [(0,.ptr p 0),(1,I d),(4,.ptr σ.length 0),(5,vK σ.length x.1.2.1)])
   (fun x=>σ.set p (pob s x.1.2.2.1 x.1.2.2.2)++exK x.1.2.1)
   (fun x J hJ=>?_) ⟨(s.size+1,[x0],a0,b0),hres,hm,hs0,by simp,by simp⟩ ?_ ?_)
 all_goals try (simp[mkE,vK];done)
 all_goals try (simp only[z0n,List.map_cons,List.map_nil,rv_eq x0,hK0];done)
 all_goals (
  obtain⟨⟨n,K,a1,b1⟩,h1,h2,h3,h4,h5⟩:=x
  simp only at h1 h2 h3 h4 h5 hJ⊢
  rcases n with _|n
  · omega
  rw[z1y]at h1
  cases hgo:sees s a1 b1 124
  · rw[hgo,if_neg Bool.false_ne_true]at h1
    subst h1
    clear hJ h2
    have hn:=z2G (s:=s) hp a1 b1 124 h3
    simp only[nextA,hgo,Bool.false_eq_true,if_false]at hn
    simp -implicitDefEqProofs only[mkE,go_sem]
    refine CO.intro (hn _) ?_
    simp -implicitDefEqProofs only[go_sem]
    rcases K with _|⟨y,_|⟨z,K⟩⟩
    · exact absurd rfl h5
    · have g3:(((1:Nat):Int)==1)=true:=rfl
      have g4:((0:Int)<((1:Nat):Int))=True:=by simp
      have hbx:∀n,Bel n y.rv:=fun n=>z09 n y
      rw[z0n,z0A,List.map_cons,List.map_nil,show(one 3 [y])=y from rfl]
      rw[rv_eq y]at hbx⊢
      rcases rvK_cases y.ks with hK|⟨l,hK⟩
      all_goals rw[hK]at hbx⊢
      all_goals simp -implicitDefEqProofs only[go_sem,gA hp,sA hp,gL0,sL0,gL1,sL1,List.length_map,g3,g4,Int.toNat_zero]
      all_goals (
       refine Fini.trim2 (ex:=[_,_]) ?_ rfl ?_ (hbx _) (hb2 _ _)
       · ((try simp -implicitDefEqProofs only[go_sem,resA,z03,rvA,oneOf,gL0]);first|done|rfl|(rw[z0Q];rfl)|rw[rv_eq,hK]|(simp only[rv,rvK,rvL];rw[rv_eq,hK]))
       · simp)
    · rw[z0n,z0A]
      have g2:(((K.length+1+1:Nat):Int)==1)=false:=by simp;omega
      simp -implicitDefEqProofs only[go_sem,gA hp,sA hp,gL0,sL0,gL1,sL1,List.length_map,g2]
      refine Fini.trim2 (ex:=[_,_]) ?_ rfl ?_ (z09 _ _) (hb2 _ _)
      · ((try simp -implicitDefEqProofs only[go_sem,resA,z03,rvA,oneOf,gL0]);first|done|rfl|(rw[z0Q];rfl)|rw[rv_eq,hK]|(simp only[rv,rvK,rvL];rw[rv_eq,hK]))
      · simp
  · rw[hgo,if_pos rfl]at h1
    obtain⟨ha,hb⟩:=z6D hgo
    subst hb
    have hsz:s.size≤40:=by
     rcases h3 with h|h
     · exact absurd h Bool.false_ne_true
     · exact h
    have hea:=(hfw (a1+1) false).1
    have hJ':=hJ ⟨(n,K++[(F (a1+1) false).1],(F (a1+1) false).2.1,(F (a1+1) false).2.2),h1,by simp only;omega,.inr hsz,by simp;omega,by simp⟩ (Nat.lt_succ_self n)
    simp only[z3A,z5k]at hJ'
    clear hJ h1
    have hn:=z2G (s:=s) hp a1 false 124 h3
    simp only[nextA,hgo,if_true]at hn
    simp -implicitDefEqProofs only[mkE,go_sem]
    refine CO.intro (hn _) ?_
    simp -implicitDefEqProofs only[go_sem]
    refine CO.intro (hF.ex hp (a1+1) false (.inr hsz) _) ?_
    generalize F (a1+1) false=w at hJ' hea⊢
    obtain⟨x,a2,b2⟩:=w
    simp only at hJ' hea⊢
    rw[rv_eq x]at hJ'⊢
    rcases K with _|⟨y,K⟩
    · exact absurd rfl h5
    have g1:(K.length+1+1≤2^32)=True:=by simp at h4;simp;omega
    rcases rvK_cases x.ks with hK|⟨l,hK⟩
    all_goals rw[hK]at hJ'⊢
    all_goals (
     simp -implicitDefEqProofs only[go_sem,z0n,z0A,gA hp,sA hp,gL0,sL0,gL1,sL1,List.length_map,g1]at hJ'⊢
     simpa[mkE] using hJ'))
theorem zbi:∀k,k≤8→FAns 171 [I ((8-k:Nat):Int)] s (PW s k)
 |0,_=>z5W s _ 8 (z9d s _ 8 (z4J s _ 8 (z7f s _ 8 (Nat.le_refl _) (fun h=>absurd h (Nat.lt_irrefl _)) (fun a b=>⟨Nat.le_refl _,id⟩)) (z23 s (fun a b=>⟨Nat.le_refl _,id⟩) 8))
  (z1X s (z23 s (fun a b=>⟨Nat.le_refl _,id⟩) 8)) (z41 s (z5U s (fun a b=>⟨Nat.le_refl _,id⟩) 8)))
  (z6E s (z1X s (z23 s (fun a b=>⟨Nat.le_refl _,id⟩) 8)))
 |k+1,h=>by
  have ih:=zbi k (by omega)
  have hf:=z7e s k
  have e:8-(k+1)=7-k:=by omega
  have e2:8-k=7-k+1:=by omega
  rw[e2]at ih
  rw[e]
  exact z5W s _ (7-k) (z9d s _ (7-k) (z4J s _ (7-k) (z7f s _ (7-k) (by omega) (fun _=>ih) hf) (z23 s hf _))
   (z1X s (z23 s hf _)) (z41 s (z5U s hf _)))
   (z6E s (z1X s (z23 s hf _)))
def z1J:Rex×Bool :=
 let w:=PW s 8 0 (decide (40<s.size))
 if w.2.2||decide (w.2.1<s.size) then(.mk 0 0 0 0 0 [],false) else(w.1,true)
theorem z9e (σ:St):Ans Tryz.prog 160 [Sx s] σ (.tup [(z1J s).1.rv,Bo (z1J s).2]) σ:=by
 have hw:∀b:Bool,(b=true∨s.size≤40)→Ans Tryz.prog 171 [.ptr (σ.length+1) 0,I 0] (σ++[box0,pob s 0 b]) (PW s 8 0 b).1.rv (σ++[box0,pob s (PW s 8 0 b).2.1 (PW s 8 0 b).2.2]):=by
  intro b hs
  have:=zbi s 8 (Nat.le_refl _) (σ++[box0,pob s 0 b]) (σ.length+1) 0 b (by simp) hs
  have e:∀o,(σ++[box0,pob s 0 b]).set (σ.length+1) o=σ++[box0,o]:=fun o=>by rw[List.set_append_right _ _ (by omega)];simp
  rwa [e,e]at this
 have hs:(decide (40<s.size))=true∨s.size≤40:=by
  rcases Nat.lt_or_ge 40 s.size with h|h
  · exact .inl (by simpa using h)
  · exact .inr h
 have e40:decide ((40:Int)<(s.size:Int))=decide (40<s.size):=by rw[Bool.eq_iff_iff];simp;omega
 have k0:∀(x y:Ob) (ex:St),(σ++x::y::ex)[σ.length]?=some x:=fun x y ex=>by rw[List.getElem?_append_right (by simp)];simp
 have k1:∀(x y:Ob) (ex:St),(σ++x::y::ex)[σ.length+1]?=some y:=fun x y ex=>by rw[List.getElem?_append_right (by simp)];simp
 have k2:∀(x y z:Ob),(σ++[x,y,z])[σ.length+2]?=some z:=fun x y z=>by rw[List.getElem?_append_right (by simp)];simp
 have s0:∀(x z:Ob) (ex:St),(σ++x::ex).set σ.length z=σ++z::ex:=fun x z ex=>by rw[List.set_append_right _ _ (by simp)];simp
 refine Ans.of_run' t160 (fun hbel _=>?_)
 simp -implicitDefEqProofs only[c160,r160,go_sem,List.append_assoc,List.length_append,e40]
 refine CO.intro (hw _ hs) ?_
 unfold z1J
 generalize PW s 8 0 (decide (40<s.size))=w
 obtain⟨x,a,b⟩:=w
 simp only
 have eL:decide ((a:Int)<(s.size:Int))=decide (a<s.size):=by rw[Bool.eq_iff_iff];simp
 have hbx:∀n,Bel n x.rv:=fun n=>z09 n x
 rw[rv_eq x]
 have hrx:=rv_eq x
 rcases rvK_cases x.ks with hK|⟨l,hK⟩
 all_goals (
  rw[hK]at hrx⊢
  cases b
  · cases hlt:decide (a<s.size)
    · simp -implicitDefEqProofs only[go_sem,k0,k1,k2,s0,List.append_assoc,List.length_append,eL,hlt,Bool.or_self,hrx]
      rw[hrx]at hbx
      refine Fini.trim2 (σ':=σ) (ex:=[_,_]) ?_ rfl (Nat.le_refl _) ?_ hbel
      · simp -implicitDefEqProofs only[go_sem,resA,z03,rvA,oneOf,k0]
      · exact z24 (hbx _) _
    · simp -implicitDefEqProofs only[go_sem,k0,k1,k2,s0,List.append_assoc,List.length_append,eL,hlt,Bool.or_true]
      refine Fini.trim2 (σ':=σ) (ex:=[_,_]) ?_ rfl (Nat.le_refl _) ?_ hbel
      · simp -implicitDefEqProofs only[go_sem,resA,z03,rvA,oneOf,k0];rfl
      · exact z24 (z09 _ (.mk 0 0 0 0 0 [])) _
  · simp -implicitDefEqProofs only[go_sem,k0,k1,k2,s0,List.append_assoc,List.length_append,Bool.true_or]
    refine Fini.trim2 (σ':=σ) (ex:=[_,_]) ?_ rfl (Nat.le_refl _) ?_ hbel
    · simp -implicitDefEqProofs only[go_sem,resA,z03,rvA,oneOf,k0];rfl
    · exact z24 (z09 _ (.mk 0 0 0 0 0 [])) _)
end
theorem zcJ {M:Nat→Prop} {R:Ref→Value→Prop} {w:World}:∀(n:Nat) (x:Rex),SizeOf.sizeOf x≤n→∀v,Rep M R w (rvK x.ks) v→Rep M R w (.sl 6 (x.ks.map av)) v:=by
 intro n
 induction n with
 |zero=>intro x h;cases x;simp at h
 |succ n ih =>
  intro x hx v h
  have hlt:∀y∈x.ks,SizeOf.sizeOf y<SizeOf.sizeOf x:=fun y hy=>z94 hy
  generalize x.ks=L at h hlt
  rcases L with _|⟨y,L⟩
  · cases h;exact .sl0 6 _ _
  · rw[z5i]at h
    generalize hM:y::L=M' at h hlt
    have hget:∀i (hi:i<(M'.map rv).length),(M'.map rv)[i].cells=[I (M'[i]'(by simpa using hi)).op,U (M'[i]'(by simpa using hi)).a,U (M'[i]'(by simpa using hi)).b,U (M'[i]'(by simpa using hi)).c,U (M'[i]'(by simpa using hi)).d,rvK (M'[i]'(by simpa using hi)).ks]:=fun i hi=>by
     rw[List.getElem_map,zaC]
    have hget2:∀i (hi:i<(M'.map av).length),(M'.map av)[i].cells=[I (M'[i]'(by simpa using hi)).op,U (M'[i]'(by simpa using hi)).a,U (M'[i]'(by simpa using hi)).b,U (M'[i]'(by simpa using hi)).c,U (M'[i]'(by simpa using hi)).d,.sl 6 ((M'[i]'(by simpa using hi)).ks.map av)]:=fun i hi=>by
     rw[List.getElem_map,av_eq];rfl
    generalize hN:M'.map rv=N at h
    cases h with
    |sl0 => 
     have:M'=[]:=by simpa using hN
     rw[this]at hM;cases hM
    |sl _ _ b o cap f hcap hc hr =>
     subst hN
     have e:(M'.map rv).length=(M'.map av).length:=by simp
     rw[e]
     refine Rep.sl 6 (M'.map av) b o cap f (by rw[←e];exact hcap) ?_ ?_
     · intro i j hi hj
       have hi':i<(M'.map rv).length:=by rw[e];exact hi
       refine hc i j hi' ?_
       rw[hget2 i hi]at hj
       rw[hget i hi']
       exact hj
     · intro i j hi hj
       have hi':i<(M'.map rv).length:=by rw[e];exact hi
       have hj6:j<6:=by rw[hget2 i hi]at hj;exact hj
       have hj':j<((M'.map rv)[i].cells).length:=by rw[hget i hi'];exact hj6
       have h2:=hr i j hi' hj'
       simp only[hget i hi']at h2
       simp only[hget2 i hi]
       have hmem:M'[i]'(by simpa using hi)∈M':=List.getElem_mem _
       have ih2:=ih (M'[i]'(by simpa using hi)) (by have:=hlt _ hmem;omega)
       have h6:j=0∨j=1∨j=2∨j=3∨j=4∨j=5:=by omega
       rcases h6 with rfl|rfl|rfl|rfl|rfl|rfl
       · exact h2
       · exact h2
       · exact h2
       · exact h2
       · exact h2
       · exact ih2 _ h2
theorem zcK {M:Nat→Prop} {R:Ref→Value→Prop} {w:World} (x:Rex) (v:Value) (h:Rep M R w x.rv v):Rep M R w x.av v:=by
 have hk:=zcJ (M:=M) (R:=R) (w:=w) (SizeOf.sizeOf x) x (Nat.le_refl _)
 rw[rv_eq]at h
 rw[av_eq]
 cases h with
 |agg _ vs hl hr =>
  refine .agg _ vs hl fun j hj hj'=>?_
  have h2:=hr j hj hj'
  have hj6:j<6:=hj
  have h6:j=0∨j=1∨j=2∨j=3∨j=4∨j=5:=by omega
  rcases h6 with rfl|rfl|rfl|rfl|rfl|rfl
  · exact h2
  · exact h2
  · exact h2
  · exact h2
  · exact h2
  · exact hk _ h2
theorem Ans.sub {P:Program} {f:FuncId} {x:Rex} {σ σ':St} {r:AV} (h:Ans P f [x.av] σ r σ'):Ans P f [x.rv] σ r σ':=by
 intro M ν w vs hg hr
 refine h M ν w vs hg ⟨hr.1,fun j hj hj'=>?_⟩
 have h2:=hr.2 j hj hj'
 have:j=0:=by simp at hj;exact hj
 subst this
 exact zcK x _ h2
section
variable (s:ByteArray)
end
end Go.Proofs.YtmkmhhjkdaklbaaGreat
namespace Go.Proofs.YtmkmhhjkdaklbaaGreat
open Go Go.Ab
set_option maxRecDepth 100000
def z1z (c:Nat):Bool:=decide (97≤c)&&decide (c≤122)||decide (65≤c)&&decide (c≤90)||c==95
def z3o (c:Nat):Bool:=decide (48≤c)&&decide (c≤57)
def nameB (s:ByteArray):Bool:=decide (1≤s.size)&&decide (s.size≤12)&&z1z (byteAt s 0)&&(List.range s.size).all fun i=>z1z (byteAt s i)||z3o (byteAt s i)
theorem z1q (a b:Nat):decide ((a:Int)≤(b:Int))=decide (a≤b):=by
 rw[Bool.eq_iff_iff];simp only[decide_eq_true_eq];omega
theorem z4K (σ:St) (c:Nat):Ans Tryz.prog 144 [.pl (.int .u8 c)] σ (Bo (z1z c)) σ:=by
 have e1:decide ((97:Int)≤c)=decide (97≤c):=z1q 97 c
 have e2:decide ((c:Int)≤122)=decide (c≤122):=z1q c 122
 have e3:decide ((65:Int)≤c)=decide (65≤c):=z1q 65 c
 have e4:decide ((c:Int)≤90)=decide (c≤90):=z1q c 90
 have e5:((c:Int)==95)=(c==95):=z0c c 95
 have hg:(if(if decide (97≤c) then decide (c≤122) else false) then true else if(if decide (65≤c) then decide (c≤90) else false) then true else(c==95))=z1z c:=by
  unfold z1z
  cases decide (97≤c)<;>cases decide (c≤122)<;>cases decide (65≤c)<;>cases decide (c≤90)<;>cases(c==95)<;>rfl
 rw[←hg]
 refine Ans.of_run t144 ?_
 cases h1:decide (97≤c)<;>cases h2:decide (c≤122)<;>cases h3:decide (65≤c)<;>cases h4:decide (c≤90)<;>rw[h1]at e1<;>rw[h2]at e2<;>rw[h3]at e3<;>rw[h4]at e4
 all_goals (simp -implicitDefEqProofs only[c144,r144,go_sem,e1,e2,e3,e4,e5];exact Fini.ret rfl)
theorem decN (a b:Nat):decide ((a:Int)<(b:Int))=decide (a<b):=by
 rw[Bool.eq_iff_iff];simp only[decide_eq_true_eq];omega
theorem z44 (σ:St) (s:ByteArray):Ans Tryz.prog 108 [Sx s] σ (Bo (nameB s)) σ:=by
 refine Ans.of_run t108 ?_
 have d1:decide ((s.size:Int)<1)=decide (s.size<1):=decN s.size 1
 have d2:decide ((12:Int)<s.size)=decide (12<s.size):=decN 12 s.size
 by_cases h1:s.size<1
 · have e1:decide (s.size<1)=true:=by simpa using h1
   rw[e1]at d1
   simp -implicitDefEqProofs only[c108,r108,go_sem,d1]
   refine Fini.ret' rfl (z0G ?_)
   rw[nameB,show decide (1≤s.size)=false from decide_eq_false (by omega)];rfl
 have e1:decide (s.size<1)=false:=by simpa using h1
 rw[e1]at d1
 by_cases h2:12<s.size
 · have e2:decide (12<s.size)=true:=by simpa using h2
   rw[e2]at d2
   simp -implicitDefEqProofs only[c108,r108,go_sem,d1,d2]
   refine Fini.ret' rfl (z0G ?_)
   rw[nameB,show decide (s.size≤12)=false from decide_eq_false (by omega),Bool.and_false];rfl
 have e2:decide (12<s.size)=false:=by simpa using h2
 rw[e2]at d2
 have z1:((0:Int)<s.size)=True:=by simp;omega
 have n1:decide (1≤s.size)=true:=by simp;omega
 have n2:decide (s.size≤12)=true:=by simp;omega
 simp -implicitDefEqProofs only[c108,r108,go_sem,d1,d2,z1,z04,Int.toNat_zero]
 refine CO.intro (z4K _ _) ?_
 cases hl:z1z (byteAt s 0) with
 |false =>
  simp -implicitDefEqProofs only[go_sem,Int.toNat_zero,hl]
  refine Fini.ret' rfl (z0G ?_)
  rw[nameB,hl,Bool.and_false];rfl
 |true =>
 simp -implicitDefEqProofs only[go_sem,Int.toNat_zero,hl]
 refine Go.Ab.L.scan s.size (fun i=>z1z (byteAt s i)||z3o (byteAt s i)) (fun i=>mkE 41 [(0,Sx s),(19,I s.size),(20,I i)]) (fun _=>σ) ?_ ?_ ?_ rfl
 · intro i hi hp J hJ
   have hlt:((i:Int)<s.size)=True:=by simp;omega
   have hin:=z0j (n:=i) (by omega)
   have f1:decide ((byteAt s i:Int)<48)=decide (byteAt s i<48):=decN _ 48
   have f2:decide ((57:Int)<byteAt s i)=decide (57<byteAt s i):=decN 57 _
   simp -implicitDefEqProofs only[mkE,go_sem,hlt,z04]
   refine CO.intro (z4K _ _) ?_
   have hd:z3o (byteAt s i)= !(decide (byteAt s i<48)||decide (57<byteAt s i)):=by
    unfold z3o
    rw[Bool.eq_iff_iff];simp
   rw[hd]at hJ
   cases h3:z1z (byteAt s i) with
   |true =>
    rw[h3]at hJ
    simp -implicitDefEqProofs only[go_sem,hin]
    exact hJ rfl
   |false =>
    rw[h3]at hJ
    simp -implicitDefEqProofs only[go_sem,hlt,z04]
    cases h4:decide (byteAt s i<48)<;>rw[h4]at f1 hJ
    · cases h5:decide (57<byteAt s i)<;>rw[h5]at f2 hJ
      · simp -implicitDefEqProofs only[go_sem,f1,f2,hlt,z04,hin]
        exact hJ rfl
      · simp -implicitDefEqProofs only[go_sem,f1,f2,hlt,z04]
        refine Fini.ret' rfl (z0G ?_)
        rw[nameB,List.all_eq_false.2 ⟨i,List.mem_range.2 hi,by simp[h3,hd,h4,h5]⟩,Bool.and_false]
    · simp -implicitDefEqProofs only[go_sem,f1,hlt,z04]
      refine Fini.ret' rfl (z0G ?_)
      rw[nameB,List.all_eq_false.2 ⟨i,List.mem_range.2 hi,by simp[h3,hd,h4]⟩,Bool.and_false]
 · intro hp J
   have hlt:((s.size:Int)<s.size)=False:=by simp
   simp -implicitDefEqProofs only[mkE,go_sem,hlt]
   refine Fini.ret' rfl (z0G ?_)
   rw[nameB,n1,n2,hl,List.all_eq_true.2 fun i hi=>hp i (List.mem_range.1 hi)];rfl
 · rfl
def likeB (k:Int):Bool:=k==3||k==4
def isB (k:Int) (nm v:ByteArray):Bool:=nameB nm&&(if likeB k then(z1J v).2 else(k==1||k==2)&&decide (v.size≤24))
theorem zaD (σ:St) (k:Int) (nm v:ByteArray):Ans Tryz.prog 159 [mat k nm v] σ (Bo (likeB k)) σ:=by
 refine Ans.of_run t159 ?_
 simp -implicitDefEqProofs only[c159,r159,go_sem]
 unfold likeB
 cases h:k==3
 · simp -implicitDefEqProofs only[go_sem]
   exact Fini.ret rfl
 · simp -implicitDefEqProofs only[go_sem]
   exact Fini.ret rfl
theorem zcL (σ:St) (k:Int) (nm v:ByteArray):Ans Tryz.prog 142 [mat k nm v] σ (Bo (isB k nm v)) σ:=by
 refine Ans.of_run t142 ?_
 unfold isB
 simp -implicitDefEqProofs only[c142,r142,go_sem]
 refine CO.intro (z44 σ nm) ?_
 cases hn:nameB nm with
 |false =>
  simp -implicitDefEqProofs only[go_sem]
  exact Fini.ret rfl
 |true =>
 simp -implicitDefEqProofs only[go_sem]
 refine CO.intro (zaD σ k nm v) ?_
 cases hk:likeB k with
 |true =>
  simp -implicitDefEqProofs only[go_sem]
  refine CO.intro (z9e v σ) ?_
  have hrv:=Rex.rv_eq (z1J v).1
  generalize (z1J v).1=x at hrv⊢
  generalize (z1J v).2=b
  rw[hrv]
  rcases Rex.rvK_cases x.ks with e|⟨l,e⟩<;>rw[e]
  all_goals (simp -implicitDefEqProofs only[go_sem];exact Fini.ret rfl)
 |false =>
  have d:decide ((v.size:Int)≤24)=decide (v.size≤24):=z1q v.size 24
  simp -implicitDefEqProofs only[go_sem]
  cases h1:k==1 with
  |true =>
   simp -implicitDefEqProofs only[go_sem,d]
   exact Fini.ret rfl
  |false =>
   simp -implicitDefEqProofs only[go_sem]
   cases h2:k==2 with
   |true =>
    simp -implicitDefEqProofs only[go_sem,d]
    exact Fini.ret rfl
   |false =>
    simp -implicitDefEqProofs only[go_sem]
    exact Fini.ret rfl
abbrev Mtr:=Int×ByteArray×ByteArray
def mv3 (x:Mtr):AV:=mat x.1 x.2.1 x.2.2
def mvs3 (L:List Mtr):List AV:=L.map mv3
def labP (x:Lab):Nat×Nat:=(x.1.size,x.2.size)
def matP (x:Mtr):Nat×Nat:=(x.2.1.size,x.2.2.size)
def z0y:List (Nat×Nat)→Nat→Nat
 |[],n=>min n 301
 |(a,b)::l,n=>if n≤300 then if 300<a∨300<b then 301 else z0y l (n+1+a+b) else 301
theorem z1Y:∀(l:List (Nat×Nat)) (n:Nat),z0y l n≤300→n+l.length≤300∧∀x∈l,x.1≤300∧x.2≤300
 |[],n,h=>by
  simp only[z0y]at h
  refine⟨by simp;omega,by simp⟩
 |(a,b)::l,n,h=>by
  simp only[z0y]at h
  split at h
  · split at h
    · omega
    · have:=z1Y l _ h
      refine⟨by simp;omega,fun x hx=>?_⟩
      rcases List.mem_cons.1 hx with rfl|hx
      · simp only;omega
      · exact this.2 x hx
  · omega
theorem z4t (σ:St) (L:List Lab):Ans Tryz.prog 85 [.sl 2 (lvs L),I 300] σ (I (z0y (L.map labP) 0:Nat)) σ:=by
 refine Ans.of_run t85 ?_
 have hlen:((lvs L)).length=L.length:=by simp[lvs]
 simp -implicitDefEqProofs only[c85,r85,go_sem]
 generalize hres:z0y (L.map labP) 0=res
 refine Go.Ab.L.intro (α:={ x:Nat×Nat // x.1≤L.length∧z0y ((L.drop x.1).map labP) x.2=res∧x.2≤1000∧x.1≤x.2 })
  (fun x=>L.length-x.1.1)
  (fun x=>mkE 58 [(0,.sl 2 (lvs L)),(1,I 300),(5,I x.1.2),(6,I x.1.1)])
  (fun x=>σ)
  (fun x J hJ=>?_) ⟨(0,0),Nat.zero_le _,hres,by omega,Nat.le_refl _⟩ ?_ rfl
 · obtain⟨⟨i,n⟩,h1,h2,h3,h4⟩:=x
   simp only at h1 h2 h3 hJ⊢
   have d2:decide ((n:Int)≤300)=decide (n≤300):=z1q n 300
   by_cases hi:i<L.length
   · have d1:decide ((i:Int)<L.length)=true:=by simp;omega
     have d1':((i:Int)<L.length)=True:=by simp;omega
     have hget:((lvs L))[i]?=some (lv L[i]):=by simp[lvs,hi]
     rw[List.drop_eq_getElem_cons hi,List.map_cons]at h2
     have hJ':=hJ
     generalize L[i]=y at h2 hget
     obtain⟨nm,v⟩:=y
     simp only[lv]at hget
     simp only[labP]at h2
     rw[z0y]at h2
     by_cases hn:n≤300
     · rw[if_pos hn]at h2
       have e2:decide (n≤300)=true:=by simpa using hn
       rw[e2]at d2
       have d3:decide ((300:Int)<nm.size)=decide (300<nm.size):=decN 300 _
       have d4:decide ((300:Int)<v.size)=decide (300<v.size):=decN 300 _
       have w0:IntKind.i64.wrap (300+1)=301:=by decide
       by_cases ha:300<nm.size
       · rw[if_pos (.inl ha)]at h2
         rw[decide_eq_true ha]at d3
         simp -implicitDefEqProofs only[mkE,go_sem,hlen,d1,d1',d2,d3,hget,w0]
         subst h2
         exact Fini.ret rfl
       · rw[decide_eq_false ha]at d3
         by_cases hb:300<v.size
         · rw[if_pos (.inr hb)]at h2
           rw[decide_eq_true hb]at d4
           simp -implicitDefEqProofs only[mkE,go_sem,hlen,d1,d1',d2,d3,d4,hget,w0]
           subst h2
           exact Fini.ret rfl
         · rw[if_neg (by omega)]at h2
           rw[decide_eq_false hb]at d4
           have a1:IntKind.i64.wrap ((n:Int)+1)=((n+1:Nat):Int):=z0j (by omega)
           have a2:IntKind.i64.wrap (((n+1:Nat):Int)+(nm.size:Nat))=((n+1+nm.size:Nat):Int):=by rw[wrapN (by omega) (by omega)];omega
           have a3:IntKind.i64.wrap (((n+1+nm.size:Nat):Int)+(v.size:Nat))=((n+1+nm.size+v.size:Nat):Int):=by rw[wrapN (by omega) (by omega)];omega
           have a4:IntKind.i64.wrap ((i:Int)+1)=((i+1:Nat):Int):=z0j (by omega)
           simp -implicitDefEqProofs only[mkE,go_sem,hlen,d1,d1',d2,d3,d4,hget,a1,a2,a3,a4]
           exact hJ' ⟨(i+1,n+1+nm.size+v.size),by omega,h2,by omega,by simp only;omega⟩ (by simp only;omega)
     · rw[if_neg hn]at h2
       rw[decide_eq_false hn]at d2
       have w0:IntKind.i64.wrap (300+1)=301:=by decide
       simp -implicitDefEqProofs only[mkE,go_sem,hlen,d1,d1',d2,hget,w0]
       refine Fini.ret' rfl (z1n ?_)
       rw[show IntKind.i64.wrap 301=301 by decide]
       split<;>omega
   · have d1:decide ((i:Int)<L.length)=false:=by simp;omega
     have d1':((i:Int)<L.length)=False:=by simp;omega
     have w0:IntKind.i64.wrap (300+1)=301:=by decide
     simp -implicitDefEqProofs only[mkE,go_sem,hlen,d1,d1',w0]
     refine Fini.ret' rfl (z1n ?_)
     have he:L.drop i=[]:=List.drop_eq_nil_iff.2 (by omega)
     rw[he,List.map_nil,z0y]at h2
     rw[show IntKind.i64.wrap 301=301 by decide]
     split<;>omega
 · rfl
theorem z1P (σ:St) (L:List Mtr):Ans Tryz.prog 49 [.sl 3 (mvs3 L),I 300] σ (I (z0y (L.map matP) 0:Nat)) σ:=by
 refine Ans.of_run t49 ?_
 have hlen:((mvs3 L)).length=L.length:=by simp[mvs3]
 simp -implicitDefEqProofs only[c49,r49,go_sem]
 generalize hres:z0y (L.map matP) 0=res
 refine Go.Ab.L.intro (α:={ x:Nat×Nat // x.1≤L.length∧z0y ((L.drop x.1).map matP) x.2=res∧x.2≤1000∧x.1≤x.2 })
  (fun x=>L.length-x.1.1)
  (fun x=>mkE 58 [(0,.sl 3 (mvs3 L)),(1,I 300),(5,I x.1.2),(6,I x.1.1)])
  (fun x=>σ)
  (fun x J hJ=>?_) ⟨(0,0),Nat.zero_le _,hres,by omega,Nat.le_refl _⟩ ?_ rfl
 · obtain⟨⟨i,n⟩,h1,h2,h3,h4⟩:=x
   simp only at h1 h2 h3 hJ⊢
   have d2:decide ((n:Int)≤300)=decide (n≤300):=z1q n 300
   by_cases hi:i<L.length
   · have d1:decide ((i:Int)<L.length)=true:=by simp;omega
     have d1':((i:Int)<L.length)=True:=by simp;omega
     have hget:((mvs3 L))[i]?=some (mv3 L[i]):=by simp[mvs3,hi]
     rw[List.drop_eq_getElem_cons hi,List.map_cons]at h2
     have hJ':=hJ
     generalize L[i]=y at h2 hget
     obtain⟨k,nm,v⟩:=y
     simp only[mv3]at hget
     simp only[matP]at h2
     rw[z0y]at h2
     by_cases hn:n≤300
     · rw[if_pos hn]at h2
       have e2:decide (n≤300)=true:=by simpa using hn
       rw[e2]at d2
       have d3:decide ((300:Int)<nm.size)=decide (300<nm.size):=decN 300 _
       have d4:decide ((300:Int)<v.size)=decide (300<v.size):=decN 300 _
       have w0:IntKind.i64.wrap (300+1)=301:=by decide
       by_cases ha:300<nm.size
       · rw[if_pos (.inl ha)]at h2
         rw[decide_eq_true ha]at d3
         simp -implicitDefEqProofs only[mkE,go_sem,hlen,d1,d1',d2,d3,hget,w0]
         subst h2
         exact Fini.ret rfl
       · rw[decide_eq_false ha]at d3
         by_cases hb:300<v.size
         · rw[if_pos (.inr hb)]at h2
           rw[decide_eq_true hb]at d4
           simp -implicitDefEqProofs only[mkE,go_sem,hlen,d1,d1',d2,d3,d4,hget,w0]
           subst h2
           exact Fini.ret rfl
         · rw[if_neg (by omega)]at h2
           rw[decide_eq_false hb]at d4
           have a1:IntKind.i64.wrap ((n:Int)+1)=((n+1:Nat):Int):=z0j (by omega)
           have a2:IntKind.i64.wrap (((n+1:Nat):Int)+(nm.size:Nat))=((n+1+nm.size:Nat):Int):=by rw[wrapN (by omega) (by omega)];omega
           have a3:IntKind.i64.wrap (((n+1+nm.size:Nat):Int)+(v.size:Nat))=((n+1+nm.size+v.size:Nat):Int):=by rw[wrapN (by omega) (by omega)];omega
           have a4:IntKind.i64.wrap ((i:Int)+1)=((i+1:Nat):Int):=z0j (by omega)
           simp -implicitDefEqProofs only[mkE,go_sem,hlen,d1,d1',d2,d3,d4,hget,a1,a2,a3,a4]
           exact hJ' ⟨(i+1,n+1+nm.size+v.size),by omega,h2,by omega,by simp only;omega⟩ (by simp only;omega)
     · rw[if_neg hn]at h2
       rw[decide_eq_false hn]at d2
       have w0:IntKind.i64.wrap (300+1)=301:=by decide
       simp -implicitDefEqProofs only[mkE,go_sem,hlen,d1,d1',d2,hget,w0]
       refine Fini.ret' rfl (z1n ?_)
       rw[show IntKind.i64.wrap 301=301 by decide]
       split<;>omega
   · have d1:decide ((i:Int)<L.length)=false:=by simp;omega
     have d1':((i:Int)<L.length)=False:=by simp;omega
     have w0:IntKind.i64.wrap (300+1)=301:=by decide
     simp -implicitDefEqProofs only[mkE,go_sem,hlen,d1,d1',w0]
     refine Fini.ret' rfl (z1n ?_)
     have he:L.drop i=[]:=List.drop_eq_nil_iff.2 (by omega)
     rw[he,List.map_nil,z0y]at h2
     rw[show IntKind.i64.wrap 301=301 by decide]
     split<;>omega
 · rfl
def cmpL:List UInt8→List UInt8→Int
 |[],[]=>0
 |[],_::_=>-1
 |_::_,[]=>1
 |a::x,b::y=>if a != b then(if a<b then -1 else 1) else cmpL x y
def cmpI2 (x y:List UInt8):Int:=match(List.range (min x.length y.length)).find? fun i=>x.getD i 0 != y.getD i 0 with
 |some i=>if x.getD i 0<y.getD i 0 then -1 else 1
 |none=>if x.length<y.length then -1 else if x.length>y.length then 1 else 0
theorem z7g:∀x y:List UInt8,cmpI2 x y=cmpL x y
 |[],[]=>rfl
 |[],b::y=>by simp[cmpI2,cmpL]
 |a::x,[]=>by simp[cmpI2,cmpL]
 |a::x,b::y=>by
  rw[cmpL,←z7g x y]
  unfold cmpI2
  rw[List.length_cons,List.length_cons,Nat.succ_min_succ,List.range_succ_eq_map,List.find?_cons]
  simp only[List.getD_cons_zero]
  cases h:(a != b) with
  |true=>simp
  |false =>
   simp only[Bool.false_eq_true,if_false]
   rw[List.find?_map]
   simp only[Function.comp_def,List.getD_cons_succ]
   cases(List.range (min x.length y.length)).find? fun i=>x.getD i 0 != y.getD i 0 with
   |none=>simp
   |some i=>simp
theorem z5X:∀x y:List UInt8,cmpL x y=if x==y then 0 else if Op.bytesLess x y then -1 else 1
 |[],[]=>rfl
 |[],b::y=>by simp[cmpL,Op.bytesLess]
 |a::x,[]=>by simp[cmpL,Op.bytesLess]
 |a::x,b::y=>by
  rw[cmpL,z5X x y,Op.bytesLess]
  by_cases h:a=b
  · subst h
    have:¬a<a:=by simp
    simp[this]
  · by_cases hl:a<b
    · simp[h,hl]
    · simp[h,hl]
theorem zaE (a b:ByteArray):Extern.BytealgCompare.cmp a b=cmpL a.data.toList b.data.toList:=by
 rw[←z7g]
 unfold Extern.BytealgCompare.cmp cmpI2
 have hg:∀(a:ByteArray) (i:Nat),a[i]! =a.data.toList.getD i 0:=fun a i=>by
  rw[List.getD_eq_getElem?_getD,Array.getElem?_toList,getElem!_def]
  by_cases h:i<a.size
  · have h1:a[i]?=some a[i]:=by rw[getElem?_pos]
    have h2:a.data[i]?=some a[i]:=Array.getElem?_eq_getElem h
    rw[h1,h2];rfl
  · have h1:a[i]?=none:=by rw[getElem?_neg];exact h
    have h2:a.data[i]?=none:=Array.getElem?_eq_none (by simpa using h)
    rw[h1,h2];rfl
 simp only[hg]
 rfl
def cmpS (a b:ByteArray):Int:=Extern.BytealgCompare.cmp a b
def cmpI (a b:Int):Int:=if a<b then -1 else if b<a then 1 else 0
def or3 (a b c:Int):Int:=if a != 0 then a else if b != 0 then b else c
def cmp3 (x y:Mtr):Int:=or3 (cmpS x.2.1 y.2.1) (cmpI x.1 y.1) (cmpS x.2.2 y.2.2)
section
variable (σ:St)
theorem z4L (a b:ByteArray):Ans Tryz.prog 162 [Sx a,Sx b] σ (I (cmpS a b)) σ:=by
 have h139:Ans Tryz.prog 183 [Sx a,Sx b] σ (I (cmpS a b)) σ:=zbb _ _ _ _ rfl
 have h123:Ans Tryz.prog 172 [Sx a,Sx b] σ (I (cmpS a b)) σ:=by
  refine Ans.of_run t172 ?_
  simp -implicitDefEqProofs only[c172,r172,go_sem]
  refine CO.intro h139 ?_
  simp -implicitDefEqProofs only[go_sem]
  exact Fini.ret rfl
 refine Ans.of_run t162 ?_
 simp -implicitDefEqProofs only[c162,r162,go_sem]
 refine CO.intro h123 ?_
 simp -implicitDefEqProofs only[go_sem]
 exact Fini.ret rfl
theorem z9f (a:Int):Ans Tryz.prog 173 [I a] σ (Bo false) σ:=by
 have h:(a != a)=false:=by simp
 refine Ans.of_run t173 ?_
 simp -implicitDefEqProofs only[c173,r173,go_sem,h]
 exact Fini.ret rfl
theorem z7Z (a b:Int):Ans Tryz.prog 163 [I a,I b] σ (I (cmpI a b)) σ:=by
 unfold cmpI
 refine Ans.of_run t163 ?_
 simp -implicitDefEqProofs only[c163,r163,go_sem]
 refine CO.intro (z9f σ a) ?_
 simp -implicitDefEqProofs only[go_sem]
 refine CO.intro (z9f σ b) ?_
 simp -implicitDefEqProofs only[go_sem]
 by_cases h1:a<b
 · have h1':decide (a<b)=true:=by simpa using h1
   simp -implicitDefEqProofs only[go_sem,h1']
   rw[if_pos h1]
   exact Fini.ret rfl
 · have h1':decide (a<b)=false:=by simpa using h1
   simp -implicitDefEqProofs only[go_sem,h1']
   rw[if_neg h1]
   by_cases h2:b<a
   · have h2':decide (b<a)=true:=by simpa using h2
     simp -implicitDefEqProofs only[go_sem,h2']
     rw[if_pos h2]
     exact Fini.ret rfl
   · have h2':decide (b<a)=false:=by simpa using h2
     simp -implicitDefEqProofs only[go_sem,h2']
     rw[if_neg h2]
     exact Fini.ret rfl
def orF (a b c:Int):Nat→Int
 |0=>or3 a b c
 |1=>if b != 0 then b else c
 |2=>c
 |_=>0
theorem zcM (a b c:Int):Ans Tryz.prog 161 [.sl 1 [I a,I b,I c]] σ (I (or3 a b c)) σ:=by
 refine Ans.of_run t161 ?_
 simp -implicitDefEqProofs only[c161,r161,go_sem]
 generalize hres:or3 a b c=res
 refine Go.Ab.L.intro (α:={ i:Nat // i≤3∧orF a b c i=res }) (fun x=>3-x.1)
  (fun x=>mkE 18 [(3,I 0),(6,.sl 1 [I a,I b,I c]),(7,I ((3:Nat):Int)),(8,I x.1)]) (fun _=>σ) (fun x J hJ=>?_) ⟨0,Nat.zero_le _,hres⟩ rfl rfl
 obtain⟨i,hi,hg⟩:=x
 simp only at hJ⊢
 have i4:i=0∨i=1∨i=2∨i=3:=by omega
 have w0:IntKind.i64.wrap (((0:Nat):Int)+1)=((1:Nat):Int):=by decide
 have w1:IntKind.i64.wrap (((1:Nat):Int)+1)=((2:Nat):Int):=by decide
 have w2:IntKind.i64.wrap (((2:Nat):Int)+1)=((3:Nat):Int):=by decide
 rcases i4 with rfl|rfl|rfl|rfl
 · have d1:decide (((0:Nat):Int)<((3:Nat):Int))=true:=by decide
   have d2:(((0:Nat):Int)<((3:Nat):Int))=True:=by simp
   simp only[orF,or3]at hg
   simp -implicitDefEqProofs only[mkE,go_sem,d1,d2]
   cases h:a != 0
   · rw[h,if_neg Bool.false_ne_true]at hg
     have hJ':=hJ ⟨1,by omega,hg⟩ (by simp only;omega)
     simp only at hJ'
     simp -implicitDefEqProofs only[go_sem,w0]
     exact hJ'
   · rw[h,if_pos rfl]at hg
     simp -implicitDefEqProofs only[go_sem]
     rw[←hg]
     exact Fini.ret rfl
 · have d1:decide (((1:Nat):Int)<((3:Nat):Int))=true:=by decide
   have d2:(((1:Nat):Int)<((3:Nat):Int))=True:=by simp
   simp only[orF]at hg
   simp -implicitDefEqProofs only[mkE,go_sem,d1,d2]
   cases h:b != 0
   · rw[h,if_neg Bool.false_ne_true]at hg
     have hJ':=hJ ⟨2,by omega,hg⟩ (by simp only;omega)
     simp only at hJ'
     simp -implicitDefEqProofs only[go_sem,w1]
     exact hJ'
   · rw[h,if_pos rfl]at hg
     simp -implicitDefEqProofs only[go_sem]
     rw[←hg]
     exact Fini.ret rfl
 · have d1:decide (((2:Nat):Int)<((3:Nat):Int))=true:=by decide
   have d2:(((2:Nat):Int)<((3:Nat):Int))=True:=by simp
   simp only[orF]at hg
   simp -implicitDefEqProofs only[mkE,go_sem,d1,d2]
   cases h:c != 0
   · have hc:c=0:=by simpa using h
     have hJ':=hJ ⟨3,by omega,by rw[←hg,hc];rfl⟩ (by simp only;omega)
     simp only at hJ'
     simp -implicitDefEqProofs only[go_sem,w2]
     exact hJ'
   · simp -implicitDefEqProofs only[go_sem]
     rw[←hg]
     exact Fini.ret rfl
 · have d1:decide (((3:Nat):Int)<((3:Nat):Int))=false:=by decide
   have d2:(((3:Nat):Int)<((3:Nat):Int))=False:=by simp
   simp only[orF]at hg
   simp -implicitDefEqProofs only[mkE,go_sem,d1,d2]
   rw[←hg]
   exact Fini.ret rfl
theorem z6F (x y:Mtr):Ans Tryz.prog 143 [mv3 x,mv3 y] σ (I (cmp3 x y)) σ:=by
 have h1:=fun s=>z4L s x.2.1 y.2.1
 have h2:=fun s=>z7Z s x.1 y.1
 have h3:=fun s=>z4L s x.2.2 y.2.2
 have h4:=fun s=>zcM s (cmpS x.2.1 y.2.1) (cmpI x.1 y.1) (cmpS x.2.2 y.2.2)
 unfold cmp3
 refine Ans.of_run t143 ?_
 simp -implicitDefEqProofs only[c143,r143,go_sem,z0p,mv3]
 first|refine CD.intro (h1 _) ?_|refine CS.intro h1 ?_
 simp -implicitDefEqProofs only[go_sem,z0p]
 first|refine CD.intro (h2 _) ?_|refine CS.intro h2 ?_
 simp -implicitDefEqProofs only[go_sem,z0p]
 first|refine CD.intro (h3 _) ?_|refine CS.intro h3 ?_
 simp -implicitDefEqProofs only[go_sem,z0p]
 first|refine CD.intro (h4 _) ?_|refine CS.intro h4 ?_
 simp -implicitDefEqProofs only[go_sem]
 exact Fini.ret rfl
end
theorem z9g (a b:ByteArray):cmpS a b=(if a.toList==b.toList then 0 else if Op.bytesLess a.toList b.toList then -1 else 1):=by
 rw[cmpS,zaE,z5X,ByteArray.toList_eq,ByteArray.toList_eq]
def z2U (x y:Mtr):Bool :=
 if !(x.2.1.toList==y.2.1.toList) then Op.bytesLess x.2.1.toList y.2.1.toList
 else if !(x.1==y.1) then decide (x.1<y.1)
 else Op.bytesLess x.2.2.toList y.2.2.toList
theorem z45:∀x:List UInt8,Op.bytesLess x x=false
 |[]=>rfl
 |a::x=>by rw[Op.bytesLess,z45 x];simp
theorem z6G (x y:Mtr):decide (0≤cmp3 x y)= !z2U x y:=by
 unfold cmp3 or3 z2U
 rw[z9g,z9g]
 cases h1:(x.2.1.toList==y.2.1.toList) with
 |false =>
  cases h2:Op.bytesLess x.2.1.toList y.2.1.toList<;>simp
 |true =>
  simp only[Bool.not_true,Bool.false_eq_true,if_false,if_true]
  unfold cmpI
  by_cases h3:x.1<y.1
  · have:(x.1==y.1)=false:=by simp;omega
    simp[h3,this]
  · by_cases h4:y.1<x.1
    · have:(x.1==y.1)=false:=by simp;omega
      simp[h3,h4,this]
    · have h5:(x.1==y.1)=true:=by simp;omega
      simp only[h3,h4,h5,if_false,Bool.not_true,Bool.false_eq_true]
      cases h6:(x.2.2.toList==y.2.2.toList) with
      |true =>
       have:x.2.2.toList=y.2.2.toList:=by simpa using h6
       rw[this,z45];rfl
      |false=>cases h7:Op.bytesLess x.2.2.toList y.2.2.toList<;>simp
def epsTo (ys:List Stp) (p q:Nat):Prop:=∃s,ys[p]?=some s∧((s.op=2∧(q=s.x.toNat∨q=s.y.toNat))∨(s.op=3∧q=s.x.toNat))
inductive Eps (ys:List Stp):Nat→Nat→Prop where
 |refl (p:Nat):Eps ys p p
 |step {p q r:Nat}:epsTo ys p q→Eps ys q r→Eps ys p r
theorem z5l {ys:List Stp} {p:Nat} {s:Stp} (h:ys[p]?=some s):stpAt ys p=s:=by
 rw[stpAt,List.getD_eq_getElem?_getD,h];rfl
theorem Eps.snoc {ys:List Stp} {p q r:Nat} (h:Eps ys p q) (h':epsTo ys q r):Eps ys p r:=by
 induction h with
 |refl p=>exact .step h' (.refl _)
 |step h1 _ ih=>exact .step h1 (ih h')
section
variable {ys:List Stp} (hc:zcH ys=true)
include hc
end
inductive Reach (ys:List Stp) (s:ByteArray):Nat→Nat→Prop where
 |zero:Reach ys s 0 0
 |eps {p q i:Nat}:Reach ys s p i→epsTo ys p q→Reach ys s q i
 |byte {p i:Nat}:Reach ys s p i→p<ys.length→i<s.size→z3X (stpAt ys p) (byteAt s i)=true→Reach ys s (p+1) (i+1)
theorem Reach.last {ys:List Stp} {s:ByteArray} {q i:Nat} (h:Reach ys s q i):(i=0∧Eps ys 0 q)∨∃j p,i=j+1∧j<s.size∧p<ys.length∧Reach ys s p j∧z3X (stpAt ys p) (byteAt s j)=true∧Eps ys (p+1) q:=by
 induction h with
 |zero=>exact .inl ⟨rfl,.refl _⟩
 |eps _ h1 ih =>
  rcases ih with⟨h,h'⟩|⟨j,p,h⟩
  · exact .inl ⟨h,h'.snoc h1⟩
  · exact .inr ⟨j,p,h.1,h.2.1,h.2.2.1,h.2.2.2.1,h.2.2.2.2.1,h.2.2.2.2.2.snoc h1⟩
 |byte h hp hi ht _=>exact .inr ⟨_,_,rfl,hi,hp,h,ht,.refl _⟩
end Go.Proofs.YtmkmhhjkdaklbaaGreat
namespace Go.Proofs.YtmkmhhjkdaklbaaGreat
open Go Go.Ab
set_option maxRecDepth 100000
inductive Star (R:Nat→Nat→Prop):Nat→Nat→Prop where
 |refl (i:Nat):Star R i i
 |step {i m j:Nat}:R i m→Star R m j→Star R i j
section
variable (s:ByteArray)
mutual
def Mt:Rex→Nat→Nat→Prop
 |.mk op a b c d ks=>fun i j =>
  if op==1 then i<s.size∧j=i+1∧z3X ⟨1,a,b,c,d,0,0⟩ (byteAt s i)=true
  else if op==2 then MtL ks i j
  else if op==3 then MtA ks i j
  else if op==4 then Star (MtH ks) i j
  else if op==5 then ∃m,MtH ks i m∧Star (MtH ks) m j
  else if op==6 then i=j∨MtH ks i j
  else False
def MtL:List Rex→Nat→Nat→Prop
 |[]=>fun i j=>i=j
 |x::xs=>fun i j=>∃m,Mt x i m∧MtL xs m j
def MtA:List Rex→Nat→Nat→Prop
 |[]=>fun _ _=>False
 |x::xs=>fun i j=>Mt x i j∨MtA xs i j
def MtH:List Rex→Nat→Nat→Prop
 |[]=>fun _ _=>False
 |x::_=>fun i j=>Mt x i j
end
inductive Ed (ys:List Stp):Nat×Nat→Nat×Nat→Prop where
 |eps {p q i:Nat}:epsTo ys p q→Ed ys (p,i) (q,i)
 |byte {p i:Nat}:p<ys.length→i<s.size→z3X (stpAt ys p) (byteAt s i)=true→Ed ys (p,i) (p+1,i+1)
def Run (ys:List Stp) (lo hi:Nat):Nat→Nat×Nat→Nat×Nat→Prop
 |0,c,d=>c=d∧¬(lo≤c.1∧c.1<hi)
 |k+1,c,d=>(lo≤c.1∧c.1<hi)∧∃e,Ed s ys c e∧Run ys lo hi k e d
def Path (ys:List Stp):Nat→Nat×Nat→Nat×Nat→Prop
 |0,c,d=>c=d
 |k+1,c,d=>∃e,Ed s ys c e∧Path ys k e d
variable {s} {ys:List Stp}
theorem Run.split {lo hi lo' hi':Nat} (h1:lo≤lo') (h2:hi'≤hi):∀(k:Nat) (c d:Nat×Nat),Run s ys lo hi k c d→∃k1 k2 m,k1+k2=k∧Run s ys lo' hi' k1 c m∧Run s ys lo hi k2 m d
 |0,c,d,h=>⟨0,0,c,rfl,⟨rfl,fun hc=>h.2 ⟨by omega,by omega⟩⟩,h⟩
 |k+1,c,d,h=>by
  by_cases hc:lo'≤c.1∧c.1<hi'
  · obtain⟨_,e,he,hr⟩:=h
    obtain⟨k1,k2,m,hk,h3,h4⟩:=Run.split h1 h2 k e d hr
    exact⟨k1+1,k2,m,by omega,⟨hc,e,he,h3⟩,h4⟩
  · exact⟨0,k+1,c,by omega,⟨rfl,hc⟩,h⟩
theorem Path.run {lo hi:Nat}:∀(k:Nat) (c d:Nat×Nat),Path s ys k c d→¬(lo≤d.1∧d.1<hi)→∃k1 k2 m,Run s ys lo hi k1 c m∧Path s ys k2 m d
 |0,c,d,h,hd=>⟨0,0,c,⟨rfl,by rw[show c=d from h];exact hd⟩,h⟩
 |k+1,c,d,h,hd=>by
  by_cases hc:lo≤c.1∧c.1<hi
  · obtain⟨e,he,hr⟩:=h
    obtain⟨k1,k2,m,h3,h4⟩:=Path.run k e d hr hd
    exact⟨k1+1,k2,m,⟨hc,e,he,h3⟩,h4⟩
  · exact⟨0,k+1,c,⟨rfl,hc⟩,h⟩
theorem Path.snoc:∀(k:Nat) (c d e:Nat×Nat),Path s ys k c d→Ed s ys d e→Path s ys (k+1) c e
 |0,c,d,e,h,he=>by rw[show c=d from h];exact⟨e,he,rfl⟩
 |k+1,c,d,e,h,he=>by
  obtain⟨f,hf,hr⟩:=h
  exact⟨f,hf,Path.snoc k f d e hr he⟩
theorem Run.out {lo hi k:Nat} {c d:Nat×Nat} (h:Run s ys lo hi k c d) (hc:¬(lo≤c.1∧c.1<hi)):k=0∧c=d:=by
 cases k with
 |zero=>exact⟨rfl,h.1⟩
 |succ k=>exact absurd h.1 hc
theorem Run.move {lo hi k:Nat} {c d:Nat×Nat} (h:Run s ys lo hi k c d) (hc:lo≤c.1∧c.1<hi):∃k' e,k=k'+1∧Ed s ys c e∧Run s ys lo hi k' e d:=by
 cases k with
 |zero=>exact absurd hc h.2
 |succ k=>obtain⟨_,e,h1,h2⟩:=h;exact⟨k,e,rfl,h1,h2⟩
theorem Ed.two {p i:Nat} {e:Nat×Nat} {st:Stp} (h:Ed s ys (p,i) e) (hs:ys[p]?=some st) (ho:st.op=2):e=(st.x.toNat,i)∨e=(st.y.toNat,i):=by
 cases h with
 |eps h =>
  obtain⟨s',h1,h2⟩:=h
  rw[hs]at h1;cases h1
  rcases h2 with⟨_,rfl|rfl⟩|⟨h3,_⟩
  · exact .inl rfl
  · exact .inr rfl
  · omega
 |byte h1 h2 h3 =>
  rw[z5l hs]at h3
  simp[z3X,ho]at h3
theorem Ed.one {p i:Nat} {e:Nat×Nat} {st:Stp} (h:Ed s ys (p,i) e) (hs:ys[p]?=some st) (ho:st.op=1):e=(p+1,i+1)∧i<s.size∧z3X st (byteAt s i)=true:=by
 cases h with
 |eps h =>
  obtain⟨s',h1,h2⟩:=h
  rw[hs]at h1;cases h1
  rcases h2 with⟨h3,_⟩|⟨h3,_⟩<;>omega
 |byte h1 h2 h3 =>
  rw[z5l hs]at h3
  exact⟨rfl,h2,h3⟩
theorem Ed.four {p i:Nat} {e:Nat×Nat} {st:Stp} (h:Ed s ys (p,i) e) (hs:ys[p]?=some st) (ho:st.op=4):False:=by
 cases h with
 |eps h =>
  obtain⟨s',h1,h2⟩:=h
  rw[hs]at h1;cases h1
  rcases h2 with⟨h3,_⟩|⟨h3,_⟩<;>omega
 |byte h1 h2 h3 =>
  rw[z5l hs]at h3
  simp[z3X,ho]at h3
def Frag (ys:List Stp) (n:Nat) (l:List Stp):Prop:=∀k,k<l.length→ys[n+k]?=l[k]?
theorem Frag.left {n:Nat} {a b:List Stp} (h:Frag ys n (a++b)):Frag ys n a:=fun k hk=>by
 rw[h k (by simp;omega),List.getElem?_append_left hk]
theorem Frag.right {n:Nat} {a b:List Stp} (h:Frag ys n (a++b)):Frag ys (n+a.length) b:=fun k hk=>by
 rw[show n+a.length+k=n+(a.length+k) by omega,h _ (by simp;omega),List.getElem?_append_right (by omega)]
 congr 1;omega
theorem Frag.head {n:Nat} {a:Stp} {b:List Stp} (h:Frag ys n (a::b)):ys[n]?=some a:=by
 have:=h 0 (by simp);simpa using this
theorem Frag.tail {n:Nat} {a:Stp} {b:List Stp} (h:Frag ys n (a::b)):Frag ys (n+1) b:=fun k hk=>by
 have:=h (k+1) (by simp;omega)
 rw[show n+1+k=n+(k+1) by omega,this];simp
end
end Go.Proofs.YtmkmhhjkdaklbaaGreat
namespace Go.Proofs.YtmkmhhjkdaklbaaGreat
open Go Go.Ab Rex
set_option maxRecDepth 100000
section
variable (s:ByteArray)
end
theorem Star.one {R:Nat→Nat→Prop} {i m j:Nat} (h:R i m) (h':Star R m j):Star R i j:=.step h h'
section
variable {s:ByteArray} {ys:List Stp}
def Comp (s:ByteArray) (ys:List Stp) (x:Rex):Prop:=∀n i j,Frag ys n (lay n x)→Mt s x i j→Reach ys s n i→Reach ys s (n+(lay n x).length) j
theorem compL (l:List Rex):∀n i j,(∀k∈l,Comp s ys k)→Frag ys n (layL n l)→MtL s l i j→Reach ys s n i→Reach ys s (n+(layL n l).length) j:=by
 induction l with
 |nil=>intro n i j _ _ h hr;rw[show i=j from h]at hr;exact hr
 |cons x xs ih =>
  intro n i j hk hf h hr
  rw[layL]at hf⊢
  obtain⟨m,h1,h2⟩:=h
  have a1:=hk x List.mem_cons_self n i m hf.left h1 hr
  have a2:=ih _ m j (fun k hk'=>hk k (List.mem_cons_of_mem _ hk')) hf.right h2 a1
  rw[List.length_append,←Nat.add_assoc]
  exact a2
end
abbrev dob (s:ByteArray) (a d:Nat) (b:Bool):Ob:=.box [Sx s,I a,I d,Bo b]
def specials:List Nat:=[124,42,43,63,40,41,91,93,46,92]
def oneS (c:Nat):List Int:=z4.set (c/64) (bitU (c%64))
def within2:List Nat:=[93,91,94,45]
def z0e (s:ByteArray) (a:Nat):Nat×Nat×Bool :=
 if over s a false then(0,a,true)
 else if byteAt s a==92 then
  if over s (a+1) false|| !signs.contains (byteAt s (a+1)) then(0,a+1,true) else(byteAt s (a+1),a+2,false)
 else(byteAt s a,a+1,within2.contains (byteAt s a))
theorem zaF:∀c:Nat,c<256→((specials.contains c||c==94)||c==45)=signs.contains c:=by decide +kernel
theorem z80 (c:Nat):(((c==93||c==91)||c==94)||c==45)=within2.contains c:=by
 simp only[within2,List.contains_cons,List.contains_nil,Bool.or_false,Bool.or_assoc]
section
variable (σ:St) (p:Nat) (s:ByteArray) (a d:Nat)
theorem z46 (c:Nat):Ans Tryz.prog 220 [B8 c] σ (Bo (specials.contains c)) σ:=by
 have k:∀n:Nat,((c:Int)==(n:Int))=(c==n):=fun n=>z0c c n
 have k1:((c:Int)==124)=(c==124):=k 124
 have k2:((c:Int)==42)=(c==42):=k 42
 have k3:((c:Int)==43)=(c==43):=k 43
 have k4:((c:Int)==63)=(c==63):=k 63
 have k5:((c:Int)==40)=(c==40):=k 40
 have k6:((c:Int)==41)=(c==41):=k 41
 have k7:((c:Int)==91)=(c==91):=k 91
 have k8:((c:Int)==93)=(c==93):=k 93
 have k9:((c:Int)==46)=(c==46):=k 46
 have k10:((c:Int)==92)=(c==92):=k 92
 simp only[specials,List.contains_cons,List.contains_nil,Bool.or_false]
 refine Ans.of_run t220 ?_
 simp -implicitDefEqProofs only[c220,r220,go_sem,k1]
 cases h1:c==124
 case true=>simp -implicitDefEqProofs only[go_sem];exact Fini.ret rfl
 simp -implicitDefEqProofs only[go_sem,k2]
 cases h2:c==42
 case true=>simp -implicitDefEqProofs only[go_sem];exact Fini.ret rfl
 simp -implicitDefEqProofs only[go_sem,k3]
 cases h3:c==43
 case true=>simp -implicitDefEqProofs only[go_sem];exact Fini.ret rfl
 simp -implicitDefEqProofs only[go_sem,k4]
 cases h4:c==63
 case true=>simp -implicitDefEqProofs only[go_sem];exact Fini.ret rfl
 simp -implicitDefEqProofs only[go_sem,k5]
 cases h5:c==40
 case true=>simp -implicitDefEqProofs only[go_sem];exact Fini.ret rfl
 simp -implicitDefEqProofs only[go_sem,k6]
 cases h6:c==41
 case true=>simp -implicitDefEqProofs only[go_sem];exact Fini.ret rfl
 simp -implicitDefEqProofs only[go_sem,k7]
 cases h7:c==91
 case true=>simp -implicitDefEqProofs only[go_sem];exact Fini.ret rfl
 simp -implicitDefEqProofs only[go_sem,k8]
 cases h8:c==93
 case true=>simp -implicitDefEqProofs only[go_sem];exact Fini.ret rfl
 simp -implicitDefEqProofs only[go_sem,k9]
 cases h9:c==46
 case true=>simp -implicitDefEqProofs only[go_sem];exact Fini.ret rfl
 simp -implicitDefEqProofs only[go_sem,k10]
 cases h10:c==92
 case true=>simp -implicitDefEqProofs only[go_sem];exact Fini.ret rfl
 simp -implicitDefEqProofs only[go_sem]
 exact Fini.ret rfl
theorem z4M (c:Nat) (hc:c<256):Ans Tryz.prog 216 [B8 c] σ (Bo (signs.contains c)) σ:=by
 have k1:((c:Int)==94)=(c==94):=z0c c 94
 have k2:((c:Int)==45)=(c==45):=z0c c 45
 rw[←zaF c hc]
 refine Ans.of_run t216 ?_
 simp -implicitDefEqProofs only[c216,r216,go_sem]
 refine CO.intro (z46 σ c) ?_
 simp -implicitDefEqProofs only[go_sem,k1]
 cases h1:specials.contains c
 · simp -implicitDefEqProofs only[go_sem,k1]
   cases h2:c==94
   · simp -implicitDefEqProofs only[go_sem,k2]
     exact Fini.ret rfl
   · simp -implicitDefEqProofs only[go_sem,k2]
     exact Fini.ret rfl
 · simp -implicitDefEqProofs only[go_sem]
   exact Fini.ret rfl
theorem z5m (b:Bool) (h:σ[p]?=some (dob s a d b)):Ans Tryz.prog 190 [.ptr p 0] σ (Bo (!over s a b)) σ:=by
 refine Ans.of_run t190 ?_
 cases b<;>simp -implicitDefEqProofs only[c190,r190,h,go_sem]
 · refine Fini.ret ?_
   have e:decide ((a:Int)<(s.size:Int))= !over s a false:=by
    simp only[over,Bool.false_or]
    rw[Bool.eq_iff_iff];simp
   simp -implicitDefEqProofs only[go_sem,e]
   rfl
 · exact Fini.ret rfl
theorem z1K (b:Bool) (h:σ[p]?=some (dob s a d b)):Ans Tryz.prog 217 [.ptr p 0] σ (.tup []) (σ.set p (dob s a d true)):=by
 refine Ans.of_run t217 ?_
 simp -implicitDefEqProofs only[c217,r217,h,go_sem]
 exact Fini.normal2 (n:=0) rfl rfl rfl
theorem z7h (c:Nat) (hc:c<256):Ans Tryz.prog 218 [B8 c] σ (.agg ((oneS c).map U)) σ:=by
 have e1:IntKind.u8.wrap ((c:Int).tdiv 64)=((c/64:Nat):Int):=by
  rw[show(c:Int).tdiv 64=((c/64:Nat):Int) from rfl]
  simp only[IntKind.wrap,IntKind.bits,IntKind.signed];simp;omega
 have e2:(c:Int).tmod 64=((c%64:Nat):Int):=rfl
 have e3:((64:Int)=0)=False:=by simp
 have e4:(((c/64:Nat):Int)<(4:Nat))=True:=by simp;omega
 have hk:c/64<4:=by omega
 have k0:∀(x y:Ob),(σ++[x,y])[σ.length]?=some x:=fun x y=>by rw[List.getElem?_append_right (by simp)];simp
 have k1:∀(x y:Ob),(σ++[x,y])[σ.length+1]?=some y:=fun x y=>by rw[List.getElem?_append_right (by simp)];simp
 have s0:∀(x y z:Ob),(σ++[x,y]).set σ.length z=σ++[z,y]:=fun x y z=>by rw[List.set_append_right _ _ (by simp)];simp
 have s1:∀(x y z:Ob),(σ++[x,y]).set (σ.length+1) z=σ++[x,z]:=fun x y z=>by rw[List.set_append_right _ _ (by simp)];simp
 refine Ans.of_run' t218 (fun hbel _=>?_)
 have hb:=z2T σ.length (oneS c)
 unfold oneS at hb⊢
 have e5:IntKind.u64.wrap ((c%64:Nat):Int)=((c%64:Nat):Int):=by
  simp only[IntKind.wrap,IntKind.bits,IntKind.signed];simp;omega
 simp -implicitDefEqProofs only[c218,r218,go_sem,e1,e2,e3,e4,e5,Nat.mul_one,k0,k1,s0,s1,List.append_assoc,List.length_append]
 generalize hw:bitU (c%64)=w at hb⊢
 have hw':IntKind.u64.wrap (1*2^min (c%64) 64)=w:=hw
 rw[hw']
 generalize c/64=k at hk hb⊢
 match k,hk with
 |0,_ =>
  simp -implicitDefEqProofs only[go_sem,k0,k1,s0,s1]
  exact Fini.trim2 (σ':=σ) (ex:=[_,_]) (by simp -implicitDefEqProofs only[go_sem,resA,z03,rvA,oneOf,k0]) rfl (Nat.le_refl _) hb hbel
 |1,_ =>
  simp -implicitDefEqProofs only[go_sem,k0,k1,s0,s1]
  exact Fini.trim2 (σ':=σ) (ex:=[_,_]) (by simp -implicitDefEqProofs only[go_sem,resA,z03,rvA,oneOf,k0]) rfl (Nat.le_refl _) hb hbel
 |2,_ =>
  simp -implicitDefEqProofs only[go_sem,k0,k1,s0,s1]
  exact Fini.trim2 (σ':=σ) (ex:=[_,_]) (by simp -implicitDefEqProofs only[go_sem,resA,z03,rvA,oneOf,k0]) rfl (Nat.le_refl _) hb hbel
 |3,_ =>
  simp -implicitDefEqProofs only[go_sem,k0,k1,s0,s1]
  exact Fini.trim2 (σ':=σ) (ex:=[_,_]) (by simp -implicitDefEqProofs only[go_sem,resA,z03,rvA,oneOf,k0]) rfl (Nat.le_refl _) hb hbel
theorem z6H (hs:s.size≤40) (h:σ[p]?=some (dob s a d false)):Ans Tryz.prog 224 [.ptr p 0] σ (B8 (z0e s a).1) (σ.set p (dob s (z0e s a).2.1 d (z0e s a).2.2)):=by
 have hp:p<σ.length:=(List.getElem?_eq_some_iff.1 h).1
 have hg:∀o,(σ.set p o)[p]?=some o:=fun o=>by simp[hp]
 refine Ans.of_run t224 ?_
 simp -implicitDefEqProofs only[c224,r224,h,go_sem]
 refine CO.intro (z5m σ p s a d false h) ?_
 unfold z0e
 cases ho:over s a false with
 |true =>
  simp -implicitDefEqProofs only[go_sem]
  refine CO.intro (z1K σ p s a d false h) ?_
  simp -implicitDefEqProofs only[go_sem]
  exact Fini.ret rfl
 |false =>
  have hlt:=z0P ho
  have h1:(a:Int)<s.size:=by omega
  have k92:(((byteAt s a:Nat):Int)==92)=(byteAt s a==92):=z0c _ 92
  have k93:(((byteAt s a:Nat):Int)==93)=(byteAt s a==93):=z0c _ 93
  have k91:(((byteAt s a:Nat):Int)==91)=(byteAt s a==91):=z0c _ 91
  have k94:(((byteAt s a:Nat):Int)==94)=(byteAt s a==94):=z0c _ 94
  have k45:(((byteAt s a:Nat):Int)==45)=(byteAt s a==45):=z0c _ 45
  simp -implicitDefEqProofs only[go_sem,h,h1,z04,z0j (show a≤4294967296 by omega),k92]
  cases hc:byteAt s a==92 with
  |true =>
   simp -implicitDefEqProofs only[go_sem]
   refine CD.intro (z5m _ p s (a+1) d false (hg _)) ?_
   cases ho2:over s (a+1) false with
   |true =>
    simp -implicitDefEqProofs only[go_sem,hg]
    refine CO.intro (z1K _ p s (a+1) d false (hg _)) ?_
    simp -implicitDefEqProofs only[go_sem,List.set_set,Bool.true_or]
    exact Fini.ret rfl
   |false =>
    have hlt2:=z0P ho2
    have h2:((a+1:Nat):Int)<s.size:=by omega
    simp -implicitDefEqProofs only[go_sem,hg,h2,z04]
    refine CD.intro (z4M _ (byteAt s (a+1)) (z1c _ _)) ?_
    cases hq:signs.contains (byteAt s (a+1)) with
    |false =>
     simp -implicitDefEqProofs only[go_sem,hg]
     refine CO.intro (z1K _ p s (a+1) d false (hg _)) ?_
     simp -implicitDefEqProofs only[go_sem,List.set_set,Bool.or_true]
     exact Fini.ret rfl
    |true =>
     have h3:IntKind.i64.wrap (((a+1+1:Nat):Int)-1)=((a+1:Nat):Int):=by
      simp only[IntKind.wrap,IntKind.bits,IntKind.signed];simp;omega
     simp -implicitDefEqProofs only[go_sem,hg,List.set_set,z0j (show a+1≤4294967296 by omega),h2,h3,z04,Bool.or_false]
     exact Fini.ret rfl
  |false =>
   rw[←z80]
   simp -implicitDefEqProofs only[go_sem,k93,k91,k94,k45]
   cases h93:byteAt s a==93
   case true =>
    simp -implicitDefEqProofs only[go_sem]
    refine CO.intro (z1K _ p s (a+1) d false (hg _)) ?_
    simp -implicitDefEqProofs only[go_sem,List.set_set,Bool.true_or]
    exact Fini.ret rfl
   simp -implicitDefEqProofs only[go_sem,k91]
   cases h91:byteAt s a==91
   case true =>
    simp -implicitDefEqProofs only[go_sem]
    refine CO.intro (z1K _ p s (a+1) d false (hg _)) ?_
    simp -implicitDefEqProofs only[go_sem,List.set_set,Bool.true_or,Bool.or_true]
    exact Fini.ret rfl
   simp -implicitDefEqProofs only[go_sem,k94]
   cases h94:byteAt s a==94
   case true =>
    simp -implicitDefEqProofs only[go_sem]
    refine CO.intro (z1K _ p s (a+1) d false (hg _)) ?_
    simp -implicitDefEqProofs only[go_sem,List.set_set,Bool.true_or,Bool.or_true]
    exact Fini.ret rfl
   simp -implicitDefEqProofs only[go_sem,k45]
   cases h45:byteAt s a==45
   case true =>
    simp -implicitDefEqProofs only[go_sem]
    refine CO.intro (z1K _ p s (a+1) d false (hg _)) ?_
    simp -implicitDefEqProofs only[go_sem,List.set_set,Bool.true_or,Bool.or_true]
    exact Fini.ret rfl
   simp -implicitDefEqProofs only[go_sem,Bool.or_self]
   exact Fini.ret rfl
end
end Go.Proofs.YtmkmhhjkdaklbaaGreat
