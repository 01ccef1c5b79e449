/- The document's parser of patterns: ways, and the whole. No condition. -/
import Derived.Test.YtmkmhhjkdaklbaaGreatXPDoc3x
import Derived.Test.YtmkmhhjkdaklbaaGreatXMCode2x
import Derived.Test.YtmkmhhjkdaklbaaGreatXMCode1x
import Derived.Test.YtmkmhhjkdaklbaaGreatXMt1x
import Derived.Test.YtmkmhhjkdaklbaaGreatProg
import Derived.Test.YtmkmhhjkdaklbaaGreatAbStepx
import Derived.Test.YtmkmhhjkdaklbaaGreatRows
import Derived.Test.YtmkmhhjkdaklbaaGreatAbArgx
set_option linter.unusedSimpArgs false
set_option linter.unusedVariables false
set_option linter.unusedSectionVars false
namespace Go.Proofs.YtmkmhhjkdaklbaaGreat
open Go Go.Ab
set_option maxRecDepth 100000
open Rex
def dwayL (s:ByteArray) (F:DF):Nat→List Rex→Nat→Nat→Bool→List Rex×Nat×Nat×Bool
 |0,K,a,d,b=>(K,a,d,b)
 |n+1,K,a,d,b=>if wGo s a b then dwayL s F n (K++[(F a).1]) (F a).2.1 (F a).2.2.1 (F a).2.2.2 else(K,a,d,b)
def dway (s:ByteArray) (F:DF) (d:Nat):DF:=fun a =>
 (one 2 (dwayL s F (s.size+1) [] a d false).1,(dwayL s F (s.size+1) [] a d false).2)
def z2a (s:ByteArray) (F:DF):Nat→List Rex→Nat→Nat→Bool→List Rex×Nat×Nat×Bool
 |0,K,a,d,b=>(K,a,d,b)
 |n+1,K,a,d,b=>if sees s a b 124 then z2a s F n (K++[(F (a+1)).1]) (F (a+1)).2.1 (F (a+1)).2.2.1 (F (a+1)).2.2.2 else(K,a,d,b)
def dways (s:ByteArray) (F:DF):DF:=fun a =>
 (one 3 (z2a s F (s.size+1) [(F a).1] (F a).2.1 (F a).2.2.1 (F a).2.2.2).1,(z2a s F (s.size+1) [(F a).1] (F a).2.1 (F a).2.2.1 (F a).2.2.2).2)
def dlvl (s:ByteArray) (W:DF) (d:Nat):DF:=dways s (dway s (z3a s (datom s W d)) d)
def DW (s:ByteArray):Nat→DF
 |0=>dlvl s (fun a=>(zeroR,a,0,false)) 8
 |k+1=>dlvl s (DW s k) (7-k)
def z82 (s:ByteArray):Rex×Bool :=
 if decide (40<s.size) then(zeroR,false)
 else if(DW s 8 0).2.2.2||decide ((DW s 8 0).2.1<s.size) then(zeroR,false) else((DW s 8 0).1,true)
structure DOK (g:Nat) (d:Nat) (F:DF):Prop where
 ge:∀a,a+g≤(F a).2.1
 deep:∀a,(F a).2.2.2=false→(F a).2.2.1=d
theorem z6B (s:ByteArray):∀(k:Nat) (S:List Int) (a:Nat) (b:Bool) (n:Nat),a≤(z0M s k S a b n).2.1
 |0,S,a,b,n=>Nat.le_refl _
 |k+1,S,a,b,n=>by
  rw[z0M];split
  · exact Nat.le_trans (Nat.le_trans (z6x s a) (zcf s a)) (z6B s k _ _ _ _)
  · exact Nat.le_refl _
theorem zci (s:ByteArray) (a:Nat):a≤(z1z s a).2.1:=by
 have h:=Nat.le_trans (z37 s a false 94) (z6B s (s.size+3) z4 (nextA s a false 94) false 0);unfold z1z dOut;split
 · exact h
 · exact Nat.le_succ_of_le h
theorem z4a (s:ByteArray) {F:DF} {d:Nat} (h:∀a,a≤(F a).2.1):DOK 1 d (datom s F d):=by
 constructor
 · intro a;have h1:=h (a+1);have h2:=zci s (a+1);unfold datom;simp only
   repeat' split
   all_goals simp only
   all_goals omega
 · intro a;unfold datom;simp only
   repeat' split
   all_goals simp
theorem z4b (s:ByteArray) (F:DF) (a:Nat):(z3a s F a).2.2=(F a).2.2∧(F a).2.1≤(z3a s F a).2.1:=by
 unfold z3a;simp only
 repeat' split
 all_goals exact⟨rfl,by simp⟩
theorem z2T (s:ByteArray) {F:DF} {d:Nat} (h:DOK 1 d F):DOK 1 d (z3a s F):=by
 constructor
 · intro a;exact Nat.le_trans (h.ge a) (z4b s F a).2
 · intro a;rw[(z4b s F a).1];exact h.deep a
theorem z77 (s:ByteArray) {F:DF} {d:Nat} (h:DOK 1 d F):∀n K a d0 b,a≤(dwayL s F n K a d0 b).2.1∧((b=false→d0=d)→(dwayL s F n K a d0 b).2.2.2=false→(dwayL s F n K a d0 b).2.2.1=d)
 |0,K,a,d0,b=>⟨Nat.le_refl _,fun h1 h2=>h1 h2⟩
 |n+1,K,a,d0,b=>by
  rw[dwayL];split
  · have h1:=z77 s h n (K++[(F a).1]) (F a).2.1 (F a).2.2.1 (F a).2.2.2;exact⟨Nat.le_trans (Nat.le_trans (Nat.le_succ a) (h.ge a)) h1.1,fun _ h2=>h1.2 (h.deep a) h2⟩
  · exact⟨Nat.le_refl _,fun h1 h2=>h1 h2⟩
theorem z95 (s:ByteArray) {F:DF} {d:Nat} (h:DOK 1 d F):DOK 0 d (dway s F d) :=
 ⟨fun a=>(z77 s h (s.size+1) [] a d false).1,fun a=>(z77 s h (s.size+1) [] a d false).2 (fun _=>rfl)⟩
theorem z5B (s:ByteArray) {F:DF} {d:Nat} (h:DOK 0 d F):∀n K a d0 b,a≤(z2a s F n K a d0 b).2.1∧((b=false→d0=d)→(z2a s F n K a d0 b).2.2.2=false→(z2a s F n K a d0 b).2.2.1=d)
 |0,K,a,d0,b=>⟨Nat.le_refl _,fun h1 h2=>h1 h2⟩
 |n+1,K,a,d0,b=>by
  rw[z2a];split
  · have h1:=z5B s h n (K++[(F (a+1)).1]) (F (a+1)).2.1 (F (a+1)).2.2.1 (F (a+1)).2.2.2;exact⟨Nat.le_trans (Nat.le_trans (Nat.le_succ a) (h.ge (a+1))) h1.1,fun _ h2=>h1.2 (h.deep (a+1)) h2⟩
  · exact⟨Nat.le_refl _,fun h1 h2=>h1 h2⟩
theorem ze0 (s:ByteArray) {F:DF} {d:Nat} (h:DOK 0 d F):DOK 0 d (dways s F):=by
 constructor
 · intro a;exact Nat.le_trans (h.ge a) (z5B s h (s.size+1) [(F a).1] (F a).2.1 (F a).2.2.1 (F a).2.2.2).1
 · intro a;exact(z5B s h (s.size+1) [(F a).1] (F a).2.1 (F a).2.2.1 (F a).2.2.2).2 (h.deep a)
theorem zcj (s:ByteArray) {W:DF} (h:∀a,a≤(W a).2.1) (d:Nat):DOK 0 d (dlvl s W d):=ze0 s (z95 s (z2T s (z4a s h)))
theorem zeZ (s:ByteArray):∀k,DOK 0 (8-k) (DW s k)
 |0=>zcj s (fun a=>Nat.le_refl _) 8
 |k+1=>by
  have:=zcj s (zeZ s k).ge (7-k);rw[show 8-(k+1)=7-k by omega]
  exact this
section
variable (s:ByteArray)
theorem z9Z (F:DF) (d:Nat) (hF:DAns 200 true s d F) (hok:DOK 1 d F):DAns 189 false s d (dway s F d):=by
 intro σ p a hp hs _;refine Ans.of_run' t189 (fun hbel _=>?_)
 have hb2:=z5y hbel;simp -implicitDefEqProofs only[c189,r189,go_sem,List.append_assoc,List.length_append,List.length_set];unfold dway;simp only;have hm:s.size-a<s.size+1:=by omega
 generalize hres:dwayL s F (s.size+1) [] a d false=res
 refine L.intro (α:={ x:Nat×List Rex×Nat×Nat×Bool // dwayL s F x.1 x.2.1 x.2.2.1 x.2.2.2.1 x.2.2.2.2=res∧s.size-x.2.2.1<x.1∧(x.2.2.2.2=false→x.2.2.2.1=d)∧x.2.1.length≤x.2.2.1 })
  (fun x=>x.1.1)
  (fun x=>mkE 43 [(0,.ptr p 0),(2,.ptr σ.length 0),(3,vK σ.length x.1.2.1)])
  (fun x=>σ.set p (dob s x.1.2.2.1 x.1.2.2.2.1 x.1.2.2.2.2)++exK x.1.2.1)
  (fun x J hJ=>?_) ⟨(s.size+1,[],a,d,false),hres,hm,fun _=>rfl,Nat.zero_le _⟩ ?_ ?_
 · obtain⟨⟨n,K,a1,d1,b1⟩,h1,h2,h3,h4⟩:=x;simp only at h1 h2 h3 h4 hJ⊢
   cases n with
   |zero=>omega
   |succ n =>
   rw[dwayL]at h1;have k124:(((byteAt s a1:Nat):Int)==124)=(byteAt s a1==124):=z0j _ 124;have n124:(((byteAt s a1:Nat):Int) != 124)= !(byteAt s a1==124):=by rw[bne,k124]
   have k41:(((byteAt s a1:Nat):Int)==41)=(byteAt s a1==41):=z0j _ 41;have n41:(((byteAt s a1:Nat):Int) != 41)= !(byteAt s a1==41):=by rw[bne,k41]
   cases hgo:wGo s a1 b1 with
   |true =>
    rw[hgo,if_pos rfl]at h1;obtain⟨ha,hb⟩:=zeX hgo;subst hb;have hd1:=h3 rfl;subst hd1;have hov:over s a1 false=false:=by simp[wGo]at hgo;exact hgo.1
    have hs1:(byteAt s a1==124)=false:=by rw[←z0C hov];simp[wGo]at hgo;exact hgo.2.1
    have hs2:(byteAt s a1==41)=false:=by rw[←z0C hov];simp[wGo]at hgo;exact hgo.2.2
    have ha':(a1:Int)<s.size:=by omega
    have hea:=hok.ge a1;have hJ':=hJ ⟨(n,K++[(F a1).1],(F a1).2.1,(F a1).2.2.1,(F a1).2.2.2),h1,by simp only;omega,hok.deep a1,by simp;omega⟩ (Nat.lt_succ_self n)
    simp only[z4U,z74]at hJ';clear hJ h1 hgo;simp -implicitDefEqProofs only[mkE,go_sem];refine CD.intro (z1s hp a1 d1 false _) ?_;simp -implicitDefEqProofs only[go_sem,hov,gA hp,sA hp,gL0,sL0,gL1,sL1,ha',z06,k124,n124,hs1,k41,n41,hs2];refine CO.intro (hF.ex hp a1 hs (fun _=>ha) _) ?_
    generalize F a1=w at hJ' hea⊢;obtain⟨x,a2,d2,b2⟩:=w;simp only at hJ' hea⊢;rw[rv_eq x]at hJ'⊢;rcases K with _|⟨y,K⟩
    all_goals rcases rvK_cases x.ks with hK|⟨l,hK⟩
    all_goals rw[hK]at hJ'⊢
    all_goals first
    |(simp -implicitDefEqProofs only[go_sem,z3o,z4E,gA hp,sA hp,gL0,sL0,gL1,sL1]at hJ'⊢
      simpa[mkE] using hJ')
    |(have g1:(K.length+1+1≤2^32)=True:=by simp at h4;simp;omega
      simp -implicitDefEqProofs only[go_sem,z0z,z0T,gA hp,sA hp,gL0,sL0,gL1,sL1,List.length_map,g1]at hJ'⊢
      simpa[mkE] using hJ')
   |false =>
    rw[hgo,if_neg Bool.false_ne_true]at h1;subst h1;clear hJ h2
    have hex:over s a1 b1=true∨(over s a1 b1=false∧b1=false∧(byteAt s a1==124)=true)∨(over s a1 b1=false∧b1=false∧(byteAt s a1==124)=false∧(byteAt s a1==41)=true):=by
     cases h1:over s a1 b1
     · have hb:b1=false:=by cases b1<;>simp[over]at h1⊢
       subst hb;unfold wGo at hgo;rw[z0C h1,z0C h1,h1]at hgo;cases h2:byteAt s a1==124<;>cases h3:byteAt s a1==41<;>simp[h2,h3]at hgo⊢
     · exact .inl rfl
    have hend:True:=trivial;rcases hex with ho|⟨ho,hb,h5⟩|⟨ho,hb,h5,h6⟩
    · simp -implicitDefEqProofs only[mkE,go_sem];refine CD.intro (z1s hp a1 d1 b1 _) ?_;simp -implicitDefEqProofs only[go_sem,ho];rcases K with _|⟨y,_|⟨z,K⟩⟩
      · simp -implicitDefEqProofs only[go_sem,z3o,z4E,gA hp,sA hp,gL0,sL0,gL1,sL1];refine Fini.trim2 (ex:=[_]) ?_ rfl ?_ (z0d _ _) (hb2 _ _ _)
        · ((try simp -implicitDefEqProofs only[go_sem,resA,z02,rvA,oneOf,gL0]);first|done|rfl|(rw[z1j];rfl)|rw[rv_eq,hK])
        · simp
      · have g3:(((1:Nat):Int)==1)=true:=rfl;have g4:((0:Int)<((1:Nat):Int))=True:=by simp
        have hbx:∀n,Bel n y.rv:=fun n=>z0d n y
        rw[z0z,z0T,List.map_cons,List.map_nil,show(one 2 [y])=y from rfl]
        rw[rv_eq y]at hbx⊢;rcases rvK_cases y.ks with hK|⟨l,hK⟩
        all_goals rw[hK]at hbx⊢
        all_goals simp -implicitDefEqProofs only[go_sem,gA hp,sA hp,gL0,sL0,gL1,sL1,List.length_map,g3,g4,Int.toNat_zero]
        all_goals (
         refine Fini.trim2 (ex:=[_,_]) ?_ rfl ?_ (hbx _) (hb2 _ _ _)
         · ((try simp -implicitDefEqProofs only[go_sem,resA,z02,rvA,oneOf,gL0]);first|done|rfl|(rw[z1j];rfl)|rw[rv_eq,hK])
         · simp)
      · rw[z0z,z0T];have g2:(((K.length+1+1:Nat):Int)==1)=false:=by simp;omega
        simp -implicitDefEqProofs only[go_sem,gA hp,sA hp,gL0,sL0,gL1,sL1,List.length_map,g2];refine Fini.trim2 (ex:=[_,_]) ?_ rfl ?_ (z0d _ _) (hb2 _ _ _)
        · ((try simp -implicitDefEqProofs only[go_sem,resA,z02,rvA,oneOf,gL0]);first|done|rfl|(rw[z1j];rfl)|rw[rv_eq,hK])
        · simp
    · subst hb;have hlt:=z1g ho;have ha':(a1:Int)<s.size:=by omega
      simp -implicitDefEqProofs only[mkE,go_sem];refine CD.intro (z1s hp a1 d1 false _) ?_;simp -implicitDefEqProofs only[go_sem,ho,gA hp,sA hp,gL0,sL0,gL1,sL1,ha',z06,k124,n124,h5];rcases K with _|⟨y,_|⟨z,K⟩⟩
      · simp -implicitDefEqProofs only[go_sem,z3o,z4E,gA hp,sA hp,gL0,sL0,gL1,sL1];refine Fini.trim2 (ex:=[_]) ?_ rfl ?_ (z0d _ _) (hb2 _ _ _)
        · ((try simp -implicitDefEqProofs only[go_sem,resA,z02,rvA,oneOf,gL0]);first|done|rfl|(rw[z1j];rfl)|rw[rv_eq,hK])
        · simp
      · have g3:(((1:Nat):Int)==1)=true:=rfl;have g4:((0:Int)<((1:Nat):Int))=True:=by simp
        have hbx:∀n,Bel n y.rv:=fun n=>z0d n y
        rw[z0z,z0T,List.map_cons,List.map_nil,show(one 2 [y])=y from rfl]
        rw[rv_eq y]at hbx⊢;rcases rvK_cases y.ks with hK|⟨l,hK⟩
        all_goals rw[hK]at hbx⊢
        all_goals simp -implicitDefEqProofs only[go_sem,gA hp,sA hp,gL0,sL0,gL1,sL1,List.length_map,g3,g4,Int.toNat_zero]
        all_goals (
         refine Fini.trim2 (ex:=[_,_]) ?_ rfl ?_ (hbx _) (hb2 _ _ _)
         · ((try simp -implicitDefEqProofs only[go_sem,resA,z02,rvA,oneOf,gL0]);first|done|rfl|(rw[z1j];rfl)|rw[rv_eq,hK])
         · simp)
      · rw[z0z,z0T];have g2:(((K.length+1+1:Nat):Int)==1)=false:=by simp;omega
        simp -implicitDefEqProofs only[go_sem,gA hp,sA hp,gL0,sL0,gL1,sL1,List.length_map,g2];refine Fini.trim2 (ex:=[_,_]) ?_ rfl ?_ (z0d _ _) (hb2 _ _ _)
        · ((try simp -implicitDefEqProofs only[go_sem,resA,z02,rvA,oneOf,gL0]);first|done|rfl|(rw[z1j];rfl)|rw[rv_eq,hK])
        · simp
    · subst hb;have hlt:=z1g ho;have ha':(a1:Int)<s.size:=by omega
      simp -implicitDefEqProofs only[mkE,go_sem];refine CD.intro (z1s hp a1 d1 false _) ?_;simp -implicitDefEqProofs only[go_sem,ho,gA hp,sA hp,gL0,sL0,gL1,sL1,ha',z06,k124,n124,h5,k41,n41,h6];rcases K with _|⟨y,_|⟨z,K⟩⟩
      · simp -implicitDefEqProofs only[go_sem,z3o,z4E,gA hp,sA hp,gL0,sL0,gL1,sL1];refine Fini.trim2 (ex:=[_]) ?_ rfl ?_ (z0d _ _) (hb2 _ _ _)
        · ((try simp -implicitDefEqProofs only[go_sem,resA,z02,rvA,oneOf,gL0]);first|done|rfl|(rw[z1j];rfl)|rw[rv_eq,hK])
        · simp
      · have g3:(((1:Nat):Int)==1)=true:=rfl;have g4:((0:Int)<((1:Nat):Int))=True:=by simp
        have hbx:∀n,Bel n y.rv:=fun n=>z0d n y
        rw[z0z,z0T,List.map_cons,List.map_nil,show(one 2 [y])=y from rfl]
        rw[rv_eq y]at hbx⊢;rcases rvK_cases y.ks with hK|⟨l,hK⟩
        all_goals rw[hK]at hbx⊢
        all_goals simp -implicitDefEqProofs only[go_sem,gA hp,sA hp,gL0,sL0,gL1,sL1,List.length_map,g3,g4,Int.toNat_zero]
        all_goals (
         refine Fini.trim2 (ex:=[_,_]) ?_ rfl ?_ (hbx _) (hb2 _ _ _)
         · ((try simp -implicitDefEqProofs only[go_sem,resA,z02,rvA,oneOf,gL0]);first|done|rfl|(rw[z1j];rfl)|rw[rv_eq,hK])
         · simp)
      · rw[z0z,z0T];have g2:(((K.length+1+1:Nat):Int)==1)=false:=by simp;omega
        simp -implicitDefEqProofs only[go_sem,gA hp,sA hp,gL0,sL0,gL1,sL1,List.length_map,g2];refine Fini.trim2 (ex:=[_,_]) ?_ rfl ?_ (z0d _ _) (hb2 _ _ _)
        · ((try simp -implicitDefEqProofs only[go_sem,resA,z02,rvA,oneOf,gL0]);first|done|rfl|(rw[z1j];rfl)|rw[rv_eq,hK])
        · simp
 · simp[mkE,vK]
 · rfl
theorem z83 (F:DF) (d:Nat) (hF:DAns 189 false s d F) (hok:DOK 0 d F):DAns 180 false s d (dways s F):=by
 intro σ p a hp hs hg;refine Ans.of_run' t180 (fun hbel _=>?_)
 have hb2:=z5y hbel;simp -implicitDefEqProofs only[c180,r180,go_sem,List.append_assoc,List.length_append,List.length_set];unfold dways;simp only;refine CO.intro (hF.ex hp a hs hg _) ?_;have hd0:=hok.deep a;generalize F a=w0 at hd0⊢;obtain⟨x0,a0,d0,b0⟩:=w0;simp only at hd0⊢;have hm:s.size-a0<s.size+1:=by omega
 generalize hres:z2a s F (s.size+1) [x0] a0 d0 b0=res;rw[rv_eq x0];rcases rvK_cases x0.ks with hK0|⟨l0,hK0⟩
 all_goals rw[hK0]
 all_goals simp -implicitDefEqProofs only[go_sem,gA hp,sA hp,gL0,sL0,gL1,sL1,List.append_assoc,List.length_append,List.length_set]
 all_goals (
  refine L.intro (α:={ x:Nat×List Rex×Nat×Nat×Bool // z2a s F x.1 x.2.1 x.2.2.1 x.2.2.2.1 x.2.2.2.2=res∧s.size-x.2.2.1<x.1∧(x.2.2.2.2=false→x.2.2.2.1=d)∧x.2.1.length≤x.2.2.1+1∧x.2.1≠[] })
   (fun x=>x.1.1)
   (fun x=>mkE 41 [(0,.ptr p 0),(2,.ptr σ.length 0),(3,vK σ.length x.1.2.1)])
   (fun x=>σ.set p (dob s x.1.2.2.1 x.1.2.2.2.1 x.1.2.2.2.2)++exK x.1.2.1)
   (fun x J hJ=>?_) ⟨(s.size+1,[x0],a0,d0,b0),hres,hm,hd0,by simp,by simp⟩ ?_ ?_)
 all_goals try (simp[mkE,vK];done)
 all_goals try (simp only[z0z,List.map_cons,List.map_nil,rv_eq x0,hK0];done)
 all_goals (
  obtain⟨⟨n,K,a1,d1,b1⟩,h1,h2,h3,h4,h5⟩:=x;simp only at h1 h2 h3 h4 h5 hJ⊢;rcases n with _|n
  · omega
  rw[z2a]at h1;have k124:(((byteAt s a1:Nat):Int)==124)=(byteAt s a1==124):=z0j _ 124;have n124:(((byteAt s a1:Nat):Int) != 124)= !(byteAt s a1==124):=by rw[bne,k124]
  cases hgo:sees s a1 b1 124
  · rw[hgo,if_neg Bool.false_ne_true]at h1;subst h1;clear hJ h2;simp -implicitDefEqProofs only[mkE,go_sem];refine CD.intro (z1s hp a1 d1 b1 _) ?_;cases ho:over s a1 b1
    · have hb:b1=false:=by cases b1<;>simp[over]at ho⊢
      subst hb;have hlt:=z1g ho;have ha':(a1:Int)<s.size:=by omega
      rw[z0C ho]at hgo;simp -implicitDefEqProofs only[go_sem,ho,gA hp,sA hp,gL0,sL0,gL1,sL1,ha',z06,k124,n124,hgo];rcases K with _|⟨y,_|⟨z,K⟩⟩
      · exact absurd rfl h5
      · have g3:(((1:Nat):Int)==1)=true:=rfl;have g4:((0:Int)<((1:Nat):Int))=True:=by simp
        have hbx:∀n,Bel n y.rv:=fun n=>z0d n y
        rw[z0z,z0T,List.map_cons,List.map_nil,show(one 3 [y])=y from rfl]
        rw[rv_eq y]at hbx⊢;rcases rvK_cases y.ks with hK|⟨l,hK⟩
        all_goals rw[hK]at hbx⊢
        all_goals simp -implicitDefEqProofs only[go_sem,gA hp,sA hp,gL0,sL0,gL1,sL1,List.length_map,g3,g4,Int.toNat_zero]
        all_goals (
         refine Fini.trim2 (ex:=[_,_]) ?_ rfl ?_ (hbx _) (hb2 _ _ _)
         · ((try simp -implicitDefEqProofs only[go_sem,resA,z02,rvA,oneOf,gL0]);first|done|rfl|(rw[z1j];rfl)|rw[rv_eq,hK])
         · simp)
      · rw[z0z,z0T];have g2:(((K.length+1+1:Nat):Int)==1)=false:=by simp;omega
        simp -implicitDefEqProofs only[go_sem,gA hp,sA hp,gL0,sL0,gL1,sL1,List.length_map,g2];refine Fini.trim2 (ex:=[_,_]) ?_ rfl ?_ (z0d _ _) (hb2 _ _ _)
        · ((try simp -implicitDefEqProofs only[go_sem,resA,z02,rvA,oneOf,gL0]);first|done|rfl|(rw[z1j];rfl)|rw[rv_eq,hK])
        · simp
    · simp -implicitDefEqProofs only[go_sem,ho];rcases K with _|⟨y,_|⟨z,K⟩⟩
      · exact absurd rfl h5
      · have g3:(((1:Nat):Int)==1)=true:=rfl;have g4:((0:Int)<((1:Nat):Int))=True:=by simp
        have hbx:∀n,Bel n y.rv:=fun n=>z0d n y
        rw[z0z,z0T,List.map_cons,List.map_nil,show(one 3 [y])=y from rfl]
        rw[rv_eq y]at hbx⊢;rcases rvK_cases y.ks with hK|⟨l,hK⟩
        all_goals rw[hK]at hbx⊢
        all_goals simp -implicitDefEqProofs only[go_sem,gA hp,sA hp,gL0,sL0,gL1,sL1,List.length_map,g3,g4,Int.toNat_zero]
        all_goals (
         refine Fini.trim2 (ex:=[_,_]) ?_ rfl ?_ (hbx _) (hb2 _ _ _)
         · ((try simp -implicitDefEqProofs only[go_sem,resA,z02,rvA,oneOf,gL0]);first|done|rfl|(rw[z1j];rfl)|rw[rv_eq,hK])
         · simp)
      · rw[z0z,z0T];have g2:(((K.length+1+1:Nat):Int)==1)=false:=by simp;omega
        simp -implicitDefEqProofs only[go_sem,gA hp,sA hp,gL0,sL0,gL1,sL1,List.length_map,g2];refine Fini.trim2 (ex:=[_,_]) ?_ rfl ?_ (z0d _ _) (hb2 _ _ _)
        · ((try simp -implicitDefEqProofs only[go_sem,resA,z02,rvA,oneOf,gL0]);first|done|rfl|(rw[z1j];rfl)|rw[rv_eq,hK])
        · simp
  · rw[hgo,if_pos rfl]at h1;obtain⟨ha,hb⟩:=z90 hgo;subst hb;have hd1:=h3 rfl;subst hd1
    have ho:over s a1 false=false:=by
     cases h:over s a1 false
     · rfl
     · simp[sees,h]at hgo
    have ha':(a1:Int)<s.size:=by omega
    have hea:=hok.ge (a1+1);have hJ':=hJ ⟨(n,K++[(F (a1+1)).1],(F (a1+1)).2.1,(F (a1+1)).2.2.1,(F (a1+1)).2.2.2),h1,by simp only;omega,hok.deep (a1+1),by simp;omega,by simp⟩ (Nat.lt_succ_self n)
    simp only[z4U,z74]at hJ';clear hJ h1;rw[z0C ho]at hgo;simp -implicitDefEqProofs only[mkE,go_sem];refine CD.intro (z1s hp a1 d1 false _) ?_;simp -implicitDefEqProofs only[go_sem,ho,gA hp,sA hp,gL0,sL0,gL1,sL1,ha',z06,k124,n124,hgo,z0L (show a1≤4294967296 by omega)]
    refine CO.intro (hF.ex hp (a1+1) hs (fun h=>absurd h Bool.false_ne_true) _) ?_
    generalize F (a1+1)=w at hJ' hea⊢;obtain⟨x,a2,d2,b2⟩:=w;simp only at hJ' hea⊢;rw[rv_eq x]at hJ'⊢;rcases K with _|⟨y,K⟩
    · exact absurd rfl h5
    have g1:(K.length+1+1≤2^32)=True:=by simp at h4;simp;omega
    rcases rvK_cases x.ks with hK|⟨l,hK⟩
    all_goals rw[hK]at hJ'⊢
    all_goals (
     simp -implicitDefEqProofs only[go_sem,z0z,z0T,gA hp,sA hp,gL0,sL0,gL1,sL1,List.length_map,g1]at hJ'⊢
     simpa[mkE] using hJ'))
theorem zf0:∀k,k≤8→DAns 180 false s (8-k) (DW s k)
 |0,_=>z83 s _ 8 (z9Z s _ 8 (z5A s _ 8 (z81 s _ 8 (Nat.le_refl _) (fun h=>absurd h (Nat.lt_irrefl _)) (fun h=>absurd h (Nat.lt_irrefl _))))
  (z2T s (z4a s (fun a=>Nat.le_refl _)))) (z95 s (z2T s (z4a s (fun a=>Nat.le_refl _))))
 |k+1,h=>by
  have ih:=zf0 k (by omega)
  have hk:=zeZ s k;have e:8-(k+1)=7-k:=by omega
  have e2:8-k=7-k+1:=by omega
  rw[e2]at ih hk;rw[e]
  exact z83 s _ (7-k) (z9Z s _ (7-k) (z5A s _ (7-k) (z81 s _ (7-k) (by omega) (fun _=>ih) (fun _=>hk.deep)))
   (z2T s (z4a s hk.ge))) (z95 s (z2T s (z4a s hk.ge)))
theorem zaV (σ:St):Ans Tryz.prog 170 [Sx s] σ (.tup [(z82 s).1.rv,Bo (z82 s).2]) σ:=by
 have hw:s.size≤40→Ans Tryz.prog 180 [.ptr (σ.length+1) 0] (σ++[box0,dob s 0 0 false]) (DW s 8 0).1.rv (σ++[box0,dob s (DW s 8 0).2.1 (DW s 8 0).2.2.1 (DW s 8 0).2.2.2]):=by
  intro hs;have:=zf0 s 8 (Nat.le_refl _) (σ++[box0,dob s 0 0 false]) (σ.length+1) 0 (by simp) hs (fun h=>absurd h Bool.false_ne_true)
  have e:∀o,(σ++[box0,dob s 0 0 false]).set (σ.length+1) o=σ++[box0,o]:=fun o=>by rw[List.set_append_right _ _ (by omega)];simp
  rwa [e,e]at this
 have e40:decide ((40:Int)<(s.size:Int))=decide (40<s.size):=by rw[Bool.eq_iff_iff];simp;omega
 have k0:∀(x y:Ob) (ex:St),(σ++x::y::ex)[σ.length]?=some x:=fun x y ex=>by rw[List.getElem?_append_right (by simp)];simp
 have k0':∀(x:Ob),(σ++[x])[σ.length]?=some x:=fun x=>by rw[List.getElem?_append_right (by simp)];simp
 have k1:∀(x y:Ob) (ex:St),(σ++x::y::ex)[σ.length+1]?=some y:=fun x y ex=>by rw[List.getElem?_append_right (by simp)];simp
 have s0:∀(x z:Ob) (ex:St),(σ++x::ex).set σ.length z=σ++z::ex:=fun x z ex=>by rw[List.set_append_right _ _ (by simp)];simp
 refine Ans.of_run' t170 (fun hbel _=>?_)
 simp -implicitDefEqProofs only[c170,r170,go_sem,List.append_assoc,List.length_append,e40];unfold z82
 cases h40:decide (40<s.size) with
 |true =>
  simp -implicitDefEqProofs only[go_sem,k0',s0];refine Fini.trim2 (σ':=σ) (ex:=[_]) ?_ rfl (Nat.le_refl _) ?_ hbel
  · simp -implicitDefEqProofs only[go_sem,resA,z02,rvA,oneOf,k0'];rfl
  · exact z39 (z0d _ zeroR) _
 |false =>
  have hs:s.size≤40:=by
   have:¬40<s.size:=by simpa using h40
   omega
  simp -implicitDefEqProofs only[go_sem,List.append_assoc,List.length_append];refine CO.intro (hw hs) ?_;generalize DW s 8 0=w;obtain⟨x,a,d,b⟩:=w;simp only;have eL:decide ((a:Int)<(s.size:Int))=decide (a<s.size):=by rw[Bool.eq_iff_iff];simp
  have hbx:∀n,Bel n x.rv:=fun n=>z0d n x
  rw[rv_eq x];have hrx:=rv_eq x;rcases rvK_cases x.ks with hK|⟨l,hK⟩
  all_goals (
   rw[hK]at hrx⊢;cases b
   · cases hlt:decide (a<s.size)
     · simp -implicitDefEqProofs only[go_sem,k0,k1,s0,List.append_assoc,List.length_append,eL,hlt,Bool.or_self,hrx];rw[hrx]at hbx;refine Fini.trim2 (σ':=σ) (ex:=[_,_]) ?_ rfl (Nat.le_refl _) ?_ hbel
       · simp -implicitDefEqProofs only[go_sem,resA,z02,rvA,oneOf,k0]
       · exact z39 (hbx _) _
     · simp -implicitDefEqProofs only[go_sem,k0,k1,s0,List.append_assoc,List.length_append,eL,hlt,Bool.or_true];refine Fini.trim2 (σ':=σ) (ex:=[_,_]) ?_ rfl (Nat.le_refl _) ?_ hbel
       · simp -implicitDefEqProofs only[go_sem,resA,z02,rvA,oneOf,k0];rfl
       · exact z39 (z0d _ zeroR) _
   · simp -implicitDefEqProofs only[go_sem,k0,k1,s0,List.append_assoc,List.length_append,Bool.true_or];refine Fini.trim2 (σ':=σ) (ex:=[_,_]) ?_ rfl (Nat.le_refl _) ?_ hbel
     · simp -implicitDefEqProofs only[go_sem,resA,z02,rvA,oneOf,k0];rfl
     · exact z39 (z0d _ zeroR) _)
end
theorem z2u (s:ByteArray) (a:Nat):pbyte s a false=if over s a false then(0,a,true) else(byteAt s a,a+1,false):=rfl
theorem ze1:∀c:Nat,c<256→(c==92)=false→within2.contains c=within.contains c:=by decide +kernel
theorem z5C (s:ByteArray) (a:Nat):(z0m s a).2.2=(z07 s a false).2.2∧((z0m s a).2.2=false→z0m s a=z07 s a false):=by
 unfold z0m z07;rw[z2u]
 cases ho:over s a false with
 |true=>simp
 |false =>
  simp only[Bool.false_eq_true,if_false]
  cases hc:byteAt s a==92 with
  |true =>
   simp only[if_true];unfold psign;rw[z2u]
   cases ho2:over s (a+1) false with
   |true=>simp
   |false =>
    simp only[Bool.false_eq_true,if_false,Bool.false_or];cases signs.contains (byteAt s (a+1))<;>simp
  |false =>
   simp only[Bool.false_eq_true,if_false,Bool.false_or];rw[ze1 _ (z1O s a) hc];exact⟨rfl,fun h=>rfl⟩
theorem zck (s:ByteArray) (a:Nat):(dTo s a).2.2=(cTo s a false).2.2∧((dTo s a).2.2=false→dTo s a=cTo s a false∧z0m s a=z07 s a false):=by
 have h:=z5C s a;unfold dTo cTo
 cases hb:(z0m s a).2.2 with
 |true =>
  have hb':(z07 s a false).2.2=true:=by rw[←h.1];exact hb
  rw[hb',z29,z29];simp[hb,hb']
 |false =>
  have e:=h.2 hb;rw[←e,hb]
  cases hse:sees s (z0m s a).2.1 false 45 with
  |true =>
   have h2:=z5C s ((z0m s a).2.1+1);simp only[if_true];exact⟨h2.1,fun hg=>⟨h2.2 hg,trivial⟩⟩
  |false =>
   simp only[Bool.false_eq_true,if_false];exact⟨trivial,fun _=>⟨trivial,trivial⟩⟩
theorem ze2 (s:ByteArray) (a:Nat):dBad s a=cBad s a false:=by
 have h:=zck s a;unfold dBad cBad
 cases hb:(dTo s a).2.2 with
 |true=>rw[←h.1,hb];simp
 |false =>
  have e:=h.2 hb;rw[←e.1,←e.2,hb]
theorem z5D (s:ByteArray) (k:Nat) (S:List Int) (a:Nat):z19 s k S a true false=(S,a,true):=by
 cases k with
 |zero=>rfl
 |succ k=>rw[z19];simp[cGo,over]
theorem z4G (s:ByteArray) (k:Nat) (S:List Int) (a n:Nat):z0M s k S a true n=(S,a,true,n):=by
 cases k with
 |zero=>rfl
 |succ k=>rw[z0M];simp[dGo,over]
theorem zf1 (s:ByteArray) (a:Nat):cGo s a false false=dGo s a false:=by simp[cGo,dGo]
theorem z3S (s:ByteArray):∀(k:Nat) (S:List Int) (a n:Nat),
  (z0M s k S a false n).2.2.1=(z19 s k S a false false).2.2∧n≤(z0M s k S a false n).2.2.2 ∧
  ((z0M s k S a false n).2.2.1=false→(z0M s k S a false n).1=(z19 s k S a false false).1∧(z0M s k S a false n).2.1=(z19 s k S a false false).2.1)
 |0,S,a,n=>⟨rfl,Nat.le_refl _,fun _=>⟨rfl,rfl⟩⟩
 |k+1,S,a,n=>by
  rw[z0M,z19,zf1]
  cases hg:dGo s a false with
  |false=>exact⟨rfl,Nat.le_refl _,fun _=>⟨rfl,rfl⟩⟩
  |true =>
   simp only[if_true];rw[←ze2]
   cases hb:dBad s a with
   |true=>rw[z4G,z5D];exact⟨rfl,Nat.le_succ _,fun h=>absurd h (by simp)⟩
   |false =>
    have hto:(dTo s a).2.2=false:=by
     unfold dBad at hb;cases h:(dTo s a).2.2
     · rfl
     · rw[h]at hb;simp at hb
    have e:=(zck s a).2 hto;rw[←e.1,←e.2];have ih:=z3S s k (addR S (z0m s a).1 ((dTo s a).1+1-(z0m s a).1)) (dTo s a).2.1 (n+1);exact⟨ih.1,Nat.le_trans (Nat.le_succ _) ih.2.1,ih.2.2⟩
theorem z4H (s:ByteArray):∀(k:Nat) (S:List Int) (a:Nat) (b:Bool) (n:Nat),s.size-a<k→dGo s (z0M s k S a b n).2.1 (z0M s k S a b n).2.2.1=false
 |0,S,a,b,n,h=>by omega
 |k+1,S,a,b,n,h=>by
  rw[z0M]
  cases hg:dGo s a b with
  |false=>exact hg
  |true =>
   have ho:over s a b=false:=by
    cases h:over s a b
    · rfl
    · simp[dGo,h]at hg
   have hlt:=z1g ho;have hb:b=false:=by cases b<;>simp[over]at ho⊢
   subst hb;have h1:=z6y s a ho;have h2:=zcf s a;exact z4H s k _ _ _ _ (by omega)
theorem zaW (s:ByteArray) (a:Nat):(z1z s a).2.2=(z28 s a false).2.2∧((z1z s a).2.2=false→(z1z s a).1=ofSet (z28 s a false).1∧(z1z s a).2.1=(z28 s a false).2.1):=by
 have h1:=z3S s (s.size+3) z4 (nextA s a false 94) 0;have h2:=z4H s (s.size+3) z4 (nextA s a false 94) false 0 (by omega)
 unfold z1z dOut z28;simp only
 cases hg:dGo s (nextA s a false 94) false with
 |false =>
  have e:z0M s (s.size+3) z4 (nextA s a false 94) false 0=(z4,nextA s a false 94,false,0):=by rw[z0M,hg];rfl
  have hbad:(z19 s (s.size+3) z4 (nextA s a false 94) false true).2.2=true:=by
   rw[z19];rw[if_pos (show cGo s (nextA s a false 94) false true=true from rfl)]
   have hm:(z07 s (nextA s a false 94) false).2.2=true:=by
    generalize nextA s a false 94=a0 at hg;unfold z07;rw[z2u]
    cases ho:over s a0 false with
    |true=>simp
    |false =>
     have h93:sees s a0 false 93=true:=by simpa[dGo,ho] using hg
     rw[z0C ho]at h93;have e93:byteAt s a0=93:=by simpa using h93
     simp[e93,within]
   have hc:cBad s (nextA s a false 94) false=true:=by
    unfold cBad;rw[z9R s _ false hm];rfl
   rw[hc,z5D]
  rw[e,hbad];simp
 |true =>
  have ef:z19 s (s.size+3) z4 (nextA s a false 94) false true=z19 s (s.size+3) z4 (nextA s a false 94) false false:=by
   have step:∀first,z19 s (s.size+3) z4 (nextA s a false 94) false first=if cGo s (nextA s a false 94) false first then
     z19 s (s.size+2) (addR z4 (z07 s (nextA s a false 94) false).1 ((cTo s (nextA s a false 94) false).1+1-(z07 s (nextA s a false 94) false).1)) (cTo s (nextA s a false 94) false).2.1 (cBad s (nextA s a false 94) false) false
     else(z4,nextA s a false 94,false):=fun _=>rfl
   rw[step true,step false,zf1,hg];rfl
  have hn:1≤(z0M s (s.size+3) z4 (nextA s a false 94) false 0).2.2.2:=by
   rw[z0M,hg,if_pos rfl]
   cases hb:dBad s (nextA s a false 94) with
   |true=>rw[z4G];exact Nat.le_refl _
   |false=>exact(z3S s (s.size+2) _ _ (0+1)).2.1
  rw[ef];have h1':(z0M s (s.size+3) [0,0,0,0] (nextA s a false 94) false 0).2.2.1=(z19 s (s.size+3) [0,0,0,0] (nextA s a false 94) false false).2.2:=h1.1;generalize z0M s (s.size+3) z4 (nextA s a false 94) false 0=l at h1 h2 hn⊢;obtain⟨S,a1,b1,n⟩:=l;generalize z19 s (s.size+3) z4 (nextA s a false 94) false false=r at h1⊢;obtain⟨S',a',b'⟩:=r;simp only at h1 h2 hn⊢;obtain⟨hb,_,he⟩:=h1;subst hb;have hn0:(n==0)=false:=by simp;omega
  rw[hn0,Bool.or_false]
  cases b1 with
  |true=>simp[over]
  |false =>
   obtain⟨rfl,rfl⟩:=he rfl
   cases ho:over s a1 false with
   |true=>simp[sees,ho]
   |false =>
    have h93:sees s a1 false 93=true:=by simpa[dGo,ho] using h2
    simp[h93,nextA]
theorem ze3:∀r:Nat,r<64→orU 0 (bitU r)=bitU r:=by decide +kernel
theorem zcl (c:Nat) (hc:c<256):oneS c=z2B z4 c:=by
 unfold oneS z2B;have h4:c/64<4:=by omega
 have:z4.getD (c/64) 0=0:=by
  generalize c/64=k at h4
  match k,h4 with
  |0,_=>rfl
  |1,_=>rfl
  |2,_=>rfl
  |3,_=>rfl
 rw[this,ze3 _ (by omega)]
theorem zfG:turnS z4=fullS:=by decide +kernel
theorem z84:∀c:Nat,c<256→((specials.contains c==stray.contains c)||(c==40||c==91||c==46||c==92||c==124||c==41))=true:=by decide +kernel
theorem z96:∀c:Nat,c<256→(c==40)=false→(c==91)=false→(c==46)=false→(c==92)=false→(c==124)=false→(c==41)=false→specials.contains c=stray.contains c:=by
 intro c hc h1 h2 h3 h4 h5 h6;have:=z84 c hc;rw[h1,h2,h3,h4,h5,h6]at this;simpa using this
def Agr (cond:Nat→Prop) (P:PF) (F:DF):Prop :=
 ∀a,cond a→(F a).2.2.2=(P a false).2.2∧((F a).2.2.2=false→(F a).1=(P a false).1∧(F a).2.1=(P a false).2.1)
def z6C (s:ByteArray) (a:Nat):Prop:=wGo s a false=true
theorem ze4 (s:ByteArray) {P:PF} {F:DF} {d:Nat} (hd:d≤8) (h:d<8→Agr (fun _=>True) P F):Agr (z6C s) (patom s P d) (datom s F d):=by
 intro a hg;have ho:over s a false=false:=by simp[z6C,wGo]at hg;exact hg.1
 have h124:(byteAt s a==124)=false:=by rw[←z0C ho];simp[z6C,wGo]at hg;exact hg.2.1
 have h41:(byteAt s a==41)=false:=by rw[←z0C ho];simp[z6C,wGo]at hg;exact hg.2.2
 have hc:=z1O s a;unfold patom datom;simp only;rw[z2u,ho];simp only[Bool.false_eq_true,if_false,Bool.false_or]
 cases h40:byteAt s a==40 with
 |true =>
  have e40:byteAt s a=40:=by simpa using h40
  rw[e40];have hd8:decide (8<d+1)=(d==8):=by rw[Bool.eq_iff_iff];simp;omega
  rw[hd8]
  cases h8:d==8 with
  |true=>simp
  |false =>
   have hd7:d<8:=by
    have:d≠8:=by simpa using h8
    omega
   have ih:=h hd7 (a+1) trivial;generalize F (a+1)=w at ih⊢;generalize P (a+1) false=v at ih⊢;obtain⟨x,a1,d1,b1⟩:=w;obtain⟨y,a2,b2⟩:=v;simp only at ih;obtain⟨hb,he⟩:=ih;subst hb
   cases b1 with
   |true=>simp[z29]
   |false =>
    obtain⟨rfl,rfl⟩:=he rfl;cases hse:sees s a1 false 41<;>simp[hse,nextA]
 |false =>
  cases h91:byteAt s a==91 with
  |true =>
   have e91:byteAt s a=91:=by simpa using h91
   have ih:=zaW s (a+1);simp[e91];exact ih
  |false =>
   cases h46:byteAt s a==46 with
   |true=>simp[zfG]
   |false =>
    cases h92:byteAt s a==92 with
    |true =>
     have e92:byteAt s a=92:=by simpa using h92
     simp only[Bool.false_eq_true,if_false,if_true];unfold psign;rw[z2u]
     cases ho2:over s (a+1) false with
     |true=>simp
     |false =>
      have:=zcl _ (z1O s (a+1));simp only[Bool.false_eq_true,if_false,Bool.false_or];cases hq:signs.contains (byteAt s (a+1))<;>simp[this]
    |false =>
     rw[←z96 _ hc h40 h91 h46 h92 h124 h41];simp only[Bool.false_eq_true,if_false];cases hsp:specials.contains (byteAt s a)
     · simp[zcl _ hc]
     · simp
theorem zaX (s:ByteArray) {P:PF} {F:DF} {c:Nat→Prop} (h:Agr c P F):Agr c (z2I s P) (z3a s F):=by
 intro a ha;have ih:=h a ha;unfold z2I z3a;simp only;generalize F a=w at ih⊢;generalize P a false=v at ih⊢;obtain⟨x,a1,d1,b1⟩:=w;obtain⟨y,a2,b2⟩:=v;simp only at ih⊢;obtain⟨hb,he⟩:=ih;subst hb
 cases b1 with
 |true=>simp[z29]
 |false =>
  obtain⟨rfl,rfl⟩:=he rfl;cases sees s a1 false 42<;>cases sees s a1 false 43<;>cases sees s a1 false 63<;>simp
theorem za0 (s:ByteArray) (a:Nat):wGo s a true=false:=by simp[wGo,over]
theorem zaY (s:ByteArray) (P:PF) (n:Nat) (K:List Rex) (a:Nat):(pwayL s P n K a true).2.2=true:=by
 cases n with
 |zero=>rfl
 |succ n=>rw[pwayL,za0];rfl
theorem zaZ (s:ByteArray) (F:DF) (n:Nat) (K:List Rex) (a d:Nat):(dwayL s F n K a d true).2.2.2=true:=by
 cases n with
 |zero=>rfl
 |succ n=>rw[dwayL,za0];rfl
theorem za1 (s:ByteArray) {P:PF} {F:DF} (h:Agr (z6C s) P F):∀(n:Nat) (K:List Rex) (a d:Nat),
  (dwayL s F n K a d false).2.2.2=(pwayL s P n K a false).2.2∧((dwayL s F n K a d false).2.2.2=false→(dwayL s F n K a d false).1=(pwayL s P n K a false).1∧(dwayL s F n K a d false).2.1=(pwayL s P n K a false).2.1)
 |0,K,a,d=>⟨rfl,fun _=>⟨rfl,rfl⟩⟩
 |n+1,K,a,d=>by
  rw[dwayL,pwayL]
  cases hg:wGo s a false with
  |false=>exact⟨rfl,fun _=>⟨rfl,rfl⟩⟩
  |true =>
   simp only[if_true];have ih:=h a hg;generalize F a=w at ih⊢;generalize P a false=v at ih⊢;obtain⟨x,a1,d1,b1⟩:=w;obtain⟨y,a2,b2⟩:=v;simp only at ih⊢;obtain⟨hb,he⟩:=ih;subst hb
   cases b1 with
   |true=>rw[zaZ,zaY];simp
   |false =>
    obtain⟨rfl,rfl⟩:=he rfl;exact za1 s h n (K++[x]) a1 d1
theorem zfH (s:ByteArray) {P:PF} {F:DF} (h:Agr (z6C s) P F) (d:Nat):Agr (fun _=>True) (pway s P) (dway s F d):=by
 intro a _;have ih:=za1 s h (s.size+1) [] a d;unfold pway dway;simp only;exact⟨ih.1,fun hb=>⟨by rw[(ih.2 hb).1],(ih.2 hb).2⟩⟩
theorem z5E (s:ByteArray) (P:PF) (n:Nat) (K:List Rex) (a:Nat):(z2q s P n K a true).2.2=true:=by
 cases n with
 |zero=>rfl
 |succ n=>rw[z2q,z29];rfl
theorem z5F (s:ByteArray) (F:DF) (n:Nat) (K:List Rex) (a d:Nat):(z2a s F n K a d true).2.2.2=true:=by
 cases n with
 |zero=>rfl
 |succ n=>rw[z2a,z29];rfl
theorem z85 (s:ByteArray) {P:PF} {F:DF} (h:Agr (fun _=>True) P F):∀(n:Nat) (K:List Rex) (a d:Nat),
  (z2a s F n K a d false).2.2.2=(z2q s P n K a false).2.2∧((z2a s F n K a d false).2.2.2=false→(z2a s F n K a d false).1=(z2q s P n K a false).1∧(z2a s F n K a d false).2.1=(z2q s P n K a false).2.1)
 |0,K,a,d=>⟨rfl,fun _=>⟨rfl,rfl⟩⟩
 |n+1,K,a,d=>by
  rw[z2a,z2q]
  cases hg:sees s a false 124 with
  |false=>exact⟨rfl,fun _=>⟨rfl,rfl⟩⟩
  |true =>
   simp only[if_true];have ih:=h (a+1) trivial;generalize F (a+1)=w at ih⊢;generalize P (a+1) false=v at ih⊢;obtain⟨x,a1,d1,b1⟩:=w;obtain⟨y,a2,b2⟩:=v;simp only at ih⊢;obtain⟨hb,he⟩:=ih;subst hb
   cases b1 with
   |true=>rw[z5F,z5E];simp
   |false =>
    obtain⟨rfl,rfl⟩:=he rfl;exact z85 s h n (K++[x]) a1 d1
theorem ze5 (s:ByteArray) {P:PF} {F:DF} (h:Agr (fun _=>True) P F):Agr (fun _=>True) (pways s P) (dways s F):=by
 intro a _;have ih:=h a trivial;unfold pways dways;simp only;generalize F a=w at ih⊢;generalize P a false=v at ih⊢;obtain⟨x,a1,d1,b1⟩:=w;obtain⟨y,a2,b2⟩:=v;simp only at ih⊢;obtain⟨hb,he⟩:=ih;subst hb
 cases b1 with
 |true=>rw[z5F,z5E];simp
 |false =>
  obtain⟨rfl,rfl⟩:=he rfl;have ih:=z85 s h (s.size+1) [x] a1 d1;exact⟨ih.1,fun hb=>⟨by rw[(ih.2 hb).1],(ih.2 hb).2⟩⟩
theorem zcm (s:ByteArray) {P:PF} {F:DF} {d:Nat} (hd:d≤8) (h:d<8→Agr (fun _=>True) P F):Agr (fun _=>True) (lvl s P d) (dlvl s F d) :=
 ze5 s (zfH s (zaX s (ze4 s hd h)) d)
theorem agr_W (s:ByteArray):∀k,Agr (fun _=>True) (PW s k) (DW s k)
 |0=>zcm s (Nat.le_refl _) (fun h=>absurd h (Nat.lt_irrefl _))
 |k+1=>zcm s (by omega) (fun _=>agr_W s k)
theorem zcn (s:ByteArray):z82 s=z2r s:=by
 unfold z82 z2r;simp only
 cases h40:decide (40<s.size) with
 |true =>
  have:=(z9U s 8 0 true).2 rfl;rw[this];rfl
 |false =>
  have ih:=agr_W s 8 0 trivial;simp only[Bool.false_eq_true,if_false];generalize DW s 8 0=w at ih⊢;generalize PW s 8 0 false=v at ih⊢;obtain⟨x,a1,d1,b1⟩:=w;obtain⟨y,a2,b2⟩:=v;simp only at ih⊢;obtain⟨hb,he⟩:=ih;subst hb
  cases b1 with
  |true=>simp;rfl
  |false =>
   obtain⟨rfl,rfl⟩:=he rfl;rfl
theorem zco (σ:St) (k:Int) (nm v:ByteArray):Ans Tryz.prog 169 [mat k nm v] σ (Bo (likeB k)) σ:=by
 refine Ans.of_run t169 ?_;simp -implicitDefEqProofs only[c169,r169,go_sem];unfold likeB;cases h:k==3
 · simp -implicitDefEqProofs only[go_sem];exact Fini.ret rfl
 · simp -implicitDefEqProofs only[go_sem];exact Fini.ret rfl
def okN (s:ByteArray) (i:Nat):Bool:=z2s (byteAt s i)||(!(i==0)&&z4F (byteAt s i))
def nameD (s:ByteArray):Bool:=(List.range s.size).all (okN s)&&(decide (1≤s.size)&&decide (s.size≤12))
theorem ze6 (s:ByteArray):nameD s=nameB s:=by
 unfold nameD nameB;by_cases h1:1≤s.size
 · by_cases h2:s.size≤12
   · rw[decide_eq_true h1,decide_eq_true h2];simp only[Bool.and_self,Bool.and_true,Bool.true_and];rw[Bool.eq_iff_iff];simp only[Bool.and_eq_true,List.all_eq_true,List.mem_range,okN,Bool.or_eq_true,Bool.not_eq_true',beq_eq_false_iff_ne];constructor
     · intro h;refine⟨?_,fun i hi=>?_⟩
       · rcases h 0 (by omega) with h|h
         · exact h
         · exact absurd rfl h.1
       · rcases h i hi with h|h
         · exact .inl h
         · exact .inr h.2
     · rintro⟨h0,h⟩ i hi;by_cases hz:i=0
       · subst hz;exact .inl h0
       · rcases h i hi with h|h
         · exact .inl h
         · exact .inr ⟨hz,h⟩
   · rw[decide_eq_false h2];simp
 · rw[decide_eq_false h1];simp
set_option maxHeartbeats 16000000 in
theorem z5G (σ:St) (s:ByteArray) (hs:s.size≤100000):Ans Tryz.prog 121 [Sx s] σ (Bo (nameB s)) σ:=by
 rw[←ze6];refine Ans.of_run t121 ?_;simp -implicitDefEqProofs only[c121,r121,go_sem];refine Go.Ab.L.scan s.size (okN s) (fun i=>mkE 55 [(0,Sx s),(3,I i)]) (fun _=>σ) ?_ ?_ rfl rfl
 · intro i hi hp J hJ;have hlt:((i:Int)<s.size)=True:=by simp;omega
   have hdi:decide ((i:Int)<s.size)=true:=by simp;omega
   have hin:=z0L (n:=i) (by omega)
   have hF:okN s i=false→nameD s=false:=fun h=>by
    rw[nameD,List.all_eq_false.2 ⟨i,List.mem_range.2 hi,by simp[h]⟩];rfl
   have e1:decide ((97:Int)≤(byteAt s i:Nat))=decide (97≤byteAt s i):=z3j 97 _;have e2:decide (((byteAt s i:Nat):Int)≤122)=decide (byteAt s i≤122):=z3j _ 122;have e3:decide ((65:Int)≤(byteAt s i:Nat))=decide (65≤byteAt s i):=z3j 65 _;have e4:decide (((byteAt s i:Nat):Int)≤90)=decide (byteAt s i≤90):=z3j _ 90;have e5:(((byteAt s i:Nat):Int)==95)=(byteAt s i==95):=z0j _ 95;have e6:decide (((byteAt s i:Nat):Int)<48)=decide (byteAt s i<48):=decN _ 48;have e7:decide ((57:Int)<(byteAt s i:Nat))=decide (57<byteAt s i):=decN 57 _;have e8:((i:Int)==0)=(i==0):=z0j i 0
   have hd:z4F (byteAt s i)=(!decide (byteAt s i<48)&& !decide (57<byteAt s i)):=by
    unfold z4F;rw[Bool.eq_iff_iff];simp
   have hL:z2s (byteAt s i)=(decide (97≤byteAt s i)&&decide (byteAt s i≤122)||decide (65≤byteAt s i)&&decide (byteAt s i≤90)||byteAt s i==95):=rfl;have hO:okN s i=(z2s (byteAt s i)||(!(i==0)&&z4F (byteAt s i))):=rfl;rw[hO,hL,hd]at hF hJ;generalize decide (97≤byteAt s i)=b1 at *;generalize decide (byteAt s i≤122)=b2 at *;generalize decide (65≤byteAt s i)=b3 at *;generalize decide (byteAt s i≤90)=b4 at *;generalize (byteAt s i==95)=b5 at *;generalize decide (byteAt s i<48)=b6 at *;generalize decide (57<byteAt s i)=b7 at *;generalize (i==0)=b8 at *;clear hL hd hO;simp -implicitDefEqProofs only[mkE,go_sem,hlt,hdi,z06];cases b1<;>cases b2<;>cases b3<;>cases b4<;>cases b5
   all_goals simp -implicitDefEqProofs only[go_sem,e1,e2,e3,e4,e5,e6,e7,e8,hin]
   all_goals first
    |exact hJ rfl
    |(cases b8<;>cases b6<;>cases b7<;>simp -implicitDefEqProofs only[go_sem,e6,e7,e8,hin]<;>first
     |exact hJ rfl
     |(refine Fini.ret' rfl (z0Y ?_);exact(hF rfl).symm))
 · intro hp J;have hdi:decide ((s.size:Int)<s.size)=false:=by simp
   have d1:decide ((1:Int)≤s.size)=decide (1≤s.size):=z3j 1 _;have d2:decide ((s.size:Int)≤12)=decide (s.size≤12):=z3j _ 12;have hA:(List.range s.size).all (okN s)=true:=List.all_eq_true.2 fun i hi=>hp i (List.mem_range.1 hi)
   rw[nameD,hA,Bool.true_and]
   cases h1:decide (1≤s.size) with
   |true =>
    rw[h1]at d1;simp -implicitDefEqProofs only[mkE,go_sem,hdi,d1,d2];exact Fini.ret rfl
   |false =>
    rw[h1]at d1;simp -implicitDefEqProofs only[mkE,go_sem,hdi,d1,d2];exact Fini.ret rfl
theorem zfI (σ:St) (k:Int) (nm v:ByteArray) (hs:nm.size≤100000):Ans Tryz.prog 149 [mat k nm v] σ (Bo (isB k nm v)) σ:=by
 refine Ans.of_run t149 ?_;unfold isB;simp -implicitDefEqProofs only[c149,r149,go_sem];refine CO.intro (z5G σ nm hs) ?_
 cases hn:nameB nm with
 |false =>
  simp -implicitDefEqProofs only[go_sem];exact Fini.ret rfl
 |true =>
 simp -implicitDefEqProofs only[go_sem];refine CO.intro (zco σ k nm v) ?_
 cases hk:likeB k with
 |true =>
  simp -implicitDefEqProofs only[go_sem];refine CO.intro (zaV v σ) ?_;rw[zcn];have hrv:=Rex.rv_eq (z2r v).1;generalize (z2r v).1=x at hrv⊢;generalize (z2r v).2=b;rw[hrv];rcases Rex.rvK_cases x.ks with e|⟨l,e⟩<;>rw[e]
  all_goals (simp -implicitDefEqProofs only[go_sem];exact Fini.ret rfl)
 |false =>
  have d:decide ((v.size:Int)≤24)=decide (v.size≤24):=z3j v.size 24;simp -implicitDefEqProofs only[go_sem]
  cases h1:k==1 with
  |true =>
   simp -implicitDefEqProofs only[go_sem,d];exact Fini.ret rfl
  |false =>
   simp -implicitDefEqProofs only[go_sem]
   cases h2:k==2 with
   |true =>
    simp -implicitDefEqProofs only[go_sem,d];exact Fini.ret rfl
   |false =>
    simp -implicitDefEqProofs only[go_sem];exact Fini.ret rfl
end Go.Proofs.YtmkmhhjkdaklbaaGreat
namespace Go.Proofs.YtmkmhhjkdaklbaaGreat
open Go Go.Ab
set_option maxRecDepth 100000
theorem zb0 (σ:St) (x y:Mtr):Ans Tryz.prog 150 [mv3 x,mv3 y] σ (Bo (z3p x y)) σ:=by
 refine Ans.of_run t150 ?_;unfold z3p;simp -implicitDefEqProofs only[c150,r150,go_sem,mv3]
 cases h1:(x.2.1.toList==y.2.1.toList) with
 |false =>
  simp -implicitDefEqProofs only[go_sem];exact Fini.ret rfl
 |true =>
  simp -implicitDefEqProofs only[go_sem]
  cases h2:(x.1==y.1) with
  |false =>
   simp -implicitDefEqProofs only[go_sem,bne,h2];exact Fini.ret rfl
  |true =>
   simp -implicitDefEqProofs only[go_sem,bne,h2];exact Fini.ret rfl
theorem za2 (M:List Mtr) (i:Nat) (h:i<M.length):(mvs3 M)[i]?=some (mv3 M[i]):=by simp[mvs3,h]
theorem z0r (M:List Mtr):(mvs3 M).length=M.length:=List.length_map ..
abbrev noM3:Mtr:=(0,⟨#[]⟩,⟨#[]⟩)
def isM (x:Mtr):Bool:=isB x.1 x.2.1 x.2.2
def okL (M:List Mtr) (i:Nat):Bool:=isM (M.getD i noM3)&&(i==0||z3p (M.getD (i-1) noM3) (M.getD i noM3))
def listB (M:List Mtr):Bool:=decide (M.length≤5)&&(List.range M.length).all (okL M)
theorem za3 (M:List Mtr) (i:Nat) (h:i<M.length):(mvs3 M)[i]?=some (mv3 (M.getD i noM3)):=by
 rw[za2 M i h,List.getD_eq_getElem?_getD,List.getElem?_eq_getElem h];rfl
theorem z1a (σ:St) (M:List Mtr) (hs:∀x∈M,x.2.1.size≤100000):Ans Tryz.prog 117 [.sl 3 (mvs3 M)] σ (Bo (listB M)) σ:=by
 refine Ans.of_run t117 ?_;have d5:decide ((5:Int)<M.length)=decide (5<M.length):=decN 5 _;unfold listB;simp -implicitDefEqProofs only[c117,r117,go_sem,z0r,d5];by_cases hl:M.length≤5
 · rw[decide_eq_true hl,Bool.true_and];have h5:decide (5<M.length)=false:=decide_eq_false (by omega)
   simp -implicitDefEqProofs only[go_sem,h5];refine Go.Ab.L.scan M.length (okL M) (fun i=>mkE 36 [(0,.sl 3 (mvs3 M)),(3,I i)]) (fun _=>σ) ?_ ?_ rfl rfl
   · intro i hi hp J hJ;have hF:okL M i=false→(List.range M.length).all (okL M)=false:=fun h=>List.all_eq_false.2 ⟨i,List.mem_range.2 hi,by simp[h]⟩
     have hx:=za3 M i hi
     have hsz:(M.getD i noM3).2.1.size≤100000:=by
      rw[List.getD_eq_getElem?_getD,List.getElem?_eq_getElem hi];exact hs _ (List.getElem_mem hi)
     have hin:=z0L (n:=i) (by omega)
     have hI:=fun σ=>zfI σ (M.getD i noM3).1 (M.getD i noM3).2.1 (M.getD i noM3).2.2 hsz
     have hO:okL M i=(isB (M.getD i noM3).1 (M.getD i noM3).2.1 (M.getD i noM3).2.2&&(i==0||z3p (M.getD (i-1) noM3) (M.getD i noM3))):=rfl;have d0:decide ((0:Int)<i)=decide (0<i):=decN 0 i;rw[hO]at hJ hF;simp -implicitDefEqProofs only[mkE,go_sem,z0r,z0c hi,dec_lt hi,hx,mv3,z00]
     first|refine CD.intro (hI _) ?_|refine CS.intro hI ?_
     generalize isB (M.getD i noM3).1 (M.getD i noM3).2.1 (M.getD i noM3).2.2=b1 at hJ hF
     cases b1 with
     |false =>
      simp -implicitDefEqProofs only[go_sem];refine Fini.ret' rfl (z0Y ?_);rw[hF rfl]
     |true =>
      by_cases hz:i=0
      · subst hz;simp -implicitDefEqProofs only[go_sem,hin,z00,Int.natCast_zero];exact hJ rfl
      · have hpos:decide (0<i)=true:=by simp;omega
        have hx1:=za3 M (i-1) (by omega)
        have hB:=fun σ=>zb0 σ (M.getD (i-1) noM3) (M.getD i noM3)
        have w1:IntKind.i64.wrap ((i:Int)-1)=((i-1:Nat):Int):=by rw[wrapN (by omega) (by omega)];omega
        have hlt1:(((i-1:Nat):Int)<M.length)=True:=by simp;omega
        have hz':(i==0)=false:=by simpa using hz
        rw[hz']at hJ hF;simp -implicitDefEqProofs only[go_sem,d0,hpos,w1,z0r,z0c hi,dec_lt hi,hlt1,hx,hx1,z00,mv3]
        first|refine CD.intro (hB _) ?_|refine CS.intro hB ?_
        generalize z3p (M.getD (i-1) noM3) (M.getD i noM3)=b2 at hJ hF
        cases b2 with
        |true =>
         simp -implicitDefEqProofs only[go_sem,hin];exact hJ rfl
        |false =>
         simp -implicitDefEqProofs only[go_sem];refine Fini.ret' rfl (z0Y ?_);rw[hF rfl]
   · intro hp J;have hd:decide ((M.length:Int)<M.length)=false:=by simp
     simp -implicitDefEqProofs only[mkE,go_sem,z0r,hd];refine Fini.ret' rfl (z0Y ?_);exact(List.all_eq_true.2 fun i hi=>hp i (List.mem_range.1 hi)).symm
 · rw[decide_eq_false hl,Bool.false_and];have h5:decide (5<M.length)=true:=decide_eq_true (by omega)
   simp -implicitDefEqProofs only[go_sem,h5];exact Fini.ret rfl
theorem z0q (n:Nat) (M:List Mtr):Bel n (.sl 3 (mvs3 M)):=by
 refine .sl 3 _ fun i hi=>?_
 have:∀y∈mvs3 M,Bel n y:=by
  intro y hy;simp only[mvs3,List.mem_map]at hy;obtain⟨x,_,rfl⟩:=hy;refine .agg _ fun i hi=>?_
  have:∀y∈([I x.1,Sx x.2.1,Sx x.2.2]:List AV),Bel n y:=by
   intro y hy;simp only[List.mem_cons,List.not_mem_nil,or_false]at hy;rcases hy with rfl|rfl|rfl<;>exact .pl _
  exact this _ (List.getElem_mem hi)
 exact this _ (List.getElem_mem hi)
theorem zf2 (n:Nat) (M:List Mtr):Bel n (.sl 3 (mvs3 M))=True:=eq_true (z0q n M)
theorem memM (n:Nat) (k:Int) (a b:ByteArray):∀y∈([I k,Sx a,Sx b]:List AV),Bel n y:=by
 intro y hy;simp only[List.mem_cons,List.not_mem_nil,or_false]at hy;rcases hy with rfl|rfl|rfl<;>exact .pl _
theorem zf3 (n:Nat) (k:Int) (a b:ByteArray):Bel n (.agg [I k,Sx a,Sx b])=True:=eq_true (.agg _ fun i hi=>memM n k a b _ (List.getElem_mem hi))
theorem BL_rp (n:Nat) (k:Int) (a b:ByteArray):Bel n (.rp [I k,Sx a,Sx b])=True:=eq_true (.rp _ fun i hi=>memM n k a b _ (List.getElem_mem hi))
theorem z1E (σ:St) (M:List Mtr):Ans Tryz.prog 106 [.sl 3 (mvs3 M)] σ (Bo (listB M)) σ:=by
 refine Ans.of_run' t106 (fun hbel _=>?_)
 have d5:decide ((5:Int)<M.length)=decide (5<M.length):=decN 5 _;have hb0:(∀o∈σ,BelO σ.length o)=True:=eq_true hbel;unfold listB;simp -implicitDefEqProofs only[c106,r106,go_sem,z0r,d5];by_cases hl:M.length≤5
 · rw[decide_eq_true hl,Bool.true_and];have h5:decide (5<M.length)=false:=decide_eq_false (by omega)
   simp -implicitDefEqProofs only[go_sem,h5,z0r];refine Go.Ab.L.scan M.length (okL M) (fun i=>mkE 33 [(0,.sl 3 (mvs3 M)),(8,.sl 3 (mvs3 M)),(9,I M.length),(10,I i)]) (fun _=>σ) ?_ ?_ rfl rfl
   · intro i hi hp J hJ;have htk:∀x:Ob,(σ++[x]).take σ.length=σ:=fun x=>List.take_left' rfl
     have hF:okL M i=false→(List.range M.length).all (okL M)=false:=fun h=>List.all_eq_false.2 ⟨i,List.mem_range.2 hi,by simp[h]⟩
     have hx:=za3 M i hi;have hin:=z0L (n:=i) (by omega)
     have hI:=fun σ=>zgJ σ (M.getD i noM3).1 (M.getD i noM3).2.1 (M.getD i noM3).2.2
     have hO:okL M i=(isB (M.getD i noM3).1 (M.getD i noM3).2.1 (M.getD i noM3).2.2&&(i==0||z3p (M.getD (i-1) noM3) (M.getD i noM3))):=rfl;have d0:decide ((0:Int)<i)=decide (0<i):=decN 0 i;rw[hO]at hJ hF;simp -implicitDefEqProofs only[mkE,go_sem,z0r,z0c hi,dec_lt hi,hx,mv3,z00,g0,s0,List.drop_nil]
     first|refine CD.intro (hI _) ?_|refine CS.intro hI ?_
     generalize isB (M.getD i noM3).1 (M.getD i noM3).2.1 (M.getD i noM3).2.2=b1 at hJ hF
     cases b1 with
     |false =>
      simp -implicitDefEqProofs only[go_sem,z00,g0,s0];rw[hF rfl];exact Fini.trim2 (σ':=σ) rfl rfl (Nat.le_refl _) (.pl _) hbel
     |true =>
      by_cases hz:i=0
      · subst hz;have hgo:=hJ rfl;simp -implicitDefEqProofs only[go_sem,hin,z00,g0,s0,Int.natCast_zero,B_pl,B_any,z2o,B_tup,B_osl,B_ptr,B_sl0,zf2,zf3,BL_rp,htk,Nat.add_zero,hb0,List.length_append];exact⟨by omega,hgo⟩
      · have hpos:decide (0<i)=true:=by simp;omega
        have hx1:=za3 M (i-1) (by omega)
        have hB:=fun σ=>z92 σ (M.getD (i-1) noM3) (M.getD i noM3)
        have hc:=z93 (M.getD (i-1) noM3) (M.getD i noM3);have w1:IntKind.i64.wrap ((i:Int)-1)=((i-1:Nat):Int):=by rw[wrapN (by omega) (by omega)];omega
        have hlt1:(((i-1:Nat):Int)<M.length)=True:=by simp;omega
        have hz':(i==0)=false:=by simpa using hz
        rw[hz']at hJ hF;simp -implicitDefEqProofs only[go_sem,d0,hpos,w1,z0r,z0c hi,dec_lt hi,hlt1,hx,hx1,z00,mv3,g0,s0]
        first|refine CD.intro (hB _) ?_|refine CS.intro hB ?_
        generalize z3p (M.getD (i-1) noM3) (M.getD i noM3)=b2 at hJ hF hc;generalize cmp3 (M.getD (i-1) noM3) (M.getD i noM3)=cc at hc
        cases b2 with
        |true =>
         have hgo:=hJ rfl;simp -implicitDefEqProofs only[go_sem,hc,hin,g0,s0,B_pl,B_any,z2o,B_tup,B_osl,B_ptr,B_sl0,zf2,zf3,BL_rp,htk,Nat.add_zero,hb0,List.length_append,Bool.not_true];exact⟨by omega,hgo⟩
        |false =>
         simp -implicitDefEqProofs only[go_sem,hc,Bool.not_false,g0,s0];rw[hF rfl];exact Fini.trim2 (σ':=σ) rfl rfl (Nat.le_refl _) (.pl _) hbel
   · intro hp J;have hd:decide ((M.length:Int)<M.length)=false:=by simp
     simp -implicitDefEqProofs only[mkE,go_sem,z0r,hd];refine Fini.ret' rfl (z0Y ?_);exact(List.all_eq_true.2 fun i hi=>hp i (List.mem_range.1 hi)).symm
 · rw[decide_eq_false hl,Bool.false_and];have h5:decide (5<M.length)=true:=decide_eq_true (by omega)
   simp -implicitDefEqProofs only[go_sem,h5];exact Fini.ret rfl
def c22:ACode :=
 (sq_ [pr_ 1 (.boxr (.tmp 0)),
 pr_ 2 (.allocm [.nils,.nils,.pl (.bool false),.pl (.float .f64 0),.pl (.float .f64 0),.nils])]
 (.seq (.draw [⟨pr_ 7 (fa_ 0 1),[],false,0,0⟩,
 ⟨pr_ 8 (lf_ 1 7),[0],false,0,0⟩,
 ⟨cl_ 9 79 [(.tmp 8),(.const (.bool true))],[0,1],false,0,0⟩,
 ⟨pr_ 10 (fa_ 1 1),[],false,0,0⟩,
 ⟨pr_ 11 (lf_ 1 10),[3],false,0,0⟩,
 ⟨cl_ 12 79 [(.tmp 11),(.const (.bool true))],[0,1,2,3,4],false,0,0⟩,
 ⟨pr_ 13 (fa_ 2 1),[],false,0,0⟩,
 ⟨pr_ 14 (lt_ 3 13),[6],false,0,0⟩,
 ⟨c1_ 15 80 14,(List.range 8),true,0,0⟩,
 ⟨pr_ 16 (.build [.nils,.nils,.pl (.bool false),.pl (.float .f64 0),.pl (.float .f64 0),.nils] [(0,1,(.tmp 9)),(1,1,(.tmp 12)),(2,3,(.tmp 15))]),(List.range 9),false,1,1⟩,
 ⟨⟨some 3,none,.flo 6⟩,[],false,0,1⟩,
 ⟨⟨some 3,none,.adopt true 3 6 (.tmp 16)⟩,(List.range 11),true,0,0⟩])
 (.seq (sq_ [pr_ 4 (mi_ .i64 0)]
 (.block 0 (.loop [0,5,6,7,8,9,10,11,12,13,14,15,16,17,18,19,20,21,22,23,24,25,26,27,28,29,30,31,32,33,34,35,36,37,38,39,40,41,42,43,44,45,46,47,48,49,50,51,52,53,54,55] (.seq (sq_ [mv_ 17 4,
 pr_ 18 (bk_ .lss 17 .i64 5),
 mv_ 19 18,
 gp_ 20 19 true (fa_ 5 3),
 gp_ 21 19 true (lf_ 1 20),
 gp_ 22 19 true (.lenv (.tmp 21)),
 gp_ 23 19 true (bk_ .lss 22 .i64 4),
 pr_ 24 (pa_ 19 23)]
 (.cond (.tmp 24)
 .skip
 (.exit 0)))
 (.seq (.block 1 (sq_ [pr_ 27 (.build [.pl (.string .empty),.pl (.string .empty),.pl (.string .empty),.pl (.string .empty),.pl (.string .empty)] [(0,1,(.const (.string (ByteArray.mk #[90,111,110,101,57])))),(1,1,(.const (.string (ByteArray.mk #[95,120])))),(2,1,(.const (.string (ByteArray.mk #[104,111,115,116])))),(3,1,(.const (.string (ByteArray.mk #[106,111,98])))),(4,1,(.const (.string (ByteArray.mk #[115,101,118]))))]),
 mv_ 28 4,
 pr_ 29 (.idxa 1 5 false (.tmp 27) (.tmp 28)),
 mv_ 5 29]
 (sq_ [pr_ 6 (mi_ .i64 0)]
 (.block 2 (.loop [0,7,8,9,10,11,12,13,14,15,16,17,18,19,20,21,22,23,24,25,26,27,28,29,30,31,32,33,34,35,36,37,38,39,40,41,42,43,44,45,46,47,48,49,50,51,52,53,54,55] (.seq (sq_ [mv_ 30 6,
 pr_ 31 (fa_ 5 1),
 pr_ 32 (lf_ 1 31),
 pr_ 33 (.lenv (.tmp 32)),
 pr_ 34 (bt_ .lss 30 33),
 mv_ 35 34,
 gp_ 36 35 true (mo_ 6),
 gp_ 37 35 true (bk_ .lss 36 .i64 9),
 pr_ 38 (pa_ 35 37)]
 (.cond (.tmp 38)
 .skip
 (.exit 2)))
 (.seq (.block 3 (sq_ [pr_ 41 (fa_ 5 1),
 pr_ 42 (lf_ 1 41),
 mv_ 43 6,
 pr_ 44 (.iadrs 1 (.tmp 42) (.tmp 43)),
 pr_ 45 (lf_ 1 44),
 c1_ 46 81 45,
 mv_ 47 5,
 pr_ 48 (bt_ .eql 46 47)]
 (.cond (.tmp 48)
 (sq_ [pr_ 49 (fa_ 5 3),
 pr_ 50 (lf_ 1 49),
 mv_ 51 5,
 pr_ 52 (.bsl false 1 false 1 [.pl (.string .empty)] [(0,1,(.tmp 51))]),
 pr_ 53 (.app 1 (.tmp 50) (.tmp 52)),
 pr_ 54 (fa_ 5 3),
 st_ (so_ 1 54 53)]
 (.exit 2))
 .skip)))
 (.ops [mv_ 39 6,
 pr_ 40 (bk_ .add 39 .i64 1),
 mv_ 6 40]))))))))
 (.ops [mv_ 25 4,
 pr_ 26 (bk_ .add 25 .i64 1),
 mv_ 4 26]))))))
 (.seq (.ghost (.shutc 3 5 1) (.ops [pr_ 55 (lt_ 6 3),
 st_ (so_ 6 2 55)]))
 .ret))))
def o22:List Tmp:=[2,3]
def r22:List RV:=[.cell 2 6 true]
theorem t22:Text Tryz.prog 22 o22 c22 r22 56:=.mk_ Tryz.f22 rfl
def c51:ACode :=
 (sq_ [pr_ 1 (.boxr (.tmp 0)),
 pr_ 2 mf_]
 (.seq (sq_ [pr_ 5 (fa_ 0 1),
 pr_ 6 (lf_ 1 5),
 pr_ 7 (.lenv (.tmp 6)),
 pr_ 8 (bk_ .eql 7 .i64 0),
 mv_ 9 8,
 gp_ 10 9 false (fa_ 1 1),
 gp_ 11 9 false (lf_ 1 10),
 gp_ 12 9 false (.lenv (.tmp 11)),
 gp_ 13 9 false (bk_ .eql 12 .i64 0),
 pr_ 14 (po_ 9 13),
 mv_ 15 14,
 gp_ 16 15 false (fa_ 0 1),
 gp_ 17 15 false (lf_ 1 16),
 gc_ 18 15 false 106 [(.tmp 17)],
 gp_ 19 15 false (no_ 18),
 pr_ 20 (po_ 15 19),
 mv_ 21 20,
 gp_ 22 21 false (fa_ 1 1),
 gp_ 23 21 false (lf_ 1 22),
 gc_ 24 21 false 106 [(.tmp 23)],
 gp_ 25 21 false (no_ 24),
 pr_ 26 (po_ 21 25),
 mv_ 27 26,
 gp_ 28 27 false (fa_ 2 1),
 gp_ 29 27 false (lt_ 3 28),
 gc_ 30 27 false 107 [(.tmp 29)],
 gp_ 31 27 false (no_ 30),
 pr_ 32 (po_ 27 31),
 mv_ 33 32,
 gp_ 34 33 false (fa_ 5 1),
 gp_ 35 33 false (lf_ 1 34),
 gp_ 36 33 false (.lenv (.tmp 35)),
 gp_ 37 33 false (bk_ .gtr 36 .i64 4),
 pr_ 38 (po_ 33 37)]
 (.cond (.tmp 38)
 (sq_ [pr_ 2 mf_]
 .ret)
 .skip))
 (.seq (sq_ [pr_ 39 (fa_ 5 1),
 pr_ 40 (lf_ 1 39),
 pr_ 41 (.lenv (.tmp 40)),
 pr_ 42 (mi_ .i64 0)]
 (.block 0 (.loop [0,2,3,4,5,6,7,8,9,10,11,12,13,14,15,16,17,18,19,20,21,22,23,24,25,26,27,28,29,30,31,32,33,34,35,36,37,38,39,43,44,45,46,47,48,49,50,51,52,53,54,55,56,57,58,59,60,61,62,63,64] (sq_ [pr_ 43 (bt_ .lss 42 41)]
 (.seq (.cond (.tmp 43)
 .skip
 (.exit 0))
 (.seq (.block 1 (sq_ [mv_ 44 42,
 pr_ 45 (.iadrs 1 (.tmp 40) (.tmp 42)),
 pr_ 46 (lf_ 1 45),
 mv_ 3 44,
 mv_ 4 46]
 (sq_ [mv_ 47 4,
 c1_ 48 108 47,
 pr_ 49 (no_ 48),
 mv_ 50 49,
 gp_ 51 50 false (mo_ 3),
 gp_ 52 50 false (bk_ .gtr 51 .i64 0),
 gp_ 53 50 false (mo_ 52),
 gp_ 54 53 true (mo_ 4),
 gp_ 55 53 true (fa_ 5 1),
 gp_ 56 53 true (lf_ 1 55),
 gp_ 57 53 true (mo_ 3),
 gp_ 58 53 true (bk_ .sub 57 .i64 1),
 gp_ 59 53 true (.iadrs 1 (.tmp 56) (.tmp 58)),
 gp_ 60 53 true (lf_ 1 59),
 gp_ 61 53 true (bt_ .leq 54 60),
 gp_ 62 50 false (pa_ 53 61),
 pr_ 63 (po_ 50 62)]
 (.cond (.tmp 63)
 (sq_ [pr_ 2 mf_]
 .ret)
 .skip))))
 (.ops [pr_ 64 (bk_ .add 42 .i64 1),
 mv_ 42 64])))))))
 (sq_ [pr_ 2 mt_]
 .ret))))
def o51:List Tmp:=[]
def r51:List RV:=[.tmp 2]
theorem t51:Text Tryz.prog 51 o51 c51 r51 65:=.mk_ Tryz.f51 rfl
def c80:ACode :=
 (sq_ [pr_ 1 (.boxr (.tmp 0)),
 pr_ 2 (.allocm [.pl (.bool false),.pl (.float .f64 0),.pl (.float .f64 0)])]
 (sq_ [pr_ 4 (fa_ 1 1),
 pr_ 5 (lf_ 1 4),
 pr_ 6 (fa_ 2 1),
 pr_ 7 (lf_ 1 6),
 pr_ 8 (.build [.pl (.bool false),.pl (.float .f64 0),.pl (.float .f64 0)] [(1,1,(.tmp 5)),(2,1,(.tmp 7))]),
 pr_ 3 (.allocm [.pl (.bool false),.pl (.float .f64 0),.pl (.float .f64 0)]),
 st_ (so_ 3 3 8)]
 (.seq (sq_ [pr_ 9 (fa_ 0 1),
 pr_ 10 (lf_ 1 9),
 pr_ 11 (bk_ .rem 10 .i64 3),
 pr_ 12 (bk_ .eql 11 .i64 0),
 mv_ 13 12,
 gp_ 14 13 false (fa_ 1 3),
 gp_ 15 13 false (lf_ 1 14),
 gp_ 16 13 false (fa_ 1 3),
 gp_ 17 13 false (lf_ 1 16),
 gp_ 18 13 false (bt_ .neq 15 17),
 pr_ 19 (po_ 13 18),
 mv_ 20 19,
 gp_ 21 20 false (fa_ 2 3),
 gp_ 22 20 false (lf_ 1 21),
 gp_ 23 20 false (fa_ 2 3),
 gp_ 24 20 false (lf_ 1 23),
 gp_ 25 20 false (bt_ .neq 22 24),
 pr_ 26 (po_ 20 25)]
 (.cond (.tmp 26)
 (sq_ [pr_ 27 (.build [.pl (.bool false),.pl (.float .f64 0),.pl (.float .f64 0)] [(0,1,(.const (.bool true)))]),
 st_ (so_ 3 2 27)]
 .ret)
 .skip))
 (.seq (sq_ [pr_ 28 (fa_ 2 3),
 pr_ 29 (lf_ 1 28),
 pr_ 30 (fa_ 1 3),
 pr_ 31 (lf_ 1 30),
 pr_ 32 (bt_ .lss 29 31)]
 (.cond (.tmp 32)
 (.ops [pr_ 33 (fa_ 2 3),
 pr_ 34 (lf_ 1 33),
 pr_ 35 (fa_ 1 3),
 pr_ 36 (lf_ 1 35),
 pr_ 37 (fa_ 1 3),
 st_ (so_ 1 37 34),
 pr_ 38 (fa_ 2 3),
 st_ (so_ 1 38 36)])
 .skip))
 (sq_ [pr_ 39 (lt_ 3 3),
 st_ (so_ 3 2 39)]
 .ret)))))
def o80:List Tmp:=[2,3]
def r80:List RV:=[.cell 2 3 true]
theorem t80:Text Tryz.prog 80 o80 c80 r80 40:=.mk_ Tryz.f80 rfl
def c94:ACode :=
 (sq_ [pr_ 2 (mi_ .u64 0)]
 (.seq (sq_ [mv_ 3 0,
 c1_ 4 132 3]
 (.cond (.tmp 4)
 (sq_ [pr_ 2 (mi_ .u64 9221120237041090561)]
 .ret)
 .skip))
 (sq_ [mv_ 5 0,
 c1_ 6 47 5,
 mv_ 2 6]
 .ret)))
def o94:List Tmp:=[]
def r94:List RV:=[.tmp 2]
theorem t94:Text Tryz.prog 94 o94 c94 r94 7:=.mk_ Tryz.f94 rfl
def c107:ACode :=
 (sq_ [pr_ 1 (.boxr (.tmp 0)),
 pr_ 2 mf_]
 (.seq (sq_ [pr_ 3 (fa_ 0 1),
 pr_ 4 (lf_ 1 3)]
 (.cond (.tmp 4)
 (sq_ [pr_ 5 (fa_ 1 1),
 pr_ 6 (lf_ 1 5),
 c1_ 7 94 6,
 pr_ 8 (bk_ .eql 7 .u64 0),
 mv_ 9 8,
 gp_ 10 9 true (fa_ 2 1),
 gp_ 11 9 true (lf_ 1 10),
 gc_ 12 9 true 94 [(.tmp 11)],
 gp_ 13 9 true (bk_ .eql 12 .u64 0),
 pr_ 14 (pa_ 9 13),
 mv_ 2 14]
 .ret)
 .skip))
 (sq_ [pr_ 15 (fa_ 1 1),
 pr_ 16 (lf_ 1 15),
 pr_ 17 (fa_ 2 1),
 pr_ 18 (lf_ 1 17),
 pr_ 19 (bt_ .leq 16 18),
 mv_ 2 19]
 .ret)))
def o107:List Tmp:=[]
def r107:List RV:=[.tmp 2]
theorem t107:Text Tryz.prog 107 o107 c107 r107 20:=.mk_ Tryz.f107 rfl
end Go.Proofs.YtmkmhhjkdaklbaaGreat
namespace Go.Proofs.YtmkmhhjkdaklbaaGreat
open Go Go.Ab Go.Cod
set_option maxRecDepth 100000
abbrev Fl (n:Nat):AV:=.pl (.float .f64 n)
structure RuM where
 src:List Mtr
 tgt:List Mtr
 any:Bool
 lo:Nat
 hi:Nat
 eq:List ByteArray
def txs (l:List ByteArray):List AV:=l.map fun s=>Sx s
def ruV (r:RuM):AV:=.agg [.sl 3 (mvs3 r.src),.sl 3 (mvs3 r.tgt),Bo r.any,Fl r.lo,Fl r.hi,.sl 1 (txs r.eq)]
theorem z0F (l:List ByteArray):(txs l).length=l.length:=List.length_map ..
theorem zcp (l:List ByteArray) (i:Nat) (h:i<l.length):(txs l)[i]?=some (Sx l[i]):=by simp[txs,h]
theorem txs_D (l:List ByteArray) (i:Nat) (h:i<l.length):(txs l)[i]?=some (Sx (l.getD i ⟨#[]⟩)):=by
 rw[zcp l i h,List.getD_eq_getElem?_getD,List.getElem?_eq_getElem h];rfl
def leF (a b:Nat):Bool:=FloatKind.f64.format.order a b==some .lt||FloatKind.f64.format.order a b==some .eq
theorem zcq (a b:Nat):(FloatKind.f64.format.order a b==some .lt||FloatKind.f64.format.order a b==some .eq)=leF a b:=rfl
def nanF (a:Nat):Bool:=FloatKind.f64.format.order a a != some .eq
theorem z4V (a:Nat):(FloatKind.f64.format.order a a != some .eq)=nanF a:=rfl
def bitsF (a:Nat):Nat:=if nanF a then 9221120237041090561 else a
def mayB (any:Bool) (lo hi:Nat):Bool:=if any then(((bitsF lo:Nat):Int)==0)&&(((bitsF hi:Nat):Int)==0) else leF lo hi
def eqOk (e:List ByteArray) (i:Nat):Bool:=nameB (e.getD i ⟨#[]⟩)&& !(decide (0<i)&&leS (e.getD i ⟨#[]⟩) (e.getD (i-1) ⟨#[]⟩))
def eqB (e:List ByteArray):Bool:=decide (e.length≤4)&&(List.range e.length).all (eqOk e)
def ruIs (r:RuM):Bool:=!(((r.src.length:Nat):Int)==0)&&(!(((r.tgt.length:Nat):Int)==0)&&(listB r.src&&(listB r.tgt&&(mayB r.any r.lo r.hi&&eqB r.eq))))
section
variable (σ:St)
theorem zgM (a:Nat):Ans Tryz.prog 132 [Fl a] σ (Bo (nanF a)) σ:=by
 refine Ans.of_run t132 ?_;simp -implicitDefEqProofs only[c132,r132,go_sem,z4V];exact Fini.ret rfl
theorem z5I (a:Nat):Ans Tryz.prog 47 [Fl a] σ (UN a) σ:=ext_bits.ok _ _ _ _ rfl
theorem z4W (a:Nat):Ans Tryz.prog 94 [Fl a] σ (UN (bitsF a)) σ:=by
 refine Ans.of_run t94 ?_;simp -implicitDefEqProofs only[c94,r94,go_sem];refine CO.intro (zgM σ a) ?_;unfold bitsF
 cases nanF a with
 |true =>
  simp -implicitDefEqProofs only[go_sem];exact Fini.ret rfl
 |false =>
  simp -implicitDefEqProofs only[go_sem];refine CO.intro (z5I σ a) ?_;simp -implicitDefEqProofs only[go_sem];exact Fini.ret rfl
theorem z1Q (any:Bool) (lo hi:Nat):Ans Tryz.prog 107 [.agg [Bo any,Fl lo,Fl hi]] σ (Bo (mayB any lo hi)) σ:=by
 refine Ans.of_run t107 ?_;unfold mayB
 cases any with
 |true =>
  simp -implicitDefEqProofs only[c107,r107,go_sem];refine CO.intro (z4W σ lo) ?_
  cases h:(((bitsF lo:Nat):Int)==0) with
  |false =>
   simp -implicitDefEqProofs only[go_sem,h];exact Fini.ret rfl
  |true =>
   simp -implicitDefEqProofs only[go_sem,h];refine CO.intro (z4W σ hi) ?_;simp -implicitDefEqProofs only[go_sem,h];exact Fini.ret rfl
 |false =>
  simp -implicitDefEqProofs only[c107,r107,go_sem,zcq];exact Fini.ret rfl
theorem z1V (r:RuM):Ans Tryz.prog 51 [ruV r] σ (Bo (ruIs r)) σ:=by
 obtain⟨src,tgt,any,lo,hi,eq⟩:=r;have d4:decide ((4:Int)<eq.length)=decide (4<eq.length):=decNN 4 _;refine Ans.of_run t51 ?_;unfold ruIs ruV;simp only
 cases h1:(((src.length:Nat):Int)==0) with
 |true =>
  simp -implicitDefEqProofs only[c51,r51,go_sem,z0r,h1];exact Fini.ret rfl
 |false =>
 cases h2:(((tgt.length:Nat):Int)==0) with
 |true =>
  simp -implicitDefEqProofs only[c51,r51,go_sem,z0r,h1,h2];exact Fini.ret rfl
 |false =>
 simp -implicitDefEqProofs only[c51,r51,go_sem,z0r,h1,h2];refine CO.intro (z1E σ src) ?_
 cases h3:listB src with
 |false =>
  simp -implicitDefEqProofs only[go_sem];exact Fini.ret rfl
 |true =>
 simp -implicitDefEqProofs only[go_sem];refine CO.intro (z1E σ tgt) ?_
 cases h4:listB tgt with
 |false =>
  simp -implicitDefEqProofs only[go_sem];exact Fini.ret rfl
 |true =>
 simp -implicitDefEqProofs only[go_sem];refine CO.intro (z1Q σ any lo hi) ?_
 cases h5:mayB any lo hi with
 |false =>
  simp -implicitDefEqProofs only[go_sem];exact Fini.ret rfl
 |true =>
 unfold eqB;by_cases h6:eq.length≤4
 · have x4:decide (4<eq.length)=false:=decide_eq_false (by omega)
   rw[decide_eq_true h6];simp -implicitDefEqProofs only[go_sem,z0F,d4,x4];refine Go.Ab.L.scan eq.length (eqOk eq) (fun i=>mkE 65 [(1,.rp [.sl 3 (mvs3 src),.sl 3 (mvs3 tgt),Bo any,Fl lo,Fl hi,.sl 1 (txs eq)]),(40,.sl 1 (txs eq)),(41,I eq.length),(42,I i)]) (fun _=>σ) ?_ ?_ rfl rfl
   · intro i hi hp J hJ;have hx:=txs_D eq i hi;have hF:eqOk eq i=false→(List.range eq.length).all (eqOk eq)=false:=fun h=>List.all_eq_false.2 ⟨i,List.mem_range.2 hi,by rw[h];decide⟩
     have hin:=wrap_succ (i:=i) (by omega)
     have d0:decide ((0:Int)<i)=decide (0<i):=by rw[Bool.eq_iff_iff];simp
     have hO:eqOk eq i=(nameB (eq.getD i ⟨#[]⟩)&& !(decide (0<i)&&leS (eq.getD i ⟨#[]⟩) (eq.getD (i-1) ⟨#[]⟩))):=rfl;rw[hO]at hJ hF;simp -implicitDefEqProofs only[mkE,go_sem,z0F,z0c hi,dec_lt hi,hx];refine CO.intro (z5v σ _) ?_;generalize eq.getD i ⟨#[]⟩=s at hJ hF hx
     cases hb:nameB s with
     |false =>
      rw[hb]at hF;rw[hF rfl];simp -implicitDefEqProofs only[go_sem];exact Fini.ret rfl
     |true =>
      rw[hb]at hJ hF;by_cases hz:i=0
      · subst hz;have hgo:=hJ rfl;simp -implicitDefEqProofs only[go_sem,d0,hin];exact hgo
      · have hpos:decide (0<i)=true:=decide_eq_true (by omega)
        have hx1:=txs_D eq (i-1) (by omega)
        have w1:IntKind.i64.wrap ((i:Int)-1)=((i-1:Nat):Int):=by rw[wrapN (by omega) (by omega)];omega
        have hlt1:(((i-1:Nat):Int)<eq.length)=True:=by simp;omega
        rw[hpos]at hJ hF;generalize eq.getD (i-1) ⟨#[]⟩=s1 at hJ hF hx1;have hle:(Op.bytesLess s.toList s1.toList||s.toList==s1.toList)=leS s s1:=rfl;simp -implicitDefEqProofs only[go_sem,d0,hpos,w1,z0F,hlt1,hx1,hle]
        cases h7:leS s s1 with
        |true =>
         rw[h7]at hF;rw[hF rfl];simp -implicitDefEqProofs only[go_sem];exact Fini.ret rfl
        |false =>
         rw[h7]at hJ;have hgo:=hJ rfl;simp -implicitDefEqProofs only[go_sem,hin];exact hgo
   · intro hp J;have hd:decide ((eq.length:Int)<eq.length)=false:=by simp
     simp -implicitDefEqProofs only[mkE,go_sem,z0F,hd];refine Fini.ret' rfl (z0Y ?_);exact(List.all_eq_true.2 fun i hi=>hp i (List.mem_range.1 hi)).symm
 · have x4:decide (4<eq.length)=true:=decide_eq_true (by omega)
   rw[decide_eq_false h6];simp -implicitDefEqProofs only[go_sem,z0F,d4,x4];exact Fini.ret rfl
end
def mkM (x:UInt8×ByteArray×ByteArray):Mtr:=((x.1.toNat:Int),x.2.1,x.2.2)
def mtrR:Rd Mtr:=z1x (seqR byteR (seqR (textR 12) (textR 40))) mkM
def listR:Rd (List Mtr):=onlyR (rowR 5 mtrR) listB
def putM (x:Mtr):Byt:=x.1.toNat.toUInt8::(txtB x.2.1++txtB x.2.2)
def putL (M:List Mtr):Byt:=z2p putM M
theorem za7:EndsR mtrR:=z1c (z1i ends_byte (z1i (z27 12) (z27 40))) _
theorem ends_list:EndsR listR:=z7S (zdP za7 5) _
theorem ze8:Fits mtrR putM (fun x=>0≤x.1∧x.1<256∧x.2.1.size≤12∧x.2.2.size≤40):=by
 refine dress_fits (z0H byte_fits (z0H (z1L (by decide)) (z1L (by decide)))) (g:=fun x=>(x.1.toNat.toUInt8,x.2.1,x.2.2)) ?_ ?_
 · rintro⟨c,n,v⟩ ⟨_,h1,h2⟩;have:=c.toNat_lt;refine⟨⟨by simp only[mkM];omega,by simp only[mkM];omega,h1,h2⟩,?_⟩
   simp only[putM,mkM,Int.toNat_natCast,toUInt8_toNat];rfl
 · rintro⟨k,n,v⟩ ⟨h0,h1,h2,h3⟩;refine⟨⟨trivial,h2,h3⟩,?_⟩;simp only at h0 h1;have:(k.toNat.toUInt8.toNat:Int)=k:=by rw[toNat_toUInt8 (by omega)];omega
   simp only[mkM,this]
theorem z97 {s:ByteArray} (h:(z2r s).2=true):s.size≤40:=by
 unfold z2r at h;rcases Nat.lt_or_ge 40 s.size with h40|h40
 · exfalso
   have:=(z9U s 8 0 true).2 rfl;simp[h40,this]at h
 · exact h40
theorem za8 {k:Int} {nm v:ByteArray} (h:isB k nm v=true):(1≤k∧k≤4)∧nm.size≤12∧v.size≤40:=by
 unfold isB nameB at h;simp only[Bool.and_eq_true,decide_eq_true_eq]at h;obtain⟨⟨⟨⟨_,hn⟩,_⟩,_⟩,h2⟩:=h;split at h2
 · rename_i hl;unfold likeB at hl;simp only[Bool.or_eq_true,beq_iff_eq]at hl;exact⟨by omega,hn,z97 h2⟩
 · simp only[Bool.and_eq_true,Bool.or_eq_true,beq_iff_eq,decide_eq_true_eq]at h2;exact⟨by omega,hn,by omega⟩
theorem z2U:Fits listR putL (fun M=>listB M=true):=by
 refine(z3m (z70 (by decide) ze8) listB).weaken fun M=>⟨fun h=>h.2,fun h=>⟨?_,h⟩⟩
 unfold listB at h;simp only[Bool.and_eq_true,decide_eq_true_eq]at h;refine⟨h.1,fun x hx=>?_⟩
 obtain⟨i,hi,rfl⟩:=List.getElem_of_mem hx;have h2:=List.all_eq_true.1 h.2 i (List.mem_range.2 hi);unfold okL isM at h2;simp only[Bool.and_eq_true]at h2;have e:M.getD i noM3=M[i]:=by rw[List.getD_eq_getElem?_getD,List.getElem?_eq_getElem hi];rfl
 rw[e]at h2;have:=za8 h2.1;omega
def mtrS (b:Byt) (q:Nat×Bool):Mtr×(Nat×Bool):=z1N (seqSt (runR byteR 0 b) (seqSt (runR (textR 12) ⟨#[]⟩ b) (runR (textR 40) ⟨#[]⟩ b))) mkM q
theorem z5J (b:Byt):StepsR b mtrR (mtrS b):=z0Q (z0y (z0h b byteR 0) (z0y (z0h b _ _) (z0h b _ _) (z27 12)) ends_byte) _
def listS (b:Byt):Nat×Bool→List Mtr×(Nat×Bool):=z0J (rowSt 5 b (mtrS b)) listB
theorem zb1 (b:Byt):StepsR b listR (listS b):=z17 (z5m (z5J b) za7 5) _
def readV {α:Type} (r:Option (α×Byt)) (b:Byt) (enc:α→AV) (none_:AV):AV:=match r with
 |some p=>.tup [enc p.1,I (b.length-p.2.length:Nat),Bo true]
 |none=>.tup [none_,I 0,Bo false]
theorem z2v {most:Nat} (b:Byt) (q:Nat×Bool):(runR (numR most) 0 b q).1≤most:=by
 unfold runR;split
 · exact Nat.zero_le _
 · split
   · exact Nat.zero_le _
   · rename_i p h;simp only[numR]at h
     cases hg:getN 0 (b.drop q.1) with
     |none=>simp[hg]at h
     |some x =>
      simp only[hg,Option.bind_some]at h;split at h
      · simp only[Option.some.injEq]at h;rw[←h];assumption
      · cases h
theorem zcr (M:List Mtr) (x:Mtr):mvs3 M++[mv3 x]=mvs3 (M++[x]):=by simp[mvs3]
theorem z1k {n:Nat} {x:AV} {i:Int} {c:Bool} (h:Bel n x):Bel n (.tup [x,I i,Bo c]):=.tup _ fun j hj=>by
 have:∀y∈([x,I i,Bo c]:List AV),Bel n y:=by
  intro y hy;simp only[List.mem_cons,List.not_mem_nil,or_false]at hy;rcases hy with rfl|rfl|rfl
  · exact h
  · exact .pl _
  · exact .pl _
 exact this _ (List.getElem_mem hj)
theorem zb2 (σ:St) (b:Byt) (hb:b.length≤50000):Ans Tryz.prog 56 [.sl 1 (byv b)] σ (readV (listR b) b (fun M=>.sl 3 (mvs3 M)) .nils) σ:=by
 have hS:=(zb1 b).top;refine Ans.of_run' t56 (fun hbel _=>?_)
 simp -implicitDefEqProofs only[c56,r56,go_sem];refine CO.intro (z4t σ b) ?_;simp -implicitDefEqProofs only[go_sem,List.append_assoc,List.length_append];generalize hq1:runR (numR 5) 0 b (0,false)=q1;have hin0:Inb b (0,false):=Nat.zero_le _;have hn:=z2d (σ++[rob b (0,false),.row 3 []]) σ.length b (0,false) 5 (by decide) (g0 _ _ _) hin0 hb
 rw[hq1,s0]at hn;refine CO.intro hn ?_;have hn5:q1.1≤5:=by rw[←hq1];exact z2v b _
 have hin1:Inb b q1.2:=by rw[←hq1];exact z0g _ _ _ _ hin0
 simp -implicitDefEqProofs only[go_sem];refine Go.Ab.L.count q1.1 (fun i=>mkE 40 [(5,.ptr σ.length 0),(6,.osl (σ.length+1) i),(12,UN q1.1),(13,UN i)]) (fun i=>σ++[rob b (itSt (mtrS b) q1.2 i).2,.row 3 (mvs3 (itSt (mtrS b) q1.2 i).1)]) ?_ ?_ rfl rfl
 · intro i hi J hJ;have hitI:=z2f (z5J b).inb q1.2 hin1 i;have hlen:=z32 (mtrS b) q1.2 i;simp only[itSt]at hJ;generalize itSt (mtrS b) q1.2 i=c at hJ hitI hlen⊢;obtain⟨l,q⟩:=c;simp only at hJ hitI hlen⊢;have d0:decide ((i:Int)<q1.1)=true:=dec_lt hi;have w0:=z1y (n:=i+1) (by omega)
   have e0:((i:Int)+1)=((i+1:Nat):Int):=rfl;unfold mtrS z1N seqSt at hJ;simp only at hJ;simp -implicitDefEqProofs only[mkE,go_sem,d0];have h1:=z18 (σ++[rob b q,.row 3 (mvs3 l)]) σ.length b q (g0 _ _ _) hitI hb;have hi2:=z0g byteR 0 b q hitI;generalize runR byteR 0 b q=r1 at h1 hi2 hJ;rw[s0]at h1;refine CO.intro h1 ?_;have h2:=z34 (σ++[rob b r1.2,.row 3 (mvs3 l)]) σ.length b r1.2 12 (by decide) (g0 _ _ _) hi2 hb
   have hi3:=z0g (textR 12) ⟨#[]⟩ b r1.2 hi2;generalize runR (textR 12) ⟨#[]⟩ b r1.2=r2 at h2 hi3 hJ;rw[s0]at h2;simp -implicitDefEqProofs only[go_sem,bc];refine CO.intro h2 ?_;have h3:=z34 (σ++[rob b r2.2,.row 3 (mvs3 l)]) σ.length b r2.2 40 (by decide) (g0 _ _ _) hi3 hb
   generalize runR (textR 40) ⟨#[]⟩ b r2.2=r3 at h3 hJ;rw[s0]at h3;simp -implicitDefEqProofs only[go_sem];refine CO.intro h3 ?_;have hl:(mvs3 l).length=i:=by rw[z0r,hlen]
   have hw:IntKind.i64.wrap (r1.1.toNat:Int)=(r1.1.toNat:Int):=wrapI (by have:=r1.1.toNat_lt;omega)
   have hle:i+1≤4294967296:=by omega
   have hsn:=zcr l (mkM (r1.1,r2.1,r3.1));simp -implicitDefEqProofs only[go_sem,hw,g1,s1,hl,hle,List.length_singleton,e0,w0];rw[←hsn]at hJ;exact hJ
 · intro J;have hitI:=z2f (z5J b).inb q1.2 hin1 q1.1;have hlen:=z32 (mtrS b) q1.2 q1.1
   have hL:listS b (0,false)=((itSt (mtrS b) q1.2 q1.1).1,took (itSt (mtrS b) q1.2 q1.1).2 0 (listB (itSt (mtrS b) q1.2 q1.1).1)):=by
    unfold listS z0J rowSt;rw[hq1]
   rw[hL]at hS;generalize itSt (mtrS b) q1.2 q1.1=c at hS hitI hlen⊢;obtain⟨l,q⟩:=c;simp only at hS hitI hlen⊢;have hl:(mvs3 l).length=q1.1:=by rw[z0r,hlen]
   have d0:decide ((q1.1:Int)<q1.1)=false:=by simp
   simp -implicitDefEqProofs only[mkE,go_sem,d0,g1,s1,hl];refine CO.intro (z1E _ l) ?_;have h2:=z0b (σ++[rob b q,.dead]) σ.length b q (listB l) (g0 _ _ _) hitI hb;rw[s0]at h2;simp -implicitDefEqProofs only[go_sem];refine CO.intro h2 ?_;have h3:=z35 (σ++[rob b (took q 0 (listB l)),.dead]) σ.length b (took q 0 (listB l)) (g0 _ _ _);simp -implicitDefEqProofs only[go_sem];refine CO.intro h3 ?_;have hbm:Bel σ.length (.sl 3 (mvs3 l)):=z0q _ _
   cases hr:listR b with
   |none =>
    have hb2:=hS.2 hr;rw[hb2];simp -implicitDefEqProofs only[go_sem];exact Fini.trim2 (σ':=σ) rfl rfl (Nat.le_refl _) (by unfold readV;exact z1k .nils) hbel
   |some p =>
    obtain⟨M,t⟩:=p;have hb2:=hS.1 M t hr;simp only[Prod.mk.injEq]at hb2;obtain⟨rfl,hb2⟩:=hb2;rw[hb2];simp -implicitDefEqProofs only[go_sem];refine Fini.trim2 (σ':=σ) rfl rfl (Nat.le_refl _) ?_ hbel;unfold readV;exact z1k hbm
theorem z86 (σ:St) (b:Byt) (hb:b.length≤50000):Ans Tryz.prog 56 [.sl 1 (byv b)] σ (readV (listR b) b (fun M=>.sl 3 (mvs3 M)) (.sl 3 [])) σ:=by
 refine(zb2 σ b hb).subR ?_;unfold readV
 cases listR b with
 |none=>exact .tup (.cons (.nils 3) (.refl _))
 |some p=>exact .refl _
theorem zfJ (n:Nat):((n:Int).tmod 128)=((n%128:Nat):Int):=rfl
theorem zfK (n:Nat):((n:Int).tdiv 128)=((n/128:Nat):Int):=rfl
theorem zgN (n:Nat):IntKind.u8.wrap (((n%128%256:Nat):Int)+128)=((n%128+128:Nat):Int):=by
 have:(((n%128%256:Nat):Int)+128)=((n%128%256+128:Nat):Int):=by push_cast;rfl
 rw[this,z5j];congr 1;omega
section
variable (σ:St)
theorem z4X (n:Nat) (hn:n<18446744073709551616):Ans Tryz.prog 75 [UN n] σ (.osl σ.length (putN n).length) (σ++[.row 1 (byv (putN n))]):=by
 have h10:=z0w hn;refine Ans.of_run t75 ?_;simp -implicitDefEqProofs only[c75,r75,go_sem];refine Go.Ab.L.intro (α:={ p:Nat×Byt // p.1<18446744073709551616∧p.2++putN p.1=putN n }) (fun p=>p.1.1) (fun p=>mkE 20 [(0,UN p.1.1),(3,.osl σ.length p.1.2.length)]) (fun p=>σ++[.row 1 (byv p.1.2)]) ?_ ⟨(n,[]),hn,rfl⟩ rfl rfl
 rintro⟨⟨m,pre⟩,hm,hp⟩ J hJ;have hl:pre.length+(putN m).length≤10:=by rw[←List.length_append,hp];exact h10
 have hw:=z1y hm;have hle:pre.length+1≤2^32:=by omega
 by_cases h:m<128
 · have d1:decide ((128:Int)≤m)=false:=by simp;omega
   have d2:IntKind.u8.wrap (m:Int)=m:=by rw[z5j];congr 1;omega
   simp -implicitDefEqProofs only[mkE,go_sem,d1,row1,z04,List.length_singleton,hle,d2];refine Fini.ret3 (n:=0) rfl ?_ ?_
   · show AV.osl σ.length (pre.length+1)=AV.osl σ.length (putN n).length;rw[←hp,z2c h];simp
   · rw[List.set_append_right _ _ (Nat.le_refl _)];simp only[Nat.sub_self,List.set_cons_zero];rw[←hp,z0l,z2c h,bc_of (show m<256 by omega)]
     rfl
 · have d1:decide ((128:Int)≤m)=true:=by simp;omega
   simp -implicitDefEqProofs only[mkE,go_sem,d1,row1,z04,List.length_singleton,hle,zfJ,z5j (n:=m%128),zgN,zfK,z1y (show m/128<18446744073709551616 by omega)]
   rw[List.set_append_right _ _ (Nat.le_refl _)];simp only[Nat.sub_self,List.set_cons_zero]
   have hgo:=hJ ⟨(m/128,pre++[(m%128+128).toUInt8]),by simp only;omega,by
    rw[←hp];simp only[List.append_assoc,List.singleton_append];rw[z4s h]⟩ (by simp only;omega)
   simp only[z0l,List.length_append,List.length_singleton]at hgo;rw[bc_of (show m%128+128<256 by omega)]
   exact hgo
theorem z87 (s:ByteArray) (hs:s.size≤4294967280):Ans Tryz.prog 76 [Sx s] σ (.osl σ.length (txtB s).length) (σ++[.row 1 (byv (txtB s))]):=by
 have h10:=z0w (n:=s.size) (by omega)
 have hsz:=z1w s;have hw:=z1y (n:=s.size) (by omega)
 have hle:(putN s.size).length+s.size≤2^32:=by omega
 refine Ans.of_run' t76 (fun hbel _=>?_)
 simp -implicitDefEqProofs only[c76,r76,go_sem,hw];refine CO.intro (z4X σ s.size (by omega)) ?_
 simp -implicitDefEqProofs only[go_sem,z9N,row1,z04,hsz,hle];simp -implicitDefEqProofs only[go_sem,g0,s0,z04,hsz,←z0l,List.length_append];refine Fini.ret3 (n:=0) rfl ?_ rfl;show AV.osl σ.length ((putN s.size).length+s.size)=AV.osl σ.length (txtB s).length;unfold txtB;rw[List.length_append,hsz]
theorem z1H (s:ByteArray) (hs:s.size≤4294967280):Ans Tryz.prog 76 [Sx s] σ (.sl 1 (byv (txtB s))) σ :=
 (z87 σ s hs).shut (by rw[z04]) (z1F _ _)
end
theorem z1W (s:ByteArray) (h:s.size≤1000000):(txtB s).length≤10+s.size:=by
 have h10:=z0w (n:=s.size) (by omega)
 rw[txtB,List.length_append,z1w];omega
theorem z3c {M:List Mtr} (h:listB M=true):M.length≤5∧∀x∈M,(1≤x.1∧x.1≤4)∧x.2.1.size≤12∧x.2.2.size≤40:=by
 unfold listB at h;simp only[Bool.and_eq_true,decide_eq_true_eq]at h;refine⟨h.1,fun x hx=>?_⟩
 obtain⟨i,hi,rfl⟩:=List.getElem_of_mem hx;have h2:=List.all_eq_true.1 h.2 i (List.mem_range.2 hi);unfold okL isM at h2;simp only[Bool.and_eq_true]at h2;have e:M.getD i noM3=M[i]:=by rw[List.getD_eq_getElem?_getD,List.getElem?_eq_getElem hi];rfl
 rw[e]at h2;exact za8 h2.1
def preL (M:List Mtr) (i:Nat):Byt:=putN M.length++z0Z putM (M.take i)
theorem z88 (M:List Mtr) (i:Nat) (h:i<M.length):preL M (i+1)=preL M i++putM M[i]:=by
 unfold preL z0Z;rw[List.take_succ_eq_append_getElem h,List.flatMap_append,List.append_assoc];simp
theorem z78 (M:List Mtr):preL M M.length=putL M:=by unfold preL putL z2p;rw[List.take_length]
theorem z79 {M:List Mtr} (h:listB M=true):∀i,i≤M.length→(preL M i).length≤10+100*i
 |0,_=>by
  have:=(z3c h).1;unfold preL z0Z;simp only[List.take_zero,List.flatMap_nil,List.append_nil];have:=z0w (n:=M.length) (by omega)
  omega
 |i+1,hi=>by
  have ih:=z79 h i (by omega)
  have hx:=(z3c h).2 M[i] (List.getElem_mem (by omega))
  have h1:=z1W (M[i]).2.1 (by omega)
  have h2:=z1W (M[i]).2.2 (by omega)
  rw[z88 M i (by omega),List.length_append]
  unfold putM;simp only[List.length_cons,List.length_append];omega
def z0S (M:List Mtr):Byt:=if listB M then putL M else[]
theorem zfL {k:Int} (h:1≤k∧k≤4):IntKind.u8.wrap k=((k.toNat.toUInt8.toNat:Nat):Int):=by
 obtain⟨n,rfl⟩:=Int.eq_ofNat_of_zero_le (show 0≤k by omega)
 have:n<256:=by omega
 rw[z5j,Nat.mod_eq_of_lt this,Int.toNat_natCast,toNat_toUInt8 this]
section
variable (σ:St)
theorem z6D (M:List Mtr) (hs:∀x∈M,x.2.1.size≤100000) (hL:listB M=true):Ans Tryz.prog 73 [.sl 3 (mvs3 M)] σ (.osl σ.length (putL M).length) (σ++[.row 1 (byv (putL M))]):=by
 obtain⟨h5,hM⟩:=z3c hL;have hpl:=z79 hL;have hw:=z1y (n:=M.length) (by omega)
 have e00:preL M 0=putN M.length:=by simp[preL,z0Z]
 refine Ans.of_run' t73 (fun hbel _=>?_)
 simp -implicitDefEqProofs only[c73,r73,go_sem];refine CO.intro (z1a σ M hs) ?_;rw[hL];simp -implicitDefEqProofs only[go_sem,z0r,hw];refine CO.intro (z4X σ M.length (by omega)) ?_
 simp -implicitDefEqProofs only[go_sem,z0r];refine Go.Ab.L.count M.length (fun i=>mkE 43 [(0,.sl 3 (mvs3 M)),(3,.osl σ.length (preL M i).length),(4,I i)]) (fun i=>σ++[.row 1 (byv (preL M i))]) ?_ ?_ (by rw[e00];rfl) (by rw[e00])
 · intro i hi J hJ;have hx:=za2 M i hi;have hxm:=hM M[i] (List.getElem_mem hi);have hp:=hpl (i+1) (by omega)
   rw[z88 M i hi]at hJ hp;generalize M[i]=x at hx hxm hJ hp;obtain⟨k,nm,v⟩:=x;simp only at hxm;generalize preL M i=pre at hJ hp⊢;have hkb:=zfL hxm.1;have hin:=wrap_succ (i:=i) (by omega)
   have h1:=z1W nm (by omega)
   have h2:=z1W v (by omega)
   unfold putM at hJ hp;simp only[List.length_append,List.length_cons]at hp;have l1:pre.length+1≤4294967296:=by omega
   have l2:pre.length+1+(txtB nm).length≤4294967296:=by omega
   have l3:pre.length+1+(txtB nm).length+(txtB v).length≤4294967296:=by omega
   simp -implicitDefEqProofs only[mkE,go_sem,z0r,z0c hi,dec_lt hi,hx,mv3,hkb,g0,s0,z04,l1,List.length_singleton];refine CD.intro (z1H _ nm (by omega)) ?_
   simp -implicitDefEqProofs only[go_sem,z0r,z0c hi,hx,mv3,g0,s0,z04,z0o,bc,l1,l2,List.length_append,List.length_singleton];refine CD.intro (z1H _ v (by omega)) ?_
   simp -implicitDefEqProofs only[go_sem,g0,s0,z04,z0o,bc,l1,l2,l3,List.length_append,List.length_singleton,hin];have e:pre++k.toNat.toUInt8::(txtB nm++txtB v)=pre++[k.toNat.toUInt8]++txtB nm++txtB v:=by simp
   simp only at hJ;rw[e]at hJ;simp only[z0l,List.length_append,List.length_singleton]at hJ;exact hJ
 · intro J;have d0:decide ((M.length:Int)<M.length)=false:=by simp
   simp -implicitDefEqProofs only[mkE,go_sem,d0,z0r,g0,s0,z04];exact Fini.ret3 (n:=0) rfl (by rw[z78];rfl) (by rw[z78])
theorem z6E (M:List Mtr) (hs:∀x∈M,x.2.1.size≤100000):Ans Tryz.prog 73 [.sl 3 (mvs3 M)] σ (.sl 1 (byv (z0S M))) σ:=by
 unfold z0S
 cases hL:listB M with
 |false =>
  have:Ans Tryz.prog 73 [.sl 3 (mvs3 M)] σ .nils σ:=by
   refine Ans.of_run t73 ?_;simp -implicitDefEqProofs only[c73,r73,go_sem];refine CO.intro (z1a σ M hs) ?_;rw[hL];simp -implicitDefEqProofs only[go_sem];exact Fini.ret rfl
  exact this.subR (.nils 1)
 |true=>exact(z6D σ M hs hL).shut (by rw[z04]) (z1F _ _)
end
end Go.Proofs.YtmkmhhjkdaklbaaGreat
