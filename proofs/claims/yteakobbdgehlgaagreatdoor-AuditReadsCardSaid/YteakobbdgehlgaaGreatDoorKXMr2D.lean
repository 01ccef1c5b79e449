/- The document's parser of patterns: ways, and the whole. No condition. -/
import Derived.Test.YteakobbdgehlgaaGreatDoorKXPDoc3D
import Derived.Test.YteakobbdgehlgaaGreatDoorKMRunD
import Derived.Test.YteakobbdgehlgaaGreatDoorKXCmpD
import Derived.Test.YteakobbdgehlgaaGreatDoorKShA1D
import Derived.Test.YteakobbdgehlgaaGreatDoorRows
import Derived.Test.YteakobbdgehlgaaGreatDoorAbArgD
set_option linter.unusedSimpArgs false
set_option linter.unusedVariables false
set_option linter.unusedSectionVars false
namespace Go.Proofs.YteakobbdgehlgaaGreatDoor
open Go Go.Ab
set_option maxRecDepth 100000
open Rex
def dwayL (s:ByteArray) (F:DF):Nat→List Rex→Nat→Nat→Bool→List Rex×Nat×Nat×Bool
 |0,K,a,d,b=>(K,a,d,b)
 |n+1,K,a,d,b=>if wGo s a b then dwayL s F n (K++[(F a).1]) (F a).2.1 (F a).2.2.1 (F a).2.2.2 else(K,a,d,b)
def dway (s:ByteArray) (F:DF) (d:Nat):DF:=fun a =>
 (one 2 (dwayL s F (s.size+1) [] a d false).1,(dwayL s F (s.size+1) [] a d false).2)
def z2f (s:ByteArray) (F:DF):Nat→List Rex→Nat→Nat→Bool→List Rex×Nat×Nat×Bool
 |0,K,a,d,b=>(K,a,d,b)
 |n+1,K,a,d,b=>if sees s a b 124 then z2f s F n (K++[(F (a+1)).1]) (F (a+1)).2.1 (F (a+1)).2.2.1 (F (a+1)).2.2.2 else(K,a,d,b)
def dways (s:ByteArray) (F:DF):DF:=fun a =>
 (one 3 (z2f s F (s.size+1) [(F a).1] (F a).2.1 (F a).2.2.1 (F a).2.2.2).1,(z2f s F (s.size+1) [(F a).1] (F a).2.1 (F a).2.2.1 (F a).2.2.2).2)
def dlvl (s:ByteArray) (W:DF) (d:Nat):DF:=dways s (dway s (z39 s (datom s W d)) d)
def DW (s:ByteArray):Nat→DF
 |0=>dlvl s (fun a=>(zeroR,a,0,false)) 8
 |k+1=>dlvl s (DW s k) (7-k)
def z7r (s:ByteArray):Rex×Bool :=
 if decide (40<s.size) then(zeroR,false)
 else if(DW s 8 0).2.2.2||decide ((DW s 8 0).2.1<s.size) then(zeroR,false) else((DW s 8 0).1,true)
structure DOK (g:Nat) (d:Nat) (F:DF):Prop where
 ge:∀a,a+g≤(F a).2.1
 deep:∀a,(F a).2.2.2=false→(F a).2.2.1=d
theorem z6h (s:ByteArray):∀(k:Nat) (S:List Int) (a:Nat) (b:Bool) (n:Nat),a≤(z0Q s k S a b n).2.1
 |0,S,a,b,n=>Nat.le_refl _
 |k+1,S,a,b,n=>by
  rw[z0Q];split
  · exact Nat.le_trans (Nat.le_trans (z6d s a) (zbb s a)) (z6h s k _ _ _ _)
  · exact Nat.le_refl _
theorem zbe (s:ByteArray) (a:Nat):a≤(z1J s a).2.1:=by
 have h:=Nat.le_trans (z35 s a false 94) (z6h s (s.size+3) z4 (nextA s a false 94) false 0);unfold z1J dOut;split
 · exact h
 · exact Nat.le_succ_of_le h
theorem z41 (s:ByteArray) {F:DF} {d:Nat} (h:∀a,a≤(F a).2.1):DOK 1 d (datom s F d):=by
 constructor
 · intro a;have h1:=h (a+1);have h2:=zbe s (a+1);unfold datom;simp only
   repeat' split
   all_goals simp only
   all_goals omega
 · intro a;unfold datom;simp only
   repeat' split
   all_goals simp
theorem z42 (s:ByteArray) (F:DF) (a:Nat):(z39 s F a).2.2=(F a).2.2∧(F a).2.1≤(z39 s F a).2.1:=by
 unfold z39;simp only
 repeat' split
 all_goals exact⟨rfl,by simp⟩
theorem z2Y (s:ByteArray) {F:DF} {d:Nat} (h:DOK 1 d F):DOK 1 d (z39 s F):=by
 constructor
 · intro a;exact Nat.le_trans (h.ge a) (z42 s F a).2
 · intro a;rw[(z42 s F a).1];exact h.deep a
theorem z6H (s:ByteArray) {F:DF} {d:Nat} (h:DOK 1 d F):∀n K a d0 b,a≤(dwayL s F n K a d0 b).2.1∧((b=false→d0=d)→(dwayL s F n K a d0 b).2.2.2=false→(dwayL s F n K a d0 b).2.2.1=d)
 |0,K,a,d0,b=>⟨Nat.le_refl _,fun h1 h2=>h1 h2⟩
 |n+1,K,a,d0,b=>by
  rw[dwayL];split
  · have h1:=z6H s h n (K++[(F a).1]) (F a).2.1 (F a).2.2.1 (F a).2.2.2;exact⟨Nat.le_trans (Nat.le_trans (Nat.le_succ a) (h.ge a)) h1.1,fun _ h2=>h1.2 (h.deep a) h2⟩
  · exact⟨Nat.le_refl _,fun h1 h2=>h1 h2⟩
theorem z8h (s:ByteArray) {F:DF} {d:Nat} (h:DOK 1 d F):DOK 0 d (dway s F d) :=
 ⟨fun a=>(z6H s h (s.size+1) [] a d false).1,fun a=>(z6H s h (s.size+1) [] a d false).2 (fun _=>rfl)⟩
theorem z5q (s:ByteArray) {F:DF} {d:Nat} (h:DOK 0 d F):∀n K a d0 b,a≤(z2f s F n K a d0 b).2.1∧((b=false→d0=d)→(z2f s F n K a d0 b).2.2.2=false→(z2f s F n K a d0 b).2.2.1=d)
 |0,K,a,d0,b=>⟨Nat.le_refl _,fun h1 h2=>h1 h2⟩
 |n+1,K,a,d0,b=>by
  rw[z2f];split
  · have h1:=z5q s h n (K++[(F (a+1)).1]) (F (a+1)).2.1 (F (a+1)).2.2.1 (F (a+1)).2.2.2;exact⟨Nat.le_trans (Nat.le_trans (Nat.le_succ a) (h.ge (a+1))) h1.1,fun _ h2=>h1.2 (h.deep (a+1)) h2⟩
  · exact⟨Nat.le_refl _,fun h1 h2=>h1 h2⟩
theorem zcJ (s:ByteArray) {F:DF} {d:Nat} (h:DOK 0 d F):DOK 0 d (dways s F):=by
 constructor
 · intro a;exact Nat.le_trans (h.ge a) (z5q s h (s.size+1) [(F a).1] (F a).2.1 (F a).2.2.1 (F a).2.2.2).1
 · intro a;exact(z5q s h (s.size+1) [(F a).1] (F a).2.1 (F a).2.2.1 (F a).2.2.2).2 (h.deep a)
theorem zbf (s:ByteArray) {W:DF} (h:∀a,a≤(W a).2.1) (d:Nat):DOK 0 d (dlvl s W d):=zcJ s (z8h s (z2Y s (z41 s h)))
theorem ze0 (s:ByteArray):∀k,DOK 0 (8-k) (DW s k)
 |0=>zbf s (fun a=>Nat.le_refl _) 8
 |k+1=>by
  have:=zbf s (ze0 s k).ge (7-k);rw[show 8-(k+1)=7-k by omega]
  exact this
section
variable (s:ByteArray)
theorem z95 (F:DF) (d:Nat) (hF:DAns 176 true s d F) (hok:DOK 1 d F):DAns 171 false s d (dway s F d):=by
 intro σ p a hp hs _;refine Ans.of_run' t171 (fun hbel _=>?_)
 have hb2:=z5n hbel;simp -implicitDefEqProofs only[c171,r171,go_sem,List.append_assoc,List.length_append,List.length_set];unfold dway;simp only;have hm:s.size-a<s.size+1:=by omega
 generalize hres:dwayL s F (s.size+1) [] a d false=res
 refine L.intro (α:={ x:Nat×List Rex×Nat×Nat×Bool // dwayL s F x.1 x.2.1 x.2.2.1 x.2.2.2.1 x.2.2.2.2=res∧s.size-x.2.2.1<x.1∧(x.2.2.2.2=false→x.2.2.2.1=d)∧x.2.1.length≤x.2.2.1 })
  (fun x=>x.1.1)
  (fun x=>mkE 43 [(0,.ptr p 0),(2,.ptr σ.length 0),(3,vK σ.length x.1.2.1)])
  (fun x=>σ.set p (dob s x.1.2.2.1 x.1.2.2.2.1 x.1.2.2.2.2)++exK x.1.2.1)
  (fun x J hJ=>?_) ⟨(s.size+1,[],a,d,false),hres,hm,fun _=>rfl,Nat.zero_le _⟩ ?_ ?_
 · obtain⟨⟨n,K,a1,d1,b1⟩,h1,h2,h3,h4⟩:=x;simp only at h1 h2 h3 h4 hJ⊢
   cases n with
   |zero=>omega
   |succ n =>
   rw[dwayL]at h1;have k124:(((byteAt s a1:Nat):Int)==124)=(byteAt s a1==124):=z0i _ 124;have n124:(((byteAt s a1:Nat):Int) != 124)= !(byteAt s a1==124):=by rw[bne,k124]
   have k41:(((byteAt s a1:Nat):Int)==41)=(byteAt s a1==41):=z0i _ 41;have n41:(((byteAt s a1:Nat):Int) != 41)= !(byteAt s a1==41):=by rw[bne,k41]
   cases hgo:wGo s a1 b1 with
   |true =>
    rw[hgo,if_pos rfl]at h1;obtain⟨ha,hb⟩:=zdY hgo;subst hb;have hd1:=h3 rfl;subst hd1;have hov:over s a1 false=false:=by simp[wGo]at hgo;exact hgo.1
    have hs1:(byteAt s a1==124)=false:=by rw[←z0B hov];simp[wGo]at hgo;exact hgo.2.1
    have hs2:(byteAt s a1==41)=false:=by rw[←z0B hov];simp[wGo]at hgo;exact hgo.2.2
    have ha':(a1:Int)<s.size:=by omega
    have hea:=hok.ge a1;have hJ':=hJ ⟨(n,K++[(F a1).1],(F a1).2.1,(F a1).2.2.1,(F a1).2.2.2),h1,by simp only;omega,hok.deep a1,by simp;omega⟩ (Nat.lt_succ_self n)
    simp only[z4N,z6E]at hJ';clear hJ h1 hgo;simp -implicitDefEqProofs only[mkE,go_sem];refine CD.intro (z1G hp a1 d1 false _) ?_;simp -implicitDefEqProofs only[go_sem,hov,gA hp,sA hp,gL0,sL0,gL1,sL1,ha',z09,k124,n124,hs1,k41,n41,hs2];refine CO.intro (hF.ex hp a1 hs (fun _=>ha) _) ?_
    generalize F a1=w at hJ' hea⊢;obtain⟨x,a2,d2,b2⟩:=w;simp only at hJ' hea⊢;rw[rv_eq x]at hJ'⊢;rcases K with _|⟨y,K⟩
    all_goals rcases rvK_cases x.ks with hK|⟨l,hK⟩
    all_goals rw[hK]at hJ'⊢
    all_goals first
    |(simp -implicitDefEqProofs only[go_sem,z3n,z4r,gA hp,sA hp,gL0,sL0,gL1,sL1]at hJ'⊢
      simpa[mkE] using hJ')
    |(have g1:(K.length+1+1≤2^32)=True:=by simp at h4;simp;omega
      simp -implicitDefEqProofs only[go_sem,z0w,z0Z,gA hp,sA hp,gL0,sL0,gL1,sL1,List.length_map,g1]at hJ'⊢
      simpa[mkE] using hJ')
   |false =>
    rw[hgo,if_neg Bool.false_ne_true]at h1;subst h1;clear hJ h2
    have hex:over s a1 b1=true∨(over s a1 b1=false∧b1=false∧(byteAt s a1==124)=true)∨(over s a1 b1=false∧b1=false∧(byteAt s a1==124)=false∧(byteAt s a1==41)=true):=by
     cases h1:over s a1 b1
     · have hb:b1=false:=by cases b1<;>simp[over]at h1⊢
       subst hb;unfold wGo at hgo;rw[z0B h1,z0B h1,h1]at hgo;cases h2:byteAt s a1==124<;>cases h3:byteAt s a1==41<;>simp[h2,h3]at hgo⊢
     · exact .inl rfl
    have hend:True:=trivial;rcases hex with ho|⟨ho,hb,h5⟩|⟨ho,hb,h5,h6⟩
    · simp -implicitDefEqProofs only[mkE,go_sem];refine CD.intro (z1G hp a1 d1 b1 _) ?_;simp -implicitDefEqProofs only[go_sem,ho];rcases K with _|⟨y,_|⟨z,K⟩⟩
      · simp -implicitDefEqProofs only[go_sem,z3n,z4r,gA hp,sA hp,gL0,sL0,gL1,sL1];refine Fini.trim2 (ex:=[_]) ?_ rfl ?_ (z0c _ _) (hb2 _ _ _)
        · ((try simp -implicitDefEqProofs only[go_sem,resA,z01,rvA,oneOf,gL0]);first|done|rfl|(rw[z1x];rfl)|rw[rv_eq,hK])
        · simp
      · have g3:(((1:Nat):Int)==1)=true:=rfl;have g4:((0:Int)<((1:Nat):Int))=True:=by simp
        have hbx:∀n,Bel n y.rv:=fun n=>z0c n y
        rw[z0w,z0Z,List.map_cons,List.map_nil,show(one 2 [y])=y from rfl]
        rw[rv_eq y]at hbx⊢;rcases rvK_cases y.ks with hK|⟨l,hK⟩
        all_goals rw[hK]at hbx⊢
        all_goals simp -implicitDefEqProofs only[go_sem,gA hp,sA hp,gL0,sL0,gL1,sL1,List.length_map,g3,g4,Int.toNat_zero]
        all_goals (
         refine Fini.trim2 (ex:=[_,_]) ?_ rfl ?_ (hbx _) (hb2 _ _ _)
         · ((try simp -implicitDefEqProofs only[go_sem,resA,z01,rvA,oneOf,gL0]);first|done|rfl|(rw[z1x];rfl)|rw[rv_eq,hK])
         · simp)
      · rw[z0w,z0Z];have g2:(((K.length+1+1:Nat):Int)==1)=false:=by simp;omega
        simp -implicitDefEqProofs only[go_sem,gA hp,sA hp,gL0,sL0,gL1,sL1,List.length_map,g2];refine Fini.trim2 (ex:=[_,_]) ?_ rfl ?_ (z0c _ _) (hb2 _ _ _)
        · ((try simp -implicitDefEqProofs only[go_sem,resA,z01,rvA,oneOf,gL0]);first|done|rfl|(rw[z1x];rfl)|rw[rv_eq,hK])
        · simp
    · subst hb;have hlt:=z1t ho;have ha':(a1:Int)<s.size:=by omega
      simp -implicitDefEqProofs only[mkE,go_sem];refine CD.intro (z1G hp a1 d1 false _) ?_;simp -implicitDefEqProofs only[go_sem,ho,gA hp,sA hp,gL0,sL0,gL1,sL1,ha',z09,k124,n124,h5];rcases K with _|⟨y,_|⟨z,K⟩⟩
      · simp -implicitDefEqProofs only[go_sem,z3n,z4r,gA hp,sA hp,gL0,sL0,gL1,sL1];refine Fini.trim2 (ex:=[_]) ?_ rfl ?_ (z0c _ _) (hb2 _ _ _)
        · ((try simp -implicitDefEqProofs only[go_sem,resA,z01,rvA,oneOf,gL0]);first|done|rfl|(rw[z1x];rfl)|rw[rv_eq,hK])
        · simp
      · have g3:(((1:Nat):Int)==1)=true:=rfl;have g4:((0:Int)<((1:Nat):Int))=True:=by simp
        have hbx:∀n,Bel n y.rv:=fun n=>z0c n y
        rw[z0w,z0Z,List.map_cons,List.map_nil,show(one 2 [y])=y from rfl]
        rw[rv_eq y]at hbx⊢;rcases rvK_cases y.ks with hK|⟨l,hK⟩
        all_goals rw[hK]at hbx⊢
        all_goals simp -implicitDefEqProofs only[go_sem,gA hp,sA hp,gL0,sL0,gL1,sL1,List.length_map,g3,g4,Int.toNat_zero]
        all_goals (
         refine Fini.trim2 (ex:=[_,_]) ?_ rfl ?_ (hbx _) (hb2 _ _ _)
         · ((try simp -implicitDefEqProofs only[go_sem,resA,z01,rvA,oneOf,gL0]);first|done|rfl|(rw[z1x];rfl)|rw[rv_eq,hK])
         · simp)
      · rw[z0w,z0Z];have g2:(((K.length+1+1:Nat):Int)==1)=false:=by simp;omega
        simp -implicitDefEqProofs only[go_sem,gA hp,sA hp,gL0,sL0,gL1,sL1,List.length_map,g2];refine Fini.trim2 (ex:=[_,_]) ?_ rfl ?_ (z0c _ _) (hb2 _ _ _)
        · ((try simp -implicitDefEqProofs only[go_sem,resA,z01,rvA,oneOf,gL0]);first|done|rfl|(rw[z1x];rfl)|rw[rv_eq,hK])
        · simp
    · subst hb;have hlt:=z1t ho;have ha':(a1:Int)<s.size:=by omega
      simp -implicitDefEqProofs only[mkE,go_sem];refine CD.intro (z1G hp a1 d1 false _) ?_;simp -implicitDefEqProofs only[go_sem,ho,gA hp,sA hp,gL0,sL0,gL1,sL1,ha',z09,k124,n124,h5,k41,n41,h6];rcases K with _|⟨y,_|⟨z,K⟩⟩
      · simp -implicitDefEqProofs only[go_sem,z3n,z4r,gA hp,sA hp,gL0,sL0,gL1,sL1];refine Fini.trim2 (ex:=[_]) ?_ rfl ?_ (z0c _ _) (hb2 _ _ _)
        · ((try simp -implicitDefEqProofs only[go_sem,resA,z01,rvA,oneOf,gL0]);first|done|rfl|(rw[z1x];rfl)|rw[rv_eq,hK])
        · simp
      · have g3:(((1:Nat):Int)==1)=true:=rfl;have g4:((0:Int)<((1:Nat):Int))=True:=by simp
        have hbx:∀n,Bel n y.rv:=fun n=>z0c n y
        rw[z0w,z0Z,List.map_cons,List.map_nil,show(one 2 [y])=y from rfl]
        rw[rv_eq y]at hbx⊢;rcases rvK_cases y.ks with hK|⟨l,hK⟩
        all_goals rw[hK]at hbx⊢
        all_goals simp -implicitDefEqProofs only[go_sem,gA hp,sA hp,gL0,sL0,gL1,sL1,List.length_map,g3,g4,Int.toNat_zero]
        all_goals (
         refine Fini.trim2 (ex:=[_,_]) ?_ rfl ?_ (hbx _) (hb2 _ _ _)
         · ((try simp -implicitDefEqProofs only[go_sem,resA,z01,rvA,oneOf,gL0]);first|done|rfl|(rw[z1x];rfl)|rw[rv_eq,hK])
         · simp)
      · rw[z0w,z0Z];have g2:(((K.length+1+1:Nat):Int)==1)=false:=by simp;omega
        simp -implicitDefEqProofs only[go_sem,gA hp,sA hp,gL0,sL0,gL1,sL1,List.length_map,g2];refine Fini.trim2 (ex:=[_,_]) ?_ rfl ?_ (z0c _ _) (hb2 _ _ _)
        · ((try simp -implicitDefEqProofs only[go_sem,resA,z01,rvA,oneOf,gL0]);first|done|rfl|(rw[z1x];rfl)|rw[rv_eq,hK])
        · simp
 · simp[mkE,vK]
 · rfl
theorem z7s (F:DF) (d:Nat) (hF:DAns 171 false s d F) (hok:DOK 0 d F):DAns 164 false s d (dways s F):=by
 intro σ p a hp hs hg;refine Ans.of_run' t164 (fun hbel _=>?_)
 have hb2:=z5n hbel;simp -implicitDefEqProofs only[c164,r164,go_sem,List.append_assoc,List.length_append,List.length_set];unfold dways;simp only;refine CO.intro (hF.ex hp a hs hg _) ?_;have hd0:=hok.deep a;generalize F a=w0 at hd0⊢;obtain⟨x0,a0,d0,b0⟩:=w0;simp only at hd0⊢;have hm:s.size-a0<s.size+1:=by omega
 generalize hres:z2f s F (s.size+1) [x0] a0 d0 b0=res;rw[rv_eq x0];rcases rvK_cases x0.ks with hK0|⟨l0,hK0⟩
 all_goals rw[hK0]
 all_goals simp -implicitDefEqProofs only[go_sem,gA hp,sA hp,gL0,sL0,gL1,sL1,List.append_assoc,List.length_append,List.length_set]
 all_goals (
  refine L.intro (α:={ x:Nat×List Rex×Nat×Nat×Bool // z2f s F x.1 x.2.1 x.2.2.1 x.2.2.2.1 x.2.2.2.2=res∧s.size-x.2.2.1<x.1∧(x.2.2.2.2=false→x.2.2.2.1=d)∧x.2.1.length≤x.2.2.1+1∧x.2.1≠[] })
   (fun x=>x.1.1)
   (fun x=>mkE 41 [(0,.ptr p 0),(2,.ptr σ.length 0),(3,vK σ.length x.1.2.1)])
   (fun x=>σ.set p (dob s x.1.2.2.1 x.1.2.2.2.1 x.1.2.2.2.2)++exK x.1.2.1)
   (fun x J hJ=>?_) ⟨(s.size+1,[x0],a0,d0,b0),hres,hm,hd0,by simp,by simp⟩ ?_ ?_)
 all_goals try (simp[mkE,vK];done)
 all_goals try (simp only[z0w,List.map_cons,List.map_nil,rv_eq x0,hK0];done)
 all_goals (
  obtain⟨⟨n,K,a1,d1,b1⟩,h1,h2,h3,h4,h5⟩:=x;simp only at h1 h2 h3 h4 h5 hJ⊢;rcases n with _|n
  · omega
  rw[z2f]at h1;have k124:(((byteAt s a1:Nat):Int)==124)=(byteAt s a1==124):=z0i _ 124;have n124:(((byteAt s a1:Nat):Int) != 124)= !(byteAt s a1==124):=by rw[bne,k124]
  cases hgo:sees s a1 b1 124
  · rw[hgo,if_neg Bool.false_ne_true]at h1;subst h1;clear hJ h2;simp -implicitDefEqProofs only[mkE,go_sem];refine CD.intro (z1G hp a1 d1 b1 _) ?_;cases ho:over s a1 b1
    · have hb:b1=false:=by cases b1<;>simp[over]at ho⊢
      subst hb;have hlt:=z1t ho;have ha':(a1:Int)<s.size:=by omega
      rw[z0B ho]at hgo;simp -implicitDefEqProofs only[go_sem,ho,gA hp,sA hp,gL0,sL0,gL1,sL1,ha',z09,k124,n124,hgo];rcases K with _|⟨y,_|⟨z,K⟩⟩
      · exact absurd rfl h5
      · have g3:(((1:Nat):Int)==1)=true:=rfl;have g4:((0:Int)<((1:Nat):Int))=True:=by simp
        have hbx:∀n,Bel n y.rv:=fun n=>z0c n y
        rw[z0w,z0Z,List.map_cons,List.map_nil,show(one 3 [y])=y from rfl]
        rw[rv_eq y]at hbx⊢;rcases rvK_cases y.ks with hK|⟨l,hK⟩
        all_goals rw[hK]at hbx⊢
        all_goals simp -implicitDefEqProofs only[go_sem,gA hp,sA hp,gL0,sL0,gL1,sL1,List.length_map,g3,g4,Int.toNat_zero]
        all_goals (
         refine Fini.trim2 (ex:=[_,_]) ?_ rfl ?_ (hbx _) (hb2 _ _ _)
         · ((try simp -implicitDefEqProofs only[go_sem,resA,z01,rvA,oneOf,gL0]);first|done|rfl|(rw[z1x];rfl)|rw[rv_eq,hK])
         · simp)
      · rw[z0w,z0Z];have g2:(((K.length+1+1:Nat):Int)==1)=false:=by simp;omega
        simp -implicitDefEqProofs only[go_sem,gA hp,sA hp,gL0,sL0,gL1,sL1,List.length_map,g2];refine Fini.trim2 (ex:=[_,_]) ?_ rfl ?_ (z0c _ _) (hb2 _ _ _)
        · ((try simp -implicitDefEqProofs only[go_sem,resA,z01,rvA,oneOf,gL0]);first|done|rfl|(rw[z1x];rfl)|rw[rv_eq,hK])
        · simp
    · simp -implicitDefEqProofs only[go_sem,ho];rcases K with _|⟨y,_|⟨z,K⟩⟩
      · exact absurd rfl h5
      · have g3:(((1:Nat):Int)==1)=true:=rfl;have g4:((0:Int)<((1:Nat):Int))=True:=by simp
        have hbx:∀n,Bel n y.rv:=fun n=>z0c n y
        rw[z0w,z0Z,List.map_cons,List.map_nil,show(one 3 [y])=y from rfl]
        rw[rv_eq y]at hbx⊢;rcases rvK_cases y.ks with hK|⟨l,hK⟩
        all_goals rw[hK]at hbx⊢
        all_goals simp -implicitDefEqProofs only[go_sem,gA hp,sA hp,gL0,sL0,gL1,sL1,List.length_map,g3,g4,Int.toNat_zero]
        all_goals (
         refine Fini.trim2 (ex:=[_,_]) ?_ rfl ?_ (hbx _) (hb2 _ _ _)
         · ((try simp -implicitDefEqProofs only[go_sem,resA,z01,rvA,oneOf,gL0]);first|done|rfl|(rw[z1x];rfl)|rw[rv_eq,hK])
         · simp)
      · rw[z0w,z0Z];have g2:(((K.length+1+1:Nat):Int)==1)=false:=by simp;omega
        simp -implicitDefEqProofs only[go_sem,gA hp,sA hp,gL0,sL0,gL1,sL1,List.length_map,g2];refine Fini.trim2 (ex:=[_,_]) ?_ rfl ?_ (z0c _ _) (hb2 _ _ _)
        · ((try simp -implicitDefEqProofs only[go_sem,resA,z01,rvA,oneOf,gL0]);first|done|rfl|(rw[z1x];rfl)|rw[rv_eq,hK])
        · simp
  · rw[hgo,if_pos rfl]at h1;obtain⟨ha,hb⟩:=z8c hgo;subst hb;have hd1:=h3 rfl;subst hd1
    have ho:over s a1 false=false:=by
     cases h:over s a1 false
     · rfl
     · simp[sees,h]at hgo
    have ha':(a1:Int)<s.size:=by omega
    have hea:=hok.ge (a1+1);have hJ':=hJ ⟨(n,K++[(F (a1+1)).1],(F (a1+1)).2.1,(F (a1+1)).2.2.1,(F (a1+1)).2.2.2),h1,by simp only;omega,hok.deep (a1+1),by simp;omega,by simp⟩ (Nat.lt_succ_self n)
    simp only[z4N,z6E]at hJ';clear hJ h1;rw[z0B ho]at hgo;simp -implicitDefEqProofs only[mkE,go_sem];refine CD.intro (z1G hp a1 d1 false _) ?_;simp -implicitDefEqProofs only[go_sem,ho,gA hp,sA hp,gL0,sL0,gL1,sL1,ha',z09,k124,n124,hgo,z0P (show a1≤4294967296 by omega)]
    refine CO.intro (hF.ex hp (a1+1) hs (fun h=>absurd h Bool.false_ne_true) _) ?_
    generalize F (a1+1)=w at hJ' hea⊢;obtain⟨x,a2,d2,b2⟩:=w;simp only at hJ' hea⊢;rw[rv_eq x]at hJ'⊢;rcases K with _|⟨y,K⟩
    · exact absurd rfl h5
    have g1:(K.length+1+1≤2^32)=True:=by simp at h4;simp;omega
    rcases rvK_cases x.ks with hK|⟨l,hK⟩
    all_goals rw[hK]at hJ'⊢
    all_goals (
     simp -implicitDefEqProofs only[go_sem,z0w,z0Z,gA hp,sA hp,gL0,sL0,gL1,sL1,List.length_map,g1]at hJ'⊢
     simpa[mkE] using hJ'))
theorem ze1:∀k,k≤8→DAns 164 false s (8-k) (DW s k)
 |0,_=>z7s s _ 8 (z95 s _ 8 (z5p s _ 8 (z7q s _ 8 (Nat.le_refl _) (fun h=>absurd h (Nat.lt_irrefl _)) (fun h=>absurd h (Nat.lt_irrefl _))))
  (z2Y s (z41 s (fun a=>Nat.le_refl _)))) (z8h s (z2Y s (z41 s (fun a=>Nat.le_refl _))))
 |k+1,h=>by
  have ih:=ze1 k (by omega)
  have hk:=ze0 s k;have e:8-(k+1)=7-k:=by omega
  have e2:8-k=7-k+1:=by omega
  rw[e2]at ih hk;rw[e]
  exact z7s s _ (7-k) (z95 s _ (7-k) (z5p s _ (7-k) (z7q s _ (7-k) (by omega) (fun _=>ih) (fun _=>hk.deep)))
   (z2Y s (z41 s hk.ge))) (z8h s (z2Y s (z41 s hk.ge)))
theorem z9Y (σ:St):Ans Tryz.prog 154 [Sx s] σ (.tup [(z7r s).1.rv,Bo (z7r s).2]) σ:=by
 have hw:s.size≤40→Ans Tryz.prog 164 [.ptr (σ.length+1) 0] (σ++[box0,dob s 0 0 false]) (DW s 8 0).1.rv (σ++[box0,dob s (DW s 8 0).2.1 (DW s 8 0).2.2.1 (DW s 8 0).2.2.2]):=by
  intro hs;have:=ze1 s 8 (Nat.le_refl _) (σ++[box0,dob s 0 0 false]) (σ.length+1) 0 (by simp) hs (fun h=>absurd h Bool.false_ne_true)
  have e:∀o,(σ++[box0,dob s 0 0 false]).set (σ.length+1) o=σ++[box0,o]:=fun o=>by rw[List.set_append_right _ _ (by omega)];simp
  rwa [e,e]at this
 have e40:decide ((40:Int)<(s.size:Int))=decide (40<s.size):=by rw[Bool.eq_iff_iff];simp;omega
 have k0:∀(x y:Ob) (ex:St),(σ++x::y::ex)[σ.length]?=some x:=fun x y ex=>by rw[List.getElem?_append_right (by simp)];simp
 have k0':∀(x:Ob),(σ++[x])[σ.length]?=some x:=fun x=>by rw[List.getElem?_append_right (by simp)];simp
 have k1:∀(x y:Ob) (ex:St),(σ++x::y::ex)[σ.length+1]?=some y:=fun x y ex=>by rw[List.getElem?_append_right (by simp)];simp
 have s0:∀(x z:Ob) (ex:St),(σ++x::ex).set σ.length z=σ++z::ex:=fun x z ex=>by rw[List.set_append_right _ _ (by simp)];simp
 refine Ans.of_run' t154 (fun hbel _=>?_)
 simp -implicitDefEqProofs only[c154,r154,go_sem,List.append_assoc,List.length_append,e40];unfold z7r
 cases h40:decide (40<s.size) with
 |true =>
  simp -implicitDefEqProofs only[go_sem,k0',s0];refine Fini.trim2 (σ':=σ) (ex:=[_]) ?_ rfl (Nat.le_refl _) ?_ hbel
  · simp -implicitDefEqProofs only[go_sem,resA,z01,rvA,oneOf,k0'];rfl
  · exact z38 (z0c _ zeroR) _
 |false =>
  have hs:s.size≤40:=by
   have:¬40<s.size:=by simpa using h40
   omega
  simp -implicitDefEqProofs only[go_sem,List.append_assoc,List.length_append];refine CO.intro (hw hs) ?_;generalize DW s 8 0=w;obtain⟨x,a,d,b⟩:=w;simp only;have eL:decide ((a:Int)<(s.size:Int))=decide (a<s.size):=by rw[Bool.eq_iff_iff];simp
  have hbx:∀n,Bel n x.rv:=fun n=>z0c n x
  rw[rv_eq x];have hrx:=rv_eq x;rcases rvK_cases x.ks with hK|⟨l,hK⟩
  all_goals (
   rw[hK]at hrx⊢;cases b
   · cases hlt:decide (a<s.size)
     · simp -implicitDefEqProofs only[go_sem,k0,k1,s0,List.append_assoc,List.length_append,eL,hlt,Bool.or_self,hrx];rw[hrx]at hbx;refine Fini.trim2 (σ':=σ) (ex:=[_,_]) ?_ rfl (Nat.le_refl _) ?_ hbel
       · simp -implicitDefEqProofs only[go_sem,resA,z01,rvA,oneOf,k0]
       · exact z38 (hbx _) _
     · simp -implicitDefEqProofs only[go_sem,k0,k1,s0,List.append_assoc,List.length_append,eL,hlt,Bool.or_true];refine Fini.trim2 (σ':=σ) (ex:=[_,_]) ?_ rfl (Nat.le_refl _) ?_ hbel
       · simp -implicitDefEqProofs only[go_sem,resA,z01,rvA,oneOf,k0];rfl
       · exact z38 (z0c _ zeroR) _
   · simp -implicitDefEqProofs only[go_sem,k0,k1,s0,List.append_assoc,List.length_append,Bool.true_or];refine Fini.trim2 (σ':=σ) (ex:=[_,_]) ?_ rfl (Nat.le_refl _) ?_ hbel
     · simp -implicitDefEqProofs only[go_sem,resA,z01,rvA,oneOf,k0];rfl
     · exact z38 (z0c _ zeroR) _)
end
theorem z2w (s:ByteArray) (a:Nat):pbyte s a false=if over s a false then(0,a,true) else(byteAt s a,a+1,false):=rfl
theorem zcK:∀c:Nat,c<256→(c==92)=false→within2.contains c=within.contains c:=by decide +kernel
theorem z5r (s:ByteArray) (a:Nat):(z0k s a).2.2=(z07 s a false).2.2∧((z0k s a).2.2=false→z0k s a=z07 s a false):=by
 unfold z0k z07;rw[z2w]
 cases ho:over s a false with
 |true=>simp
 |false =>
  simp only[Bool.false_eq_true,if_false]
  cases hc:byteAt s a==92 with
  |true =>
   simp only[if_true];unfold psign;rw[z2w]
   cases ho2:over s (a+1) false with
   |true=>simp
   |false =>
    simp only[Bool.false_eq_true,if_false,Bool.false_or];cases signs.contains (byteAt s (a+1))<;>simp
  |false =>
   simp only[Bool.false_eq_true,if_false,Bool.false_or];rw[zcK _ (z1Y s a) hc];exact⟨rfl,fun h=>rfl⟩
theorem zbg (s:ByteArray) (a:Nat):(dTo s a).2.2=(cTo s a false).2.2∧((dTo s a).2.2=false→dTo s a=cTo s a false∧z0k s a=z07 s a false):=by
 have h:=z5r s a;unfold dTo cTo
 cases hb:(z0k s a).2.2 with
 |true =>
  have hb':(z07 s a false).2.2=true:=by rw[←h.1];exact hb
  rw[hb',z2e,z2e];simp[hb,hb']
 |false =>
  have e:=h.2 hb;rw[←e,hb]
  cases hse:sees s (z0k s a).2.1 false 45 with
  |true =>
   have h2:=z5r s ((z0k s a).2.1+1);simp only[if_true];exact⟨h2.1,fun hg=>⟨h2.2 hg,trivial⟩⟩
  |false =>
   simp only[Bool.false_eq_true,if_false];exact⟨trivial,fun _=>⟨trivial,trivial⟩⟩
theorem zcL (s:ByteArray) (a:Nat):dBad s a=cBad s a false:=by
 have h:=zbg s a;unfold dBad cBad
 cases hb:(dTo s a).2.2 with
 |true=>rw[←h.1,hb];simp
 |false =>
  have e:=h.2 hb;rw[←e.1,←e.2,hb]
theorem z5s (s:ByteArray) (k:Nat) (S:List Int) (a:Nat):z1g s k S a true false=(S,a,true):=by
 cases k with
 |zero=>rfl
 |succ k=>rw[z1g];simp[cGo,over]
theorem z4t (s:ByteArray) (k:Nat) (S:List Int) (a n:Nat):z0Q s k S a true n=(S,a,true,n):=by
 cases k with
 |zero=>rfl
 |succ k=>rw[z0Q];simp[dGo,over]
theorem ze2 (s:ByteArray) (a:Nat):cGo s a false false=dGo s a false:=by simp[cGo,dGo]
theorem z3L (s:ByteArray):∀(k:Nat) (S:List Int) (a n:Nat),
  (z0Q s k S a false n).2.2.1=(z1g s k S a false false).2.2∧n≤(z0Q s k S a false n).2.2.2 ∧
  ((z0Q s k S a false n).2.2.1=false→(z0Q s k S a false n).1=(z1g s k S a false false).1∧(z0Q s k S a false n).2.1=(z1g s k S a false false).2.1)
 |0,S,a,n=>⟨rfl,Nat.le_refl _,fun _=>⟨rfl,rfl⟩⟩
 |k+1,S,a,n=>by
  rw[z0Q,z1g,ze2]
  cases hg:dGo s a false with
  |false=>exact⟨rfl,Nat.le_refl _,fun _=>⟨rfl,rfl⟩⟩
  |true =>
   simp only[if_true];rw[←zcL]
   cases hb:dBad s a with
   |true=>rw[z4t,z5s];exact⟨rfl,Nat.le_succ _,fun h=>absurd h (by simp)⟩
   |false =>
    have hto:(dTo s a).2.2=false:=by
     unfold dBad at hb;cases h:(dTo s a).2.2
     · rfl
     · rw[h]at hb;simp at hb
    have e:=(zbg s a).2 hto;rw[←e.1,←e.2];have ih:=z3L s k (addR S (z0k s a).1 ((dTo s a).1+1-(z0k s a).1)) (dTo s a).2.1 (n+1);exact⟨ih.1,Nat.le_trans (Nat.le_succ _) ih.2.1,ih.2.2⟩
theorem z4u (s:ByteArray):∀(k:Nat) (S:List Int) (a:Nat) (b:Bool) (n:Nat),s.size-a<k→dGo s (z0Q s k S a b n).2.1 (z0Q s k S a b n).2.2.1=false
 |0,S,a,b,n,h=>by omega
 |k+1,S,a,b,n,h=>by
  rw[z0Q]
  cases hg:dGo s a b with
  |false=>exact hg
  |true =>
   have ho:over s a b=false:=by
    cases h:over s a b
    · rfl
    · simp[dGo,h]at hg
   have hlt:=z1t ho;have hb:b=false:=by cases b<;>simp[over]at ho⊢
   subst hb;have h1:=z6e s a ho;have h2:=zbb s a;exact z4u s k _ _ _ _ (by omega)
theorem z9Z (s:ByteArray) (a:Nat):(z1J s a).2.2=(z2d s a false).2.2∧((z1J s a).2.2=false→(z1J s a).1=ofSet (z2d s a false).1∧(z1J s a).2.1=(z2d s a false).2.1):=by
 have h1:=z3L s (s.size+3) z4 (nextA s a false 94) 0;have h2:=z4u s (s.size+3) z4 (nextA s a false 94) false 0 (by omega)
 unfold z1J dOut z2d;simp only
 cases hg:dGo s (nextA s a false 94) false with
 |false =>
  have e:z0Q s (s.size+3) z4 (nextA s a false 94) false 0=(z4,nextA s a false 94,false,0):=by rw[z0Q,hg];rfl
  have hbad:(z1g s (s.size+3) z4 (nextA s a false 94) false true).2.2=true:=by
   rw[z1g];rw[if_pos (show cGo s (nextA s a false 94) false true=true from rfl)]
   have hm:(z07 s (nextA s a false 94) false).2.2=true:=by
    generalize nextA s a false 94=a0 at hg;unfold z07;rw[z2w]
    cases ho:over s a0 false with
    |true=>simp
    |false =>
     have h93:sees s a0 false 93=true:=by simpa[dGo,ho] using hg
     rw[z0B ho]at h93;have e93:byteAt s a0=93:=by simpa using h93
     simp[e93,within]
   have hc:cBad s (nextA s a false 94) false=true:=by
    unfold cBad;rw[z8X s _ false hm];rfl
   rw[hc,z5s]
  rw[e,hbad];simp
 |true =>
  have ef:z1g s (s.size+3) z4 (nextA s a false 94) false true=z1g s (s.size+3) z4 (nextA s a false 94) false false:=by
   have step:∀first,z1g s (s.size+3) z4 (nextA s a false 94) false first=if cGo s (nextA s a false 94) false first then
     z1g s (s.size+2) (addR z4 (z07 s (nextA s a false 94) false).1 ((cTo s (nextA s a false 94) false).1+1-(z07 s (nextA s a false 94) false).1)) (cTo s (nextA s a false 94) false).2.1 (cBad s (nextA s a false 94) false) false
     else(z4,nextA s a false 94,false):=fun _=>rfl
   rw[step true,step false,ze2,hg];rfl
  have hn:1≤(z0Q s (s.size+3) z4 (nextA s a false 94) false 0).2.2.2:=by
   rw[z0Q,hg,if_pos rfl]
   cases hb:dBad s (nextA s a false 94) with
   |true=>rw[z4t];exact Nat.le_refl _
   |false=>exact(z3L s (s.size+2) _ _ (0+1)).2.1
  rw[ef];have h1':(z0Q s (s.size+3) [0,0,0,0] (nextA s a false 94) false 0).2.2.1=(z1g s (s.size+3) [0,0,0,0] (nextA s a false 94) false false).2.2:=h1.1;generalize z0Q s (s.size+3) z4 (nextA s a false 94) false 0=l at h1 h2 hn⊢;obtain⟨S,a1,b1,n⟩:=l;generalize z1g s (s.size+3) z4 (nextA s a false 94) false false=r at h1⊢;obtain⟨S',a',b'⟩:=r;simp only at h1 h2 hn⊢;obtain⟨hb,_,he⟩:=h1;subst hb;have hn0:(n==0)=false:=by simp;omega
  rw[hn0,Bool.or_false]
  cases b1 with
  |true=>simp[over]
  |false =>
   obtain⟨rfl,rfl⟩:=he rfl
   cases ho:over s a1 false with
   |true=>simp[sees,ho]
   |false =>
    have h93:sees s a1 false 93=true:=by simpa[dGo,ho] using h2
    simp[h93,nextA]
theorem zcM:∀r:Nat,r<64→orU 0 (bitU r)=bitU r:=by decide +kernel
theorem zbh (c:Nat) (hc:c<256):oneS c=z2G z4 c:=by
 unfold oneS z2G;have h4:c/64<4:=by omega
 have:z4.getD (c/64) 0=0:=by
  generalize c/64=k at h4
  match k,h4 with
  |0,_=>rfl
  |1,_=>rfl
  |2,_=>rfl
  |3,_=>rfl
 rw[this,zcM _ (by omega)]
theorem zeH:turnS z4=fullS:=by decide +kernel
theorem z7t:∀c:Nat,c<256→((specials.contains c==stray.contains c)||(c==40||c==91||c==46||c==92||c==124||c==41))=true:=by decide +kernel
theorem z8i:∀c:Nat,c<256→(c==40)=false→(c==91)=false→(c==46)=false→(c==92)=false→(c==124)=false→(c==41)=false→specials.contains c=stray.contains c:=by
 intro c hc h1 h2 h3 h4 h5 h6;have:=z7t c hc;rw[h1,h2,h3,h4,h5,h6]at this;simpa using this
def Agr (cond:Nat→Prop) (P:PF) (F:DF):Prop :=
 ∀a,cond a→(F a).2.2.2=(P a false).2.2∧((F a).2.2.2=false→(F a).1=(P a false).1∧(F a).2.1=(P a false).2.1)
def z6i (s:ByteArray) (a:Nat):Prop:=wGo s a false=true
theorem zcN (s:ByteArray) {P:PF} {F:DF} {d:Nat} (hd:d≤8) (h:d<8→Agr (fun _=>True) P F):Agr (z6i s) (patom s P d) (datom s F d):=by
 intro a hg;have ho:over s a false=false:=by simp[z6i,wGo]at hg;exact hg.1
 have h124:(byteAt s a==124)=false:=by rw[←z0B ho];simp[z6i,wGo]at hg;exact hg.2.1
 have h41:(byteAt s a==41)=false:=by rw[←z0B ho];simp[z6i,wGo]at hg;exact hg.2.2
 have hc:=z1Y s a;unfold patom datom;simp only;rw[z2w,ho];simp only[Bool.false_eq_true,if_false,Bool.false_or]
 cases h40:byteAt s a==40 with
 |true =>
  have e40:byteAt s a=40:=by simpa using h40
  rw[e40];have hd8:decide (8<d+1)=(d==8):=by rw[Bool.eq_iff_iff];simp;omega
  rw[hd8]
  cases h8:d==8 with
  |true=>simp
  |false =>
   have hd7:d<8:=by
    have:d≠8:=by simpa using h8
    omega
   have ih:=h hd7 (a+1) trivial;generalize F (a+1)=w at ih⊢;generalize P (a+1) false=v at ih⊢;obtain⟨x,a1,d1,b1⟩:=w;obtain⟨y,a2,b2⟩:=v;simp only at ih;obtain⟨hb,he⟩:=ih;subst hb
   cases b1 with
   |true=>simp[z2e]
   |false =>
    obtain⟨rfl,rfl⟩:=he rfl;cases hse:sees s a1 false 41<;>simp[hse,nextA]
 |false =>
  cases h91:byteAt s a==91 with
  |true =>
   have e91:byteAt s a=91:=by simpa using h91
   have ih:=z9Z s (a+1);simp[e91];exact ih
  |false =>
   cases h46:byteAt s a==46 with
   |true=>simp[zeH]
   |false =>
    cases h92:byteAt s a==92 with
    |true =>
     have e92:byteAt s a=92:=by simpa using h92
     simp only[Bool.false_eq_true,if_false,if_true];unfold psign;rw[z2w]
     cases ho2:over s (a+1) false with
     |true=>simp
     |false =>
      have:=zbh _ (z1Y s (a+1));simp only[Bool.false_eq_true,if_false,Bool.false_or];cases hq:signs.contains (byteAt s (a+1))<;>simp[this]
    |false =>
     rw[←z8i _ hc h40 h91 h46 h92 h124 h41];simp only[Bool.false_eq_true,if_false];cases hsp:specials.contains (byteAt s a)
     · simp[zbh _ hc]
     · simp
theorem za0 (s:ByteArray) {P:PF} {F:DF} {c:Nat→Prop} (h:Agr c P F):Agr c (z2P s P) (z39 s F):=by
 intro a ha;have ih:=h a ha;unfold z2P z39;simp only;generalize F a=w at ih⊢;generalize P a false=v at ih⊢;obtain⟨x,a1,d1,b1⟩:=w;obtain⟨y,a2,b2⟩:=v;simp only at ih⊢;obtain⟨hb,he⟩:=ih;subst hb
 cases b1 with
 |true=>simp[z2e]
 |false =>
  obtain⟨rfl,rfl⟩:=he rfl;cases sees s a1 false 42<;>cases sees s a1 false 43<;>cases sees s a1 false 63<;>simp
theorem z96 (s:ByteArray) (a:Nat):wGo s a true=false:=by simp[wGo,over]
theorem za1 (s:ByteArray) (P:PF) (n:Nat) (K:List Rex) (a:Nat):(pwayL s P n K a true).2.2=true:=by
 cases n with
 |zero=>rfl
 |succ n=>rw[pwayL,z96];rfl
theorem za2 (s:ByteArray) (F:DF) (n:Nat) (K:List Rex) (a d:Nat):(dwayL s F n K a d true).2.2.2=true:=by
 cases n with
 |zero=>rfl
 |succ n=>rw[dwayL,z96];rfl
theorem z97 (s:ByteArray) {P:PF} {F:DF} (h:Agr (z6i s) P F):∀(n:Nat) (K:List Rex) (a d:Nat),
  (dwayL s F n K a d false).2.2.2=(pwayL s P n K a false).2.2∧((dwayL s F n K a d false).2.2.2=false→(dwayL s F n K a d false).1=(pwayL s P n K a false).1∧(dwayL s F n K a d false).2.1=(pwayL s P n K a false).2.1)
 |0,K,a,d=>⟨rfl,fun _=>⟨rfl,rfl⟩⟩
 |n+1,K,a,d=>by
  rw[dwayL,pwayL]
  cases hg:wGo s a false with
  |false=>exact⟨rfl,fun _=>⟨rfl,rfl⟩⟩
  |true =>
   simp only[if_true];have ih:=h a hg;generalize F a=w at ih⊢;generalize P a false=v at ih⊢;obtain⟨x,a1,d1,b1⟩:=w;obtain⟨y,a2,b2⟩:=v;simp only at ih⊢;obtain⟨hb,he⟩:=ih;subst hb
   cases b1 with
   |true=>rw[za2,za1];simp
   |false =>
    obtain⟨rfl,rfl⟩:=he rfl;exact z97 s h n (K++[x]) a1 d1
theorem zeI (s:ByteArray) {P:PF} {F:DF} (h:Agr (z6i s) P F) (d:Nat):Agr (fun _=>True) (pway s P) (dway s F d):=by
 intro a _;have ih:=z97 s h (s.size+1) [] a d;unfold pway dway;simp only;exact⟨ih.1,fun hb=>⟨by rw[(ih.2 hb).1],(ih.2 hb).2⟩⟩
theorem z5t (s:ByteArray) (P:PF) (n:Nat) (K:List Rex) (a:Nat):(z2t s P n K a true).2.2=true:=by
 cases n with
 |zero=>rfl
 |succ n=>rw[z2t,z2e];rfl
theorem z5u (s:ByteArray) (F:DF) (n:Nat) (K:List Rex) (a d:Nat):(z2f s F n K a d true).2.2.2=true:=by
 cases n with
 |zero=>rfl
 |succ n=>rw[z2f,z2e];rfl
theorem z7u (s:ByteArray) {P:PF} {F:DF} (h:Agr (fun _=>True) P F):∀(n:Nat) (K:List Rex) (a d:Nat),
  (z2f s F n K a d false).2.2.2=(z2t s P n K a false).2.2∧((z2f s F n K a d false).2.2.2=false→(z2f s F n K a d false).1=(z2t s P n K a false).1∧(z2f s F n K a d false).2.1=(z2t s P n K a false).2.1)
 |0,K,a,d=>⟨rfl,fun _=>⟨rfl,rfl⟩⟩
 |n+1,K,a,d=>by
  rw[z2f,z2t]
  cases hg:sees s a false 124 with
  |false=>exact⟨rfl,fun _=>⟨rfl,rfl⟩⟩
  |true =>
   simp only[if_true];have ih:=h (a+1) trivial;generalize F (a+1)=w at ih⊢;generalize P (a+1) false=v at ih⊢;obtain⟨x,a1,d1,b1⟩:=w;obtain⟨y,a2,b2⟩:=v;simp only at ih⊢;obtain⟨hb,he⟩:=ih;subst hb
   cases b1 with
   |true=>rw[z5u,z5t];simp
   |false =>
    obtain⟨rfl,rfl⟩:=he rfl;exact z7u s h n (K++[x]) a1 d1
theorem zcO (s:ByteArray) {P:PF} {F:DF} (h:Agr (fun _=>True) P F):Agr (fun _=>True) (pways s P) (dways s F):=by
 intro a _;have ih:=h a trivial;unfold pways dways;simp only;generalize F a=w at ih⊢;generalize P a false=v at ih⊢;obtain⟨x,a1,d1,b1⟩:=w;obtain⟨y,a2,b2⟩:=v;simp only at ih⊢;obtain⟨hb,he⟩:=ih;subst hb
 cases b1 with
 |true=>rw[z5u,z5t];simp
 |false =>
  obtain⟨rfl,rfl⟩:=he rfl;have ih:=z7u s h (s.size+1) [x] a1 d1;exact⟨ih.1,fun hb=>⟨by rw[(ih.2 hb).1],(ih.2 hb).2⟩⟩
theorem zbi (s:ByteArray) {P:PF} {F:DF} {d:Nat} (hd:d≤8) (h:d<8→Agr (fun _=>True) P F):Agr (fun _=>True) (lvl s P d) (dlvl s F d) :=
 zcO s (zeI s (za0 s (zcN s hd h)) d)
theorem agr_W (s:ByteArray):∀k,Agr (fun _=>True) (PW s k) (DW s k)
 |0=>zbi s (Nat.le_refl _) (fun h=>absurd h (Nat.lt_irrefl _))
 |k+1=>zbi s (by omega) (fun _=>agr_W s k)
theorem zbj (s:ByteArray):z7r s=z2I s:=by
 unfold z7r z2I;simp only
 cases h40:decide (40<s.size) with
 |true =>
  have:=(z90 s 8 0 true).2 rfl;rw[this];rfl
 |false =>
  have ih:=agr_W s 8 0 trivial;simp only[Bool.false_eq_true,if_false];generalize DW s 8 0=w at ih⊢;generalize PW s 8 0 false=v at ih⊢;obtain⟨x,a1,d1,b1⟩:=w;obtain⟨y,a2,b2⟩:=v;simp only at ih⊢;obtain⟨hb,he⟩:=ih;subst hb
  cases b1 with
  |true=>simp;rfl
  |false =>
   obtain⟨rfl,rfl⟩:=he rfl;rfl
theorem zbk (σ:St) (k:Int) (nm v:ByteArray):Ans Tryz.prog 153 [mat k nm v] σ (Bo (likeB k)) σ:=by
 refine Ans.of_run t153 ?_;simp -implicitDefEqProofs only[c153,r153,go_sem];unfold likeB;cases h:k==3
 · simp -implicitDefEqProofs only[go_sem];exact Fini.ret rfl
 · simp -implicitDefEqProofs only[go_sem];exact Fini.ret rfl
def okN (s:ByteArray) (i:Nat):Bool:=z2u (byteAt s i)||(!(i==0)&&z4s (byteAt s i))
def nameD (s:ByteArray):Bool:=(List.range s.size).all (okN s)&&(decide (1≤s.size)&&decide (s.size≤12))
theorem zcP (s:ByteArray):nameD s=nameB s:=by
 unfold nameD nameB;by_cases h1:1≤s.size
 · by_cases h2:s.size≤12
   · rw[decide_eq_true h1,decide_eq_true h2];simp only[Bool.and_self,Bool.and_true,Bool.true_and];rw[Bool.eq_iff_iff];simp only[Bool.and_eq_true,List.all_eq_true,List.mem_range,okN,Bool.or_eq_true,Bool.not_eq_true',beq_eq_false_iff_ne];constructor
     · intro h;refine⟨?_,fun i hi=>?_⟩
       · rcases h 0 (by omega) with h|h
         · exact h
         · exact absurd rfl h.1
       · rcases h i hi with h|h
         · exact .inl h
         · exact .inr h.2
     · rintro⟨h0,h⟩ i hi;by_cases hz:i=0
       · subst hz;exact .inl h0
       · rcases h i hi with h|h
         · exact .inl h
         · exact .inr ⟨hz,h⟩
   · rw[decide_eq_false h2];simp
 · rw[decide_eq_false h1];simp
set_option maxHeartbeats 16000000 in
theorem z5v (σ:St) (s:ByteArray) (hs:s.size≤100000):Ans Tryz.prog 134 [Sx s] σ (Bo (nameB s)) σ:=by
 rw[←zcP];refine Ans.of_run t134 ?_;simp -implicitDefEqProofs only[c134,r134,go_sem];refine Go.Ab.L.scan s.size (okN s) (fun i=>mkE 55 [(0,Sx s),(3,I i)]) (fun _=>σ) ?_ ?_ rfl rfl
 · intro i hi hp J hJ;have hlt:((i:Int)<s.size)=True:=by simp;omega
   have hdi:decide ((i:Int)<s.size)=true:=by simp;omega
   have hin:=z0P (n:=i) (by omega)
   have hF:okN s i=false→nameD s=false:=fun h=>by
    rw[nameD,List.all_eq_false.2 ⟨i,List.mem_range.2 hi,by simp[h]⟩];rfl
   have e1:decide ((97:Int)≤(byteAt s i:Nat))=decide (97≤byteAt s i):=z3f 97 _;have e2:decide (((byteAt s i:Nat):Int)≤122)=decide (byteAt s i≤122):=z3f _ 122;have e3:decide ((65:Int)≤(byteAt s i:Nat))=decide (65≤byteAt s i):=z3f 65 _;have e4:decide (((byteAt s i:Nat):Int)≤90)=decide (byteAt s i≤90):=z3f _ 90;have e5:(((byteAt s i:Nat):Int)==95)=(byteAt s i==95):=z0i _ 95;have e6:decide (((byteAt s i:Nat):Int)<48)=decide (byteAt s i<48):=decN _ 48;have e7:decide ((57:Int)<(byteAt s i:Nat))=decide (57<byteAt s i):=decN 57 _;have e8:((i:Int)==0)=(i==0):=z0i i 0
   have hd:z4s (byteAt s i)=(!decide (byteAt s i<48)&& !decide (57<byteAt s i)):=by
    unfold z4s;rw[Bool.eq_iff_iff];simp
   have hL:z2u (byteAt s i)=(decide (97≤byteAt s i)&&decide (byteAt s i≤122)||decide (65≤byteAt s i)&&decide (byteAt s i≤90)||byteAt s i==95):=rfl;have hO:okN s i=(z2u (byteAt s i)||(!(i==0)&&z4s (byteAt s i))):=rfl;rw[hO,hL,hd]at hF hJ;generalize decide (97≤byteAt s i)=b1 at *;generalize decide (byteAt s i≤122)=b2 at *;generalize decide (65≤byteAt s i)=b3 at *;generalize decide (byteAt s i≤90)=b4 at *;generalize (byteAt s i==95)=b5 at *;generalize decide (byteAt s i<48)=b6 at *;generalize decide (57<byteAt s i)=b7 at *;generalize (i==0)=b8 at *;clear hL hd hO;simp -implicitDefEqProofs only[mkE,go_sem,hlt,hdi,z09];cases b1<;>cases b2<;>cases b3<;>cases b4<;>cases b5
   all_goals simp -implicitDefEqProofs only[go_sem,e1,e2,e3,e4,e5,e6,e7,e8,hin]
   all_goals first
    |exact hJ rfl
    |(cases b8<;>cases b6<;>cases b7<;>simp -implicitDefEqProofs only[go_sem,e6,e7,e8,hin]<;>first
     |exact hJ rfl
     |(refine Fini.ret' rfl (z16 ?_);exact(hF rfl).symm))
 · intro hp J;have hdi:decide ((s.size:Int)<s.size)=false:=by simp
   have d1:decide ((1:Int)≤s.size)=decide (1≤s.size):=z3f 1 _;have d2:decide ((s.size:Int)≤12)=decide (s.size≤12):=z3f _ 12;have hA:(List.range s.size).all (okN s)=true:=List.all_eq_true.2 fun i hi=>hp i (List.mem_range.1 hi)
   rw[nameD,hA,Bool.true_and]
   cases h1:decide (1≤s.size) with
   |true =>
    rw[h1]at d1;simp -implicitDefEqProofs only[mkE,go_sem,hdi,d1,d2];exact Fini.ret rfl
   |false =>
    rw[h1]at d1;simp -implicitDefEqProofs only[mkE,go_sem,hdi,d1,d2];exact Fini.ret rfl
theorem zeJ (σ:St) (k:Int) (nm v:ByteArray) (hs:nm.size≤100000):Ans Tryz.prog 132 [mat k nm v] σ (Bo (isB k nm v)) σ:=by
 refine Ans.of_run t132 ?_;unfold isB;simp -implicitDefEqProofs only[c132,r132,go_sem];refine CO.intro (z5v σ nm hs) ?_
 cases hn:nameB nm with
 |false =>
  simp -implicitDefEqProofs only[go_sem];exact Fini.ret rfl
 |true =>
 simp -implicitDefEqProofs only[go_sem];refine CO.intro (zbk σ k nm v) ?_
 cases hk:likeB k with
 |true =>
  simp -implicitDefEqProofs only[go_sem];refine CO.intro (z9Y v σ) ?_;rw[zbj];have hrv:=Rex.rv_eq (z2I v).1;generalize (z2I v).1=x at hrv⊢;generalize (z2I v).2=b;rw[hrv];rcases Rex.rvK_cases x.ks with e|⟨l,e⟩<;>rw[e]
  all_goals (simp -implicitDefEqProofs only[go_sem];exact Fini.ret rfl)
 |false =>
  have d:decide ((v.size:Int)≤24)=decide (v.size≤24):=z3f v.size 24;simp -implicitDefEqProofs only[go_sem]
  cases h1:k==1 with
  |true =>
   simp -implicitDefEqProofs only[go_sem,d];exact Fini.ret rfl
  |false =>
   simp -implicitDefEqProofs only[go_sem]
   cases h2:k==2 with
   |true =>
    simp -implicitDefEqProofs only[go_sem,d];exact Fini.ret rfl
   |false =>
    simp -implicitDefEqProofs only[go_sem];exact Fini.ret rfl
end Go.Proofs.YteakobbdgehlgaaGreatDoor
namespace Go.Proofs.YteakobbdgehlgaaGreatDoor
open Go Go.Ab
set_option maxRecDepth 100000
theorem za3 (σ:St) (x y:Mtr):Ans Tryz.prog 133 [mv3 x,mv3 y] σ (Bo (z40 x y)) σ:=by
 refine Ans.of_run t133 ?_;unfold z40;simp -implicitDefEqProofs only[c133,r133,go_sem,mv3]
 cases h1:(x.2.1.toList==y.2.1.toList) with
 |false =>
  simp -implicitDefEqProofs only[go_sem];exact Fini.ret rfl
 |true =>
  simp -implicitDefEqProofs only[go_sem]
  cases h2:(x.1==y.1) with
  |false =>
   simp -implicitDefEqProofs only[go_sem,bne,h2];exact Fini.ret rfl
  |true =>
   simp -implicitDefEqProofs only[go_sem,bne,h2];exact Fini.ret rfl
theorem zcQ (M:List Mtr) (i:Nat) (h:i<M.length):(mvs3 M)[i]?=some (mv3 M[i]):=by simp[mvs3,h]
theorem z0s (M:List Mtr):(mvs3 M).length=M.length:=List.length_map ..
abbrev noM3:Mtr:=(0,⟨#[]⟩,⟨#[]⟩)
def isM (x:Mtr):Bool:=isB x.1 x.2.1 x.2.2
def okL (M:List Mtr) (i:Nat):Bool:=isM (M.getD i noM3)&&(i==0||z40 (M.getD (i-1) noM3) (M.getD i noM3))
def listB (M:List Mtr):Bool:=decide (M.length≤5)&&(List.range M.length).all (okL M)
theorem z98 (M:List Mtr) (i:Nat) (h:i<M.length):(mvs3 M)[i]?=some (mv3 (M.getD i noM3)):=by
 rw[zcQ M i h,List.getD_eq_getElem?_getD,List.getElem?_eq_getElem h];rfl
theorem z1n (σ:St) (M:List Mtr) (hs:∀x∈M,x.2.1.size≤100000):Ans Tryz.prog 105 [.sl 3 (mvs3 M)] σ (Bo (listB M)) σ:=by
 refine Ans.of_run t105 ?_;have d5:decide ((5:Int)<M.length)=decide (5<M.length):=decN 5 _;unfold listB;simp -implicitDefEqProofs only[c105,r105,go_sem,z0s,d5];by_cases hl:M.length≤5
 · rw[decide_eq_true hl,Bool.true_and];have h5:decide (5<M.length)=false:=decide_eq_false (by omega)
   simp -implicitDefEqProofs only[go_sem,h5];refine Go.Ab.L.scan M.length (okL M) (fun i=>mkE 36 [(0,.sl 3 (mvs3 M)),(3,I i)]) (fun _=>σ) ?_ ?_ rfl rfl
   · intro i hi hp J hJ;have hF:okL M i=false→(List.range M.length).all (okL M)=false:=fun h=>List.all_eq_false.2 ⟨i,List.mem_range.2 hi,by simp[h]⟩
     have hx:=z98 M i hi
     have hsz:(M.getD i noM3).2.1.size≤100000:=by
      rw[List.getD_eq_getElem?_getD,List.getElem?_eq_getElem hi];exact hs _ (List.getElem_mem hi)
     have hin:=z0P (n:=i) (by omega)
     have hI:=fun σ=>zeJ σ (M.getD i noM3).1 (M.getD i noM3).2.1 (M.getD i noM3).2.2 hsz
     have hO:okL M i=(isB (M.getD i noM3).1 (M.getD i noM3).2.1 (M.getD i noM3).2.2&&(i==0||z40 (M.getD (i-1) noM3) (M.getD i noM3))):=rfl;have d0:decide ((0:Int)<i)=decide (0<i):=decN 0 i;rw[hO]at hJ hF;simp -implicitDefEqProofs only[mkE,go_sem,z0s,z0F hi,dec_lt hi,hx,mv3,z06]
     first|refine CD.intro (hI _) ?_|refine CS.intro hI ?_
     generalize isB (M.getD i noM3).1 (M.getD i noM3).2.1 (M.getD i noM3).2.2=b1 at hJ hF
     cases b1 with
     |false =>
      simp -implicitDefEqProofs only[go_sem];refine Fini.ret' rfl (z16 ?_);rw[hF rfl]
     |true =>
      by_cases hz:i=0
      · subst hz;simp -implicitDefEqProofs only[go_sem,hin,z06,Int.natCast_zero];exact hJ rfl
      · have hpos:decide (0<i)=true:=by simp;omega
        have hx1:=z98 M (i-1) (by omega)
        have hB:=fun σ=>za3 σ (M.getD (i-1) noM3) (M.getD i noM3)
        have w1:IntKind.i64.wrap ((i:Int)-1)=((i-1:Nat):Int):=by rw[wrapN (by omega) (by omega)];omega
        have hlt1:(((i-1:Nat):Int)<M.length)=True:=by simp;omega
        have hz':(i==0)=false:=by simpa using hz
        rw[hz']at hJ hF;simp -implicitDefEqProofs only[go_sem,d0,hpos,w1,z0s,z0F hi,dec_lt hi,hlt1,hx,hx1,z06,mv3]
        first|refine CD.intro (hB _) ?_|refine CS.intro hB ?_
        generalize z40 (M.getD (i-1) noM3) (M.getD i noM3)=b2 at hJ hF
        cases b2 with
        |true =>
         simp -implicitDefEqProofs only[go_sem,hin];exact hJ rfl
        |false =>
         simp -implicitDefEqProofs only[go_sem];refine Fini.ret' rfl (z16 ?_);rw[hF rfl]
   · intro hp J;have hd:decide ((M.length:Int)<M.length)=false:=by simp
     simp -implicitDefEqProofs only[mkE,go_sem,z0s,hd];refine Fini.ret' rfl (z16 ?_);exact(List.all_eq_true.2 fun i hi=>hp i (List.mem_range.1 hi)).symm
 · rw[decide_eq_false hl,Bool.false_and];have h5:decide (5<M.length)=true:=decide_eq_true (by omega)
   simp -implicitDefEqProofs only[go_sem,h5];exact Fini.ret rfl
theorem z0x (n:Nat) (M:List Mtr):Bel n (.sl 3 (mvs3 M)):=by
 refine .sl 3 _ fun i hi=>?_
 have:∀y∈mvs3 M,Bel n y:=by
  intro y hy;simp only[mvs3,List.mem_map]at hy;obtain⟨x,_,rfl⟩:=hy;refine .agg _ fun i hi=>?_
  have:∀y∈([I x.1,Sx x.2.1,Sx x.2.2]:List AV),Bel n y:=by
   intro y hy;simp only[List.mem_cons,List.not_mem_nil,or_false]at hy;rcases hy with rfl|rfl|rfl<;>exact .pl _
  exact this _ (List.getElem_mem hi)
 exact this _ (List.getElem_mem hi)
theorem ze3 (n:Nat) (M:List Mtr):Bel n (.sl 3 (mvs3 M))=True:=eq_true (z0x n M)
theorem memM (n:Nat) (k:Int) (a b:ByteArray):∀y∈([I k,Sx a,Sx b]:List AV),Bel n y:=by
 intro y hy;simp only[List.mem_cons,List.not_mem_nil,or_false]at hy;rcases hy with rfl|rfl|rfl<;>exact .pl _
theorem ze4 (n:Nat) (k:Int) (a b:ByteArray):Bel n (.agg [I k,Sx a,Sx b])=True:=eq_true (.agg _ fun i hi=>memM n k a b _ (List.getElem_mem hi))
theorem BL_rp (n:Nat) (k:Int) (a b:ByteArray):Bel n (.rp [I k,Sx a,Sx b])=True:=eq_true (.rp _ fun i hi=>memM n k a b _ (List.getElem_mem hi))
theorem z1O (σ:St) (M:List Mtr):Ans Tryz.prog 143 [.sl 3 (mvs3 M)] σ (Bo (listB M)) σ:=by
 refine Ans.of_run' t143 (fun hbel _=>?_)
 have d5:decide ((5:Int)<M.length)=decide (5<M.length):=decN 5 _;have hb0:(∀o∈σ,BelO σ.length o)=True:=eq_true hbel;unfold listB;simp -implicitDefEqProofs only[c143,r143,go_sem,z0s,d5];by_cases hl:M.length≤5
 · rw[decide_eq_true hl,Bool.true_and];have h5:decide (5<M.length)=false:=decide_eq_false (by omega)
   simp -implicitDefEqProofs only[go_sem,h5,z0s];refine Go.Ab.L.scan M.length (okL M) (fun i=>mkE 33 [(0,.sl 3 (mvs3 M)),(8,.sl 3 (mvs3 M)),(9,I M.length),(10,I i)]) (fun _=>σ) ?_ ?_ rfl rfl
   · intro i hi hp J hJ;have htk:∀x:Ob,(σ++[x]).take σ.length=σ:=fun x=>List.take_left' rfl
     have hF:okL M i=false→(List.range M.length).all (okL M)=false:=fun h=>List.all_eq_false.2 ⟨i,List.mem_range.2 hi,by simp[h]⟩
     have hx:=z98 M i hi;have hin:=z0P (n:=i) (by omega)
     have hI:=fun σ=>zfG σ (M.getD i noM3).1 (M.getD i noM3).2.1 (M.getD i noM3).2.2
     have hO:okL M i=(isB (M.getD i noM3).1 (M.getD i noM3).2.1 (M.getD i noM3).2.2&&(i==0||z40 (M.getD (i-1) noM3) (M.getD i noM3))):=rfl;have d0:decide ((0:Int)<i)=decide (0<i):=decN 0 i;rw[hO]at hJ hF;simp -implicitDefEqProofs only[mkE,go_sem,z0s,z0F hi,dec_lt hi,hx,mv3,z06,g0,s0,List.drop_nil]
     first|refine CD.intro (hI _) ?_|refine CS.intro hI ?_
     generalize isB (M.getD i noM3).1 (M.getD i noM3).2.1 (M.getD i noM3).2.2=b1 at hJ hF
     cases b1 with
     |false =>
      simp -implicitDefEqProofs only[go_sem,z06,g0,s0];rw[hF rfl];exact Fini.trim2 (σ':=σ) rfl rfl (Nat.le_refl _) (.pl _) hbel
     |true =>
      by_cases hz:i=0
      · subst hz;have hgo:=hJ rfl;simp -implicitDefEqProofs only[go_sem,hin,z06,g0,s0,Int.natCast_zero,B_pl,B_any,z62,B_tup,B_osl,B_ptr,B_sl0,ze3,ze4,BL_rp,htk,Nat.add_zero,hb0,List.length_append];exact⟨by omega,hgo⟩
      · have hpos:decide (0<i)=true:=by simp;omega
        have hx1:=z98 M (i-1) (by omega)
        have hB:=fun σ=>z8e σ (M.getD (i-1) noM3) (M.getD i noM3)
        have hc:=z8f (M.getD (i-1) noM3) (M.getD i noM3);have w1:IntKind.i64.wrap ((i:Int)-1)=((i-1:Nat):Int):=by rw[wrapN (by omega) (by omega)];omega
        have hlt1:(((i-1:Nat):Int)<M.length)=True:=by simp;omega
        have hz':(i==0)=false:=by simpa using hz
        rw[hz']at hJ hF;simp -implicitDefEqProofs only[go_sem,d0,hpos,w1,z0s,z0F hi,dec_lt hi,hlt1,hx,hx1,z06,mv3,g0,s0]
        first|refine CD.intro (hB _) ?_|refine CS.intro hB ?_
        generalize z40 (M.getD (i-1) noM3) (M.getD i noM3)=b2 at hJ hF hc;generalize cmp3 (M.getD (i-1) noM3) (M.getD i noM3)=cc at hc
        cases b2 with
        |true =>
         have hgo:=hJ rfl;simp -implicitDefEqProofs only[go_sem,hc,hin,g0,s0,B_pl,B_any,z62,B_tup,B_osl,B_ptr,B_sl0,ze3,ze4,BL_rp,htk,Nat.add_zero,hb0,List.length_append,Bool.not_true];exact⟨by omega,hgo⟩
        |false =>
         simp -implicitDefEqProofs only[go_sem,hc,Bool.not_false,g0,s0];rw[hF rfl];exact Fini.trim2 (σ':=σ) rfl rfl (Nat.le_refl _) (.pl _) hbel
   · intro hp J;have hd:decide ((M.length:Int)<M.length)=false:=by simp
     simp -implicitDefEqProofs only[mkE,go_sem,z0s,hd];refine Fini.ret' rfl (z16 ?_);exact(List.all_eq_true.2 fun i hi=>hp i (List.mem_range.1 hi)).symm
 · rw[decide_eq_false hl,Bool.false_and];have h5:decide (5<M.length)=true:=decide_eq_true (by omega)
   simp -implicitDefEqProofs only[go_sem,h5];exact Fini.ret rfl
end Go.Proofs.YteakobbdgehlgaaGreatDoor
namespace Go.Proofs.YteakobbdgehlgaaGreatDoor
open Go Go.Ab Go.Cod
set_option maxRecDepth 100000
abbrev Fl (n:Nat):AV:=.pl (.float .f64 n)
structure RuM where
 src:List Mtr
 tgt:List Mtr
 any:Bool
 lo:Nat
 hi:Nat
 eq:List ByteArray
def txs (l:List ByteArray):List AV:=l.map fun s=>Sx s
def ruV (r:RuM):AV:=.agg [.sl 3 (mvs3 r.src),.sl 3 (mvs3 r.tgt),Bo r.any,Fl r.lo,Fl r.hi,.sl 1 (txs r.eq)]
theorem z1l (l:List ByteArray):(txs l).length=l.length:=List.length_map ..
theorem zeK (l:List ByteArray) (i:Nat) (h:i<l.length):(txs l)[i]?=some (Sx l[i]):=by simp[txs,h]
theorem txs_D (l:List ByteArray) (i:Nat) (h:i<l.length):(txs l)[i]?=some (Sx (l.getD i ⟨#[]⟩)):=by
 rw[zeK l i h,List.getD_eq_getElem?_getD,List.getElem?_eq_getElem h];rfl
def leF (a b:Nat):Bool:=FloatKind.f64.format.order a b==some .lt||FloatKind.f64.format.order a b==some .eq
theorem zbl (a b:Nat):(FloatKind.f64.format.order a b==some .lt||FloatKind.f64.format.order a b==some .eq)=leF a b:=rfl
def nanF (a:Nat):Bool:=FloatKind.f64.format.order a a != some .eq
theorem z6I (a:Nat):(FloatKind.f64.format.order a a != some .eq)=nanF a:=rfl
def bitsF (a:Nat):Nat:=if nanF a then 9221120237041090561 else a
def mayB (any:Bool) (lo hi:Nat):Bool:=if any then(((bitsF lo:Nat):Int)==0)&&(((bitsF hi:Nat):Int)==0) else leF lo hi
def eqOk (e:List ByteArray) (i:Nat):Bool:=nameB (e.getD i ⟨#[]⟩)&& !(decide (0<i)&&leS (e.getD i ⟨#[]⟩) (e.getD (i-1) ⟨#[]⟩))
def eqB (e:List ByteArray):Bool:=decide (e.length≤4)&&(List.range e.length).all (eqOk e)
def ruIs (r:RuM):Bool:=!(((r.src.length:Nat):Int)==0)&&(!(((r.tgt.length:Nat):Int)==0)&&(listB r.src&&(listB r.tgt&&(mayB r.any r.lo r.hi&&eqB r.eq))))
section
variable (σ:St)
theorem zfJ (a:Nat):Ans Tryz.prog 159 [Fl a] σ (Bo (nanF a)) σ:=by
 refine Ans.of_run t159 ?_;simp -implicitDefEqProofs only[c159,r159,go_sem,z6I];exact Fini.ret rfl
theorem z5x (a:Nat):Ans Tryz.prog 111 [Fl a] σ (UN a) σ:=ext_bits.ok _ _ _ _ rfl
theorem z4O (a:Nat):Ans Tryz.prog 149 [Fl a] σ (UN (bitsF a)) σ:=by
 refine Ans.of_run t149 ?_;simp -implicitDefEqProofs only[c149,r149,go_sem];refine CO.intro (zfJ σ a) ?_;unfold bitsF
 cases nanF a with
 |true =>
  simp -implicitDefEqProofs only[go_sem];exact Fini.ret rfl
 |false =>
  simp -implicitDefEqProofs only[go_sem];refine CO.intro (z5x σ a) ?_;simp -implicitDefEqProofs only[go_sem];exact Fini.ret rfl
theorem z23 (any:Bool) (lo hi:Nat):Ans Tryz.prog 145 [.agg [Bo any,Fl lo,Fl hi]] σ (Bo (mayB any lo hi)) σ:=by
 refine Ans.of_run t145 ?_;unfold mayB
 cases any with
 |true =>
  simp -implicitDefEqProofs only[c145,r145,go_sem];refine CO.intro (z4O σ lo) ?_
  cases h:(((bitsF lo:Nat):Int)==0) with
  |false =>
   simp -implicitDefEqProofs only[go_sem,h];exact Fini.ret rfl
  |true =>
   simp -implicitDefEqProofs only[go_sem,h];refine CO.intro (z4O σ hi) ?_;simp -implicitDefEqProofs only[go_sem,h];exact Fini.ret rfl
 |false =>
  simp -implicitDefEqProofs only[c145,r145,go_sem,zbl];exact Fini.ret rfl
theorem z29 (r:RuM):Ans Tryz.prog 146 [ruV r] σ (Bo (ruIs r)) σ:=by
 obtain⟨src,tgt,any,lo,hi,eq⟩:=r;have d4:decide ((4:Int)<eq.length)=decide (4<eq.length):=decNN 4 _;refine Ans.of_run t146 ?_;unfold ruIs ruV;simp only
 cases h1:(((src.length:Nat):Int)==0) with
 |true =>
  simp -implicitDefEqProofs only[c146,r146,go_sem,z0s,h1];exact Fini.ret rfl
 |false =>
 cases h2:(((tgt.length:Nat):Int)==0) with
 |true =>
  simp -implicitDefEqProofs only[c146,r146,go_sem,z0s,h1,h2];exact Fini.ret rfl
 |false =>
 simp -implicitDefEqProofs only[c146,r146,go_sem,z0s,h1,h2];refine CO.intro (z1O σ src) ?_
 cases h3:listB src with
 |false =>
  simp -implicitDefEqProofs only[go_sem];exact Fini.ret rfl
 |true =>
 simp -implicitDefEqProofs only[go_sem];refine CO.intro (z1O σ tgt) ?_
 cases h4:listB tgt with
 |false =>
  simp -implicitDefEqProofs only[go_sem];exact Fini.ret rfl
 |true =>
 simp -implicitDefEqProofs only[go_sem];refine CO.intro (z23 σ any lo hi) ?_
 cases h5:mayB any lo hi with
 |false =>
  simp -implicitDefEqProofs only[go_sem];exact Fini.ret rfl
 |true =>
 unfold eqB;by_cases h6:eq.length≤4
 · have x4:decide (4<eq.length)=false:=decide_eq_false (by omega)
   rw[decide_eq_true h6];simp -implicitDefEqProofs only[go_sem,z1l,d4,x4];refine Go.Ab.L.scan eq.length (eqOk eq) (fun i=>mkE 65 [(1,.rp [.sl 3 (mvs3 src),.sl 3 (mvs3 tgt),Bo any,Fl lo,Fl hi,.sl 1 (txs eq)]),(40,.sl 1 (txs eq)),(41,I eq.length),(42,I i)]) (fun _=>σ) ?_ ?_ rfl rfl
   · intro i hi hp J hJ;have hx:=txs_D eq i hi;have hF:eqOk eq i=false→(List.range eq.length).all (eqOk eq)=false:=fun h=>List.all_eq_false.2 ⟨i,List.mem_range.2 hi,by rw[h];decide⟩
     have hin:=wrap_succ (i:=i) (by omega)
     have d0:decide ((0:Int)<i)=decide (0<i):=by rw[Bool.eq_iff_iff];simp
     have hO:eqOk eq i=(nameB (eq.getD i ⟨#[]⟩)&& !(decide (0<i)&&leS (eq.getD i ⟨#[]⟩) (eq.getD (i-1) ⟨#[]⟩))):=rfl;rw[hO]at hJ hF;simp -implicitDefEqProofs only[mkE,go_sem,z1l,z0F hi,dec_lt hi,hx];refine CO.intro (z5k σ _) ?_;generalize eq.getD i ⟨#[]⟩=s at hJ hF hx
     cases hb:nameB s with
     |false =>
      rw[hb]at hF;rw[hF rfl];simp -implicitDefEqProofs only[go_sem];exact Fini.ret rfl
     |true =>
      rw[hb]at hJ hF;by_cases hz:i=0
      · subst hz;have hgo:=hJ rfl;simp -implicitDefEqProofs only[go_sem,d0,hin];exact hgo
      · have hpos:decide (0<i)=true:=decide_eq_true (by omega)
        have hx1:=txs_D eq (i-1) (by omega)
        have w1:IntKind.i64.wrap ((i:Int)-1)=((i-1:Nat):Int):=by rw[wrapN (by omega) (by omega)];omega
        have hlt1:(((i-1:Nat):Int)<eq.length)=True:=by simp;omega
        rw[hpos]at hJ hF;generalize eq.getD (i-1) ⟨#[]⟩=s1 at hJ hF hx1;have hle:(Op.bytesLess s.toList s1.toList||s.toList==s1.toList)=leS s s1:=rfl;simp -implicitDefEqProofs only[go_sem,d0,hpos,w1,z1l,hlt1,hx1,hle]
        cases h7:leS s s1 with
        |true =>
         rw[h7]at hF;rw[hF rfl];simp -implicitDefEqProofs only[go_sem];exact Fini.ret rfl
        |false =>
         rw[h7]at hJ;have hgo:=hJ rfl;simp -implicitDefEqProofs only[go_sem,hin];exact hgo
   · intro hp J;have hd:decide ((eq.length:Int)<eq.length)=false:=by simp
     simp -implicitDefEqProofs only[mkE,go_sem,z1l,hd];refine Fini.ret' rfl (z16 ?_);exact(List.all_eq_true.2 fun i hi=>hp i (List.mem_range.1 hi)).symm
 · have x4:decide (4<eq.length)=true:=decide_eq_true (by omega)
   rw[decide_eq_false h6];simp -implicitDefEqProofs only[go_sem,z1l,d4,x4];exact Fini.ret rfl
end
def mkM (x:UInt8×ByteArray×ByteArray):Mtr:=((x.1.toNat:Int),x.2.1,x.2.2)
def mtrR:Rd Mtr:=z0U (seqR byteR (seqR (textR 12) (textR 40))) mkM
def listR:Rd (List Mtr):=onlyR (rowR 5 mtrR) listB
def putM (x:Mtr):Byt:=x.1.toNat.toUInt8::(txtB x.2.1++txtB x.2.2)
def putL (M:List Mtr):Byt:=z4g putM M
theorem z9b:EndsR mtrR:=z1p (z1w ends_byte (z1w (z0I 12) (z0I 40))) _
theorem ends_list:EndsR listR:=z7h (zcz z9b 5) _
theorem zcS:Fits mtrR putM (fun x=>0≤x.1∧x.1<256∧x.2.1.size≤12∧x.2.2.size≤40):=by
 refine dress_fits (z1V byte_fits (z1V (z0T (by decide)) (z0T (by decide)))) (g:=fun x=>(x.1.toNat.toUInt8,x.2.1,x.2.2)) ?_ ?_
 · rintro⟨c,n,v⟩ ⟨_,h1,h2⟩;have:=c.toNat_lt;refine⟨⟨by simp only[mkM];omega,by simp only[mkM];omega,h1,h2⟩,?_⟩
   simp only[putM,mkM,Int.toNat_natCast,toUInt8_toNat];rfl
 · rintro⟨k,n,v⟩ ⟨h0,h1,h2,h3⟩;refine⟨⟨trivial,h2,h3⟩,?_⟩;simp only at h0 h1;have:(k.toNat.toUInt8.toNat:Int)=k:=by rw[toNat_toUInt8 (by omega)];omega
   simp only[mkM,this]
theorem z8j {s:ByteArray} (h:(z2I s).2=true):s.size≤40:=by
 unfold z2I at h;rcases Nat.lt_or_ge 40 s.size with h40|h40
 · exfalso
   have:=(z90 s 8 0 true).2 rfl;simp[h40,this]at h
 · exact h40
theorem z9c {k:Int} {nm v:ByteArray} (h:isB k nm v=true):(1≤k∧k≤4)∧nm.size≤12∧v.size≤40:=by
 unfold isB nameB at h;simp only[Bool.and_eq_true,decide_eq_true_eq]at h;obtain⟨⟨⟨⟨_,hn⟩,_⟩,_⟩,h2⟩:=h;split at h2
 · rename_i hl;unfold likeB at hl;simp only[Bool.or_eq_true,beq_iff_eq]at hl;exact⟨by omega,hn,z8j h2⟩
 · simp only[Bool.and_eq_true,Bool.or_eq_true,beq_iff_eq,decide_eq_true_eq]at h2;exact⟨by omega,hn,by omega⟩
theorem listB_fits:Fits listR putL (fun M=>listB M=true):=by
 refine(z3k (z6w (by decide) zcS) listB).weaken fun M=>⟨fun h=>h.2,fun h=>⟨?_,h⟩⟩
 unfold listB at h;simp only[Bool.and_eq_true,decide_eq_true_eq]at h;refine⟨h.1,fun x hx=>?_⟩
 obtain⟨i,hi,rfl⟩:=List.getElem_of_mem hx;have h2:=List.all_eq_true.1 h.2 i (List.mem_range.2 hi);unfold okL isM at h2;simp only[Bool.and_eq_true]at h2;have e:M.getD i noM3=M[i]:=by rw[List.getD_eq_getElem?_getD,List.getElem?_eq_getElem hi];rfl
 rw[e]at h2;have:=z9c h2.1;omega
def mtrS (b:Byt) (q:Nat×Bool):Mtr×(Nat×Bool):=z1X (seqSt (runR byteR 0 b) (seqSt (runR (textR 12) ⟨#[]⟩ b) (runR (textR 40) ⟨#[]⟩ b))) mkM q
theorem z5y (b:Byt):StepsR b mtrR (mtrS b):=z0W (z0u (z0h b byteR 0) (z0u (z0h b _ _) (z0h b _ _) (z0I 12)) ends_byte) _
def listS (b:Byt):Nat×Bool→List Mtr×(Nat×Bool):=z0L (rowSt 5 b (mtrS b)) listB
theorem za4 (b:Byt):StepsR b listR (listS b):=z1d (z5b (z5y b) z9b 5) _
def readV {α:Type} (r:Option (α×Byt)) (b:Byt) (enc:α→AV) (none_:AV):AV:=match r with
 |some p=>.tup [enc p.1,I (b.length-p.2.length:Nat),Bo true]
 |none=>.tup [none_,I 0,Bo false]
theorem z2x {most:Nat} (b:Byt) (q:Nat×Bool):(runR (numR most) 0 b q).1≤most:=by
 unfold runR;split
 · exact Nat.zero_le _
 · split
   · exact Nat.zero_le _
   · rename_i p h;simp only[numR]at h
     cases hg:getN 0 (b.drop q.1) with
     |none=>simp[hg]at h
     |some x =>
      simp only[hg,Option.bind_some]at h;split at h
      · simp only[Option.some.injEq]at h;rw[←h];assumption
      · cases h
theorem z7v (M:List Mtr) (x:Mtr):mvs3 M++[mv3 x]=mvs3 (M++[x]):=by simp[mvs3]
theorem z0a {n:Nat} {x:AV} {i:Int} {c:Bool} (h:Bel n x):Bel n (.tup [x,I i,Bo c]):=.tup _ fun j hj=>by
 have:∀y∈([x,I i,Bo c]:List AV),Bel n y:=by
  intro y hy;simp only[List.mem_cons,List.not_mem_nil,or_false]at hy;rcases hy with rfl|rfl|rfl
  · exact h
  · exact .pl _
  · exact .pl _
 exact this _ (List.getElem_mem hj)
theorem za5 (σ:St) (b:Byt) (hb:b.length≤50000):Ans Tryz.prog 122 [.sl 1 (byv b)] σ (readV (listR b) b (fun M=>.sl 3 (mvs3 M)) .nils) σ:=by
 have hS:=(za4 b).top;refine Ans.of_run' t122 (fun hbel _=>?_)
 simp -implicitDefEqProofs only[c122,r122,go_sem];refine CO.intro (new_ans σ b) ?_;simp -implicitDefEqProofs only[go_sem,List.append_assoc,List.length_append];generalize hq1:runR (numR 5) 0 b (0,false)=q1;have hin0:Inb b (0,false):=Nat.zero_le _;have hn:=z22 (σ++[rob b (0,false),.row 3 []]) σ.length b (0,false) 5 (by decide) (g0 _ _ _) hin0 hb
 rw[hq1,s0]at hn;refine CO.intro hn ?_;have hn5:q1.1≤5:=by rw[←hq1];exact z2x b _
 have hin1:Inb b q1.2:=by rw[←hq1];exact z0f _ _ _ _ hin0
 simp -implicitDefEqProofs only[go_sem];refine Go.Ab.L.count q1.1 (fun i=>mkE 40 [(5,.ptr σ.length 0),(6,.osl (σ.length+1) i),(12,UN q1.1),(13,UN i)]) (fun i=>σ++[rob b (itSt (mtrS b) q1.2 i).2,.row 3 (mvs3 (itSt (mtrS b) q1.2 i).1)]) ?_ ?_ rfl rfl
 · intro i hi J hJ;have hitI:=z2k (z5y b).inb q1.2 hin1 i;have hlen:=z34 (mtrS b) q1.2 i;simp only[itSt]at hJ;generalize itSt (mtrS b) q1.2 i=c at hJ hitI hlen⊢;obtain⟨l,q⟩:=c;simp only at hJ hitI hlen⊢;have d0:decide ((i:Int)<q1.1)=true:=dec_lt hi;have w0:=z1u (n:=i+1) (by omega)
   have e0:((i:Int)+1)=((i+1:Nat):Int):=rfl;unfold mtrS z1X seqSt at hJ;simp only at hJ;simp -implicitDefEqProofs only[mkE,go_sem,d0];have h1:=z1f (σ++[rob b q,.row 3 (mvs3 l)]) σ.length b q (g0 _ _ _) hitI hb;have hi2:=z0f byteR 0 b q hitI;generalize runR byteR 0 b q=r1 at h1 hi2 hJ;rw[s0]at h1;refine CO.intro h1 ?_;have h2:=z2F (σ++[rob b r1.2,.row 3 (mvs3 l)]) σ.length b r1.2 12 (by decide) (g0 _ _ _) hi2 hb
   have hi3:=z0f (textR 12) ⟨#[]⟩ b r1.2 hi2;generalize runR (textR 12) ⟨#[]⟩ b r1.2=r2 at h2 hi3 hJ;rw[s0]at h2;simp -implicitDefEqProofs only[go_sem,bc];refine CO.intro h2 ?_;have h3:=z2F (σ++[rob b r2.2,.row 3 (mvs3 l)]) σ.length b r2.2 40 (by decide) (g0 _ _ _) hi3 hb
   generalize runR (textR 40) ⟨#[]⟩ b r2.2=r3 at h3 hJ;rw[s0]at h3;simp -implicitDefEqProofs only[go_sem];refine CO.intro h3 ?_;have hl:(mvs3 l).length=i:=by rw[z0s,hlen]
   have hw:IntKind.i64.wrap (r1.1.toNat:Int)=(r1.1.toNat:Int):=wrapI (by have:=r1.1.toNat_lt;omega)
   have hle:i+1≤4294967296:=by omega
   have hsn:=z7v l (mkM (r1.1,r2.1,r3.1));simp -implicitDefEqProofs only[go_sem,hw,g1,s1,hl,hle,List.length_singleton,e0,w0];rw[←hsn]at hJ;exact hJ
 · intro J;have hitI:=z2k (z5y b).inb q1.2 hin1 q1.1;have hlen:=z34 (mtrS b) q1.2 q1.1
   have hL:listS b (0,false)=((itSt (mtrS b) q1.2 q1.1).1,took (itSt (mtrS b) q1.2 q1.1).2 0 (listB (itSt (mtrS b) q1.2 q1.1).1)):=by
    unfold listS z0L rowSt;rw[hq1]
   rw[hL]at hS;generalize itSt (mtrS b) q1.2 q1.1=c at hS hitI hlen⊢;obtain⟨l,q⟩:=c;simp only at hS hitI hlen⊢;have hl:(mvs3 l).length=q1.1:=by rw[z0s,hlen]
   have d0:decide ((q1.1:Int)<q1.1)=false:=by simp
   simp -implicitDefEqProofs only[mkE,go_sem,d0,g1,s1,hl];refine CO.intro (z1O _ l) ?_;have h2:=z0b (σ++[rob b q,.dead]) σ.length b q (listB l) (g0 _ _ _) hitI hb;rw[s0]at h2;simp -implicitDefEqProofs only[go_sem];refine CO.intro h2 ?_;have h3:=z2s (σ++[rob b (took q 0 (listB l)),.dead]) σ.length b (took q 0 (listB l)) (g0 _ _ _);simp -implicitDefEqProofs only[go_sem];refine CO.intro h3 ?_;have hbm:Bel σ.length (.sl 3 (mvs3 l)):=z0x _ _
   cases hr:listR b with
   |none =>
    have hb2:=hS.2 hr;rw[hb2];simp -implicitDefEqProofs only[go_sem];exact Fini.trim2 (σ':=σ) rfl rfl (Nat.le_refl _) (by unfold readV;exact z0a .nils) hbel
   |some p =>
    obtain⟨M,t⟩:=p;have hb2:=hS.1 M t hr;simp only[Prod.mk.injEq]at hb2;obtain⟨rfl,hb2⟩:=hb2;rw[hb2];simp -implicitDefEqProofs only[go_sem];refine Fini.trim2 (σ':=σ) rfl rfl (Nat.le_refl _) ?_ hbel;unfold readV;exact z0a hbm
theorem z7w (σ:St) (b:Byt) (hb:b.length≤50000):Ans Tryz.prog 122 [.sl 1 (byv b)] σ (readV (listR b) b (fun M=>.sl 3 (mvs3 M)) (.sl 3 [])) σ:=by
 refine(za5 σ b hb).subR ?_;unfold readV
 cases listR b with
 |none=>exact .tup (.cons (.nils 3) (.refl _))
 |some p=>exact .refl _
theorem z2Q (n:Nat):((n:Int).tmod 128)=((n%128:Nat):Int):=rfl
theorem zeL (n:Nat):((n:Int).tdiv 128)=((n/128:Nat):Int):=rfl
theorem zfK (n:Nat):IntKind.u8.wrap (((n%128%256:Nat):Int)+128)=((n%128+128:Nat):Int):=by
 have:(((n%128%256:Nat):Int)+128)=((n%128%256+128:Nat):Int):=by push_cast;rfl
 rw[this,z63];congr 1;omega
def orD (a d s:Nat):Int:=IntKind.u64.wrap ((BitVec.ofInt 64 (a:Int) ||| BitVec.ofInt 64 (IntKind.u64.wrap ((d:Int)*2^min s 64))).toNat:Int)
theorem zfL (a d s:Nat) (ha:a<2^s) (hs:s<64) (hd:d*2^s<18446744073709551616):orD a d s=((a+2^s*d:Nat):Int):=zaW a d s ha hs hd
theorem zbm (i c:Nat) (h:i<9∨i=9∧c%128≤1):c%128*2^(7*i)<18446744073709551616:=by
 rcases h with h|⟨rfl,h⟩
 · have h4:c%128<2^7:=Nat.mod_lt _ (by decide)
   calc c%128*2^(7*i)<2^7*2^(7*i):=Nat.mul_lt_mul_of_pos_right h4 (Nat.two_pow_pos _)
    _=2^(7+7*i):=by rw[Nat.pow_add]
    _≤2^63:=Nat.pow_le_pow_right (by decide) (by omega)
    _<18446744073709551616:=by decide
 · calc c%128*2^(7*9)≤1*2^63:=Nat.mul_le_mul_right _ h
   _<18446744073709551616:=by decide
section
variable (σ:St)
theorem z4P (n:Nat) (hn:n<18446744073709551616):Ans Tryz.prog 52 [UN n] σ (.osl σ.length (putN n).length) (σ++[.row 1 (byv (putN n))]):=by
 have h10:=z0J hn;refine Ans.of_run t52 ?_;simp -implicitDefEqProofs only[c52,r52,go_sem];refine Go.Ab.L.intro (α:={ p:Nat×Byt // p.1<18446744073709551616∧p.2++putN p.1=putN n }) (fun p=>p.1.1) (fun p=>mkE 20 [(0,UN p.1.1),(3,.osl σ.length p.1.2.length)]) (fun p=>σ++[.row 1 (byv p.1.2)]) ?_ ⟨(n,[]),hn,rfl⟩ rfl rfl
 rintro⟨⟨m,pre⟩,hm,hp⟩ J hJ;have hl:pre.length+(putN m).length≤10:=by rw[←List.length_append,hp];exact h10
 have hw:=z1u hm;have hle:pre.length+1≤2^32:=by omega
 by_cases h:m<128
 · have d1:decide ((128:Int)≤m)=false:=by simp;omega
   have d2:IntKind.u8.wrap (m:Int)=m:=by rw[z63];congr 1;omega
   simp -implicitDefEqProofs only[mkE,go_sem,d1,row1,z02,List.length_singleton,hle,d2];refine Fini.ret3 (n:=0) rfl ?_ ?_
   · show AV.osl σ.length (pre.length+1)=AV.osl σ.length (putN n).length;rw[←hp,z3j h];simp
   · rw[List.set_append_right _ _ (Nat.le_refl _)];simp only[Nat.sub_self,List.set_cons_zero];rw[←hp,z1c,z3j h,bc_of (show m<256 by omega)]
     rfl
 · have d1:decide ((128:Int)≤m)=true:=by simp;omega
   simp -implicitDefEqProofs only[mkE,go_sem,d1,row1,z02,List.length_singleton,hle,z2Q,z63 (n:=m%128),zfK,zeL,z1u (show m/128<18446744073709551616 by omega)]
   rw[List.set_append_right _ _ (Nat.le_refl _)];simp only[Nat.sub_self,List.set_cons_zero]
   have hgo:=hJ ⟨(m/128,pre++[(m%128+128).toUInt8]),by simp only;omega,by
    rw[←hp];simp only[List.append_assoc,List.singleton_append];rw[z58 h]⟩ (by simp only;omega)
   simp only[z1c,List.length_append,List.length_singleton]at hgo;rw[bc_of (show m%128+128<256 by omega)]
   exact hgo
theorem z4w (s:ByteArray) (hs:s.size≤4294967280):Ans Tryz.prog 53 [Sx s] σ (.sl 1 (byv (txtB s))) σ:=by
 have h10:=z0J (n:=s.size) (by omega)
 have hsz:=z1m s;have hw:=z1u (n:=s.size) (by omega)
 have hle:(putN s.size).length+s.size≤2^32:=by omega
 refine Ans.of_run' t53 (fun hbel _=>?_)
 simp -implicitDefEqProofs only[c53,r53,go_sem,hw];refine CO.intro (z4P σ s.size (by omega)) ?_
 simp -implicitDefEqProofs only[go_sem,z8S,row1,z02,hsz,hle];simp -implicitDefEqProofs only[go_sem,g0,s0,z02,hsz,←z1c,List.length_append];exact Fini.trim2 (σ':=σ) (by show _=some (AV.sl 1 (byv (txtB s)));rfl) rfl (Nat.le_refl _) (z1P _ _) hbel
theorem z19 (b:Byt) (hb:b.length≤100000):Ans Tryz.prog 64 [.sl 1 (byv b)] σ (getV b) σ:=by
 refine Ans.of_run t64 ?_;simp -implicitDefEqProofs only[c64,r64,go_sem]
 refine Go.Ab.L.intro (α:={ p:Nat×Nat // p.1≤b.length∧((p.1≤9∧p.2<2^(7*p.1)∧getN 0 b=(getN p.1 (b.drop p.1)).map fun q=>(p.2+2^(7*p.1)*q.1,q.2))∨(p.1=10∧getN 0 b=none)) }) (fun p=>b.length-p.1.1)
  (fun p=>mkE 51 [(0,.sl 1 (byv b)),(5,UN p.1.2),(6,I p.1.1)]) (fun _=>σ) ?_ ⟨(0,0),Nat.zero_le _,.inl ⟨Nat.zero_le _,by simp,by cases h:getN 0 b<;>simp[h]⟩⟩ rfl rfl
 rintro⟨⟨i,a⟩,hi,hinv⟩ J hJ;simp only at hi hinv hJ;rcases hinv with⟨h9,ha,hg⟩|⟨h10,hg⟩
 · have h10:decide ((i:Int)<10)=true:=by simp;omega
   by_cases hlt:i<b.length
   · have hx:=z59 b i hlt;have hdr:b.drop i=b[i]::b.drop (i+1):=List.drop_eq_getElem_cons hlt;rw[hdr]at hg;have hcl:=(b[i]).toNat_lt;generalize hc:b[i]=c at hx hg hcl;have hbeq9:((i:Int)==9)=decide (i=9):=by rw[Bool.eq_iff_iff];simp;omega
     have hgt1:decide ((1:Int)<((c.toNat%128:Nat):Int))=decide (1<c.toNat%128):=by rw[Bool.eq_iff_iff];simp only[decide_eq_true_eq];omega
     have hgt0:decide ((0:Int)<i)=decide (0<i):=by rw[Bool.eq_iff_iff];simp
     have hbeq0:(((c.toNat%128:Nat):Int)==0)=decide (c.toNat%128=0):=by rw[Bool.eq_iff_iff];simp only[decide_eq_true_eq,beq_iff_eq];omega
     have h128:decide ((128:Int)≤c.toNat)=decide (128≤c.toNat):=by rw[Bool.eq_iff_iff];simp only[decide_eq_true_eq];omega
     have hwd:=z1u (n:=c.toNat%128) (by omega)
     have hin:=wrap_succ (i:=i) (by omega)
     have h7:=z7g (i:=i) (by omega)
     have h7u:=z1u (n:=7*i) (by omega)
     simp only[getN]at hg;by_cases hbad:i=9∧1<c.toNat%128
     · rw[if_pos (.inl ⟨hbad.1,by omega⟩)]at hg
       rw[z0A hg];simp -implicitDefEqProofs only[mkE,go_sem,z02,z0F hlt,dec_lt hlt,h10,hx,bc,z2Q,hwd,hbeq9,hgt1,decide_eq_true hbad.1,decide_eq_true hbad.2];exact Fini.ret rfl
     · have go:∀(P:Prop),(decide (i=9)=true→decide (1<c.toNat%128)=false→P)→(decide (i=9)=false→P)→P:=fun P p q=>by
        by_cases h3:i=9
        · exact p (decide_eq_true h3) (decide_eq_false (by omega))
        · exact q (decide_eq_false h3)
       have hor:=zfL a (c.toNat%128) (7*i) ha (by omega) (zbm i c.toNat (by omega))
       by_cases hend:c.toNat<128
       · have e128:decide (128≤c.toNat)=false:=decide_eq_false (by omega)
         have hmod:c.toNat%128=c.toNat:=Nat.mod_eq_of_lt hend;by_cases hz:c.toNat%128=0∧0<i
         · rw[if_pos (.inr ⟨hz.2,by omega⟩)]at hg
           rw[z0A hg];refine go _ (fun x1 x2=>?_) fun x1=>?_
           · simp -implicitDefEqProofs only[mkE,go_sem,z02,z0F hlt,dec_lt hlt,h10,hx,bc,z2Q,hwd,hbeq9,hgt1,hgt0,hbeq0,x1,x2,h7,h7u,h128,e128,decide_eq_true hz.1,decide_eq_true hz.2];exact Fini.ret rfl
           · simp -implicitDefEqProofs only[mkE,go_sem,z02,z0F hlt,dec_lt hlt,h10,hx,bc,z2Q,hwd,hbeq9,hgt1,hgt0,hbeq0,x1,h7,h7u,h128,e128,decide_eq_true hz.1,decide_eq_true hz.2];exact Fini.ret rfl
         · rw[if_neg (by omega),if_pos hend]at hg
           simp only[Option.map_some]at hg;rw[z0G hg]
           have hfin:∀v:Int,v=((a+2^(7*i)*(c.toNat%128):Nat):Int)→(.tup [.pl (.int .u64 v),I ((i+1:Nat):Int),Bo true]:AV)=.tup [UN (a+2^(7*i)*c.toNat),I (b.length-(b.drop (i+1)).length:Nat),Bo true]:=by
            rintro _ rfl;rw[hmod,List.length_drop,show b.length-(b.length-(i+1))=i+1 by omega]
           have go2:∀(P:Prop),(decide (c.toNat%128=0)=true→decide (0<i)=false→P)→(decide (c.toNat%128=0)=false→P)→P:=fun P p q=>by
            by_cases h3:c.toNat%128=0
            · exact p (decide_eq_true h3) (decide_eq_false (by omega))
            · exact q (decide_eq_false h3)
           refine go _ (fun x1 x2=>go2 _ (fun y1 y2=>?_) fun y1=>?_) fun x1=>go2 _ (fun y1 y2=>?_) fun y1=>?_
           · simp -implicitDefEqProofs only[mkE,go_sem,z02,z0F hlt,dec_lt hlt,h10,hx,bc,z2Q,hwd,hbeq9,hgt1,hgt0,hbeq0,x1,x2,y1,y2,h7,h7u,h128,e128,hin];exact Fini.ret' rfl (hfin _ hor)
           · simp -implicitDefEqProofs only[mkE,go_sem,z02,z0F hlt,dec_lt hlt,h10,hx,bc,z2Q,hwd,hbeq9,hgt1,hgt0,hbeq0,x1,x2,y1,h7,h7u,h128,e128,hin];exact Fini.ret' rfl (hfin _ hor)
           · simp -implicitDefEqProofs only[mkE,go_sem,z02,z0F hlt,dec_lt hlt,h10,hx,bc,z2Q,hwd,hbeq9,hgt1,hgt0,hbeq0,x1,y1,y2,h7,h7u,h128,e128,hin];exact Fini.ret' rfl (hfin _ hor)
           · simp -implicitDefEqProofs only[mkE,go_sem,z02,z0F hlt,dec_lt hlt,h10,hx,bc,z2Q,hwd,hbeq9,hgt1,hgt0,hbeq0,x1,y1,h7,h7u,h128,e128,hin];exact Fini.ret' rfl (hfin _ hor)
       · have e128:decide (128≤c.toNat)=true:=decide_eq_true (by omega)
         have hgo:=hJ ⟨(i+1,a+2^(7*i)*(c.toNat%128)),by simp only;omega,(by
          simp only;rcases Nat.lt_or_eq_of_le h9 with hi9|hi9
          · refine .inl ⟨by omega,?_,?_⟩
            · have e1:2^(7*(i+1))=2^(7*i)*128:=by rw[Nat.mul_add,Nat.pow_add]
              have:c.toNat%128<128:=Nat.mod_lt _ (by decide)
              have:2^(7*i)*(c.toNat%128+1)≤2^(7*i)*128:=Nat.mul_le_mul_left _ this;rw[Nat.mul_add,Nat.mul_one]at this;omega
            · rw[if_neg (by omega),if_neg hend]at hg
              rw[hg];have hm:c.toNat%128=c.toNat-128:=by omega
              cases getN (i+1) (b.drop (i+1)) with
              |none=>rfl
              |some q =>
               simp only[Option.map_some,Option.some.injEq,Prod.mk.injEq,and_true];rw[hm,show 7*(i+1)=7*i+7 by omega,Nat.pow_add,Nat.mul_add,Nat.add_assoc,←Nat.mul_assoc]
          · refine .inr ⟨by omega,?_⟩
            rw[if_pos (.inl ⟨hi9,by omega⟩)]at hg
            exact hg)⟩ (by simp only;omega)
         have key:∀v:Int,v=((a+2^(7*i)*(c.toNat%128):Nat):Int)→J (mkE 51 [(0,.sl 1 (byv b)),(5,.pl (.int .u64 v)),(6,I ((i+1:Nat):Int))]) σ:=by
          rintro _ rfl;exact hgo
         refine go _ (fun x1 x2=>?_) fun x1=>?_
         · simp -implicitDefEqProofs only[mkE,go_sem,z02,z0F hlt,dec_lt hlt,h10,hx,bc,z2Q,hwd,hbeq9,hgt1,x1,x2,h7,h7u,h128,e128,hin];exact key _ hor
         · simp -implicitDefEqProofs only[mkE,go_sem,z02,z0F hlt,dec_lt hlt,h10,hx,bc,z2Q,hwd,hbeq9,hgt1,x1,h7,h7u,h128,e128,hin];exact key _ hor
   · have hn:b.drop i=[]:=List.drop_eq_nil_of_le (by omega)
     rw[hn]at hg;simp only[getN,Option.map_none]at hg;rw[z0A hg];simp -implicitDefEqProofs only[mkE,go_sem,z02,zaS hlt,z88 hlt];exact Fini.ret rfl
 · subst h10;have h10:decide (((10:Nat):Int)<10)=false:=by simp
   rw[z0A hg];by_cases hlt:10<b.length
   · simp -implicitDefEqProofs only[mkE,go_sem,z02,dec_lt hlt,h10];exact Fini.ret rfl
   · simp -implicitDefEqProofs only[mkE,go_sem,z02,z88 hlt];exact Fini.ret rfl
theorem z13 (b:Byt) (most:Nat) (hb:b.length≤100000) (hm:most<9223372036854775808):Ans Tryz.prog 65 [.sl 1 (byv b),I most] σ (textV most b) σ:=by
 refine Ans.of_run t65 ?_;simp -implicitDefEqProofs only[c65,r65,go_sem];refine CO.intro (z19 σ b hb) ?_;have hneg:decide ((most:Int)<0)=false:=by simp
 have hwm:=z1u (n:=most) (by omega)
 cases hg:getN 0 b with
 |none =>
  rw[z0A hg,z0C (z64 hg)];simp -implicitDefEqProofs only[go_sem];exact Fini.ret rfl
 |some p =>
  obtain⟨n,t⟩:=p;obtain⟨hbt,hn,_⟩:=z4J b 0 n t (by omega) hg
  have hn:n<18446744073709551616:=hn;have hlen:b.length=(putN n).length+t.length:=by rw[hbt,List.length_append]
  have hk:b.length-t.length=(putN n).length:=by omega
  have hsub:=subN (a:=b.length) (b:=(putN n).length) (by omega) hb
  have hsub2:b.length-(putN n).length=t.length:=by omega
  have hwt:=z1u (n:=t.length) (by omega)
  have e1:decide ((most:Int)<n)=decide (most<n):=decNN most n;have e2:decide ((t.length:Int)<n)=decide (t.length<n):=decNN _ n;rw[z0G hg,hk];have hR:=z8V (most:=most) hg;by_cases h2:n≤t.length
  · have x2:decide (t.length<n)=false:=decide_eq_false (by omega)
    by_cases h1:n≤most
    · have x1:decide (most<n)=false:=decide_eq_false (by omega)
      rw[if_pos ⟨h1,h2⟩]at hR;have hwn:=wrapI (a:=n) (by omega)
      have hadd:=addN (a:=(putN n).length) (b:=n) (by omega)
      have hlo:((putN n).length:Int)≤((putN n).length+n:Nat):=by omega
      have hhi:(((putN n).length+n:Nat):Int)≤(b.length:Nat):=by omega
      have hcut:(b.take ((putN n).length+n)).drop (putN n).length=t.take n:=by
       rw[hbt,List.take_append,List.take_of_length_le (by omega),Nat.add_sub_cancel_left,List.drop_left]
      rw[z1e hR];simp -implicitDefEqProofs only[go_sem,hneg,hwm,e1,x1,hsub,hsub2,hwt,e2,x2,hwn,hadd,z02,hlo,hhi,AV.isStr,z0q,z0r,hcut,z1N,bc,z1W,z1R];refine Fini.ret' rfl ?_;rw[List.length_drop];have:b.length-(t.length-n)=(putN n).length+n:=by omega
      rw[this];rfl
    · have x1:decide (most<n)=true:=decide_eq_true (by omega)
      rw[if_neg (by omega)]at hR
      rw[z0C hR];simp -implicitDefEqProofs only[go_sem,hneg,hwm,e1,x1,z02,hsub,hsub2,hwt,e2,x2];exact Fini.ret rfl
  · have x2:decide (t.length<n)=true:=decide_eq_true (by omega)
    rw[if_neg (by omega)]at hR
    rw[z0C hR];simp -implicitDefEqProofs only[go_sem,hneg,hwm,z02,hsub,hsub2,hwt,e2,x2];exact Fini.ret rfl
end
theorem z9d (s:ByteArray) (h:s.size≤1000000):(txtB s).length≤10+s.size:=by
 have h10:=z0J (n:=s.size) (by omega)
 rw[txtB,List.length_append,z1m];omega
theorem zcT {M:List Mtr} (h:listB M=true):M.length≤5∧∀x∈M,(1≤x.1∧x.1≤4)∧x.2.1.size≤12∧x.2.2.size≤40:=by
 unfold listB at h;simp only[Bool.and_eq_true,decide_eq_true_eq]at h;refine⟨h.1,fun x hx=>?_⟩
 obtain⟨i,hi,rfl⟩:=List.getElem_of_mem hx;have h2:=List.all_eq_true.1 h.2 i (List.mem_range.2 hi);unfold okL isM at h2;simp only[Bool.and_eq_true]at h2;have e:M.getD i noM3=M[i]:=by rw[List.getD_eq_getElem?_getD,List.getElem?_eq_getElem hi];rfl
 rw[e]at h2;exact z9c h2.1
section
variable (σ:St)
end
end Go.Proofs.YteakobbdgehlgaaGreatDoor
