/- The document's parser of patterns: ways, and the whole. No condition. -/
import Derived.Test.YtmkmhhjkdaklbaaGreatXPDoc3v
import Derived.Test.YtmkmhhjkdaklbaaGreatXMCode2v
import Derived.Test.YtmkmhhjkdaklbaaGreatXMCode1v
import Derived.Test.YtmkmhhjkdaklbaaGreatXMt1v
import Derived.Test.YtmkmhhjkdaklbaaGreatProg
import Derived.Test.YtmkmhhjkdaklbaaGreatAbStepv
import Derived.Test.YtmkmhhjkdaklbaaGreatRows
import Derived.Test.YtmkmhhjkdaklbaaGreatAbArgv
set_option linter.unusedSimpArgs false
set_option linter.unusedVariables false
set_option linter.unusedSectionVars false
namespace Go.Proofs.YtmkmhhjkdaklbaaGreat
open Go Go.Ab
set_option maxRecDepth 100000
open Rex
def dwayL (s:ByteArray) (F:DF):Nat→List Rex→Nat→Nat→Bool→List Rex×Nat×Nat×Bool
 |0,K,a,d,b=>(K,a,d,b)
 |n+1,K,a,d,b=>if wGo s a b then dwayL s F n (K++[(F a).1]) (F a).2.1 (F a).2.2.1 (F a).2.2.2 else(K,a,d,b)
def dway (s:ByteArray) (F:DF) (d:Nat):DF:=fun a =>
 (one 2 (dwayL s F (s.size+1) [] a d false).1,(dwayL s F (s.size+1) [] a d false).2)
def z2k (s:ByteArray) (F:DF):Nat→List Rex→Nat→Nat→Bool→List Rex×Nat×Nat×Bool
 |0,K,a,d,b=>(K,a,d,b)
 |n+1,K,a,d,b=>if sees s a b 124 then z2k s F n (K++[(F (a+1)).1]) (F (a+1)).2.1 (F (a+1)).2.2.1 (F (a+1)).2.2.2 else(K,a,d,b)
def dways (s:ByteArray) (F:DF):DF:=fun a =>
 (one 3 (z2k s F (s.size+1) [(F a).1] (F a).2.1 (F a).2.2.1 (F a).2.2.2).1,(z2k s F (s.size+1) [(F a).1] (F a).2.1 (F a).2.2.1 (F a).2.2.2).2)
def dlvl (s:ByteArray) (W:DF) (d:Nat):DF:=dways s (dway s (z3l s (datom s W d)) d)
def DW (s:ByteArray):Nat→DF
 |0=>dlvl s (fun a=>(zeroR,a,0,false)) 8
 |k+1=>dlvl s (DW s k) (7-k)
def z8s (s:ByteArray):Rex×Bool :=
 if decide (40<s.size) then(zeroR,false)
 else if(DW s 8 0).2.2.2||decide ((DW s 8 0).2.1<s.size) then(zeroR,false) else((DW s 8 0).1,true)
structure DOK (g:Nat) (d:Nat) (F:DF):Prop where
 ge:∀a,a+g≤(F a).2.1
 deep:∀a,(F a).2.2.2=false→(F a).2.2.1=d
theorem z6T (s:ByteArray):∀(k:Nat) (S:List Int) (a:Nat) (b:Bool) (n:Nat),a≤(z0W s k S a b n).2.1
 |0,S,a,b,n=>Nat.le_refl _
 |k+1,S,a,b,n=>by
  rw[z0W];split
  · exact Nat.le_trans (Nat.le_trans (z6P s a) (zcE s a)) (z6T s k _ _ _ _)
  · exact Nat.le_refl _
theorem zcH (s:ByteArray) (a:Nat):a≤(z1V s a).2.1:=by
 have h:=Nat.le_trans (z3i s a false 94) (z6T s (s.size+3) z4 (nextA s a false 94) false 0);unfold z1V dOut;split
 · exact h
 · exact Nat.le_succ_of_le h
theorem z4k (s:ByteArray) {F:DF} {d:Nat} (h:∀a,a≤(F a).2.1):DOK 1 d (datom s F d):=by
 constructor
 · intro a;have h1:=h (a+1);have h2:=zcH s (a+1);unfold datom;simp only
   repeat' split
   all_goals simp only
   all_goals omega
 · intro a;unfold datom;simp only
   repeat' split
   all_goals simp
theorem z4l (s:ByteArray) (F:DF) (a:Nat):(z3l s F a).2.2=(F a).2.2∧(F a).2.1≤(z3l s F a).2.1:=by
 unfold z3l;simp only
 repeat' split
 all_goals exact⟨rfl,by simp⟩
theorem z3a (s:ByteArray) {F:DF} {d:Nat} (h:DOK 1 d F):DOK 1 d (z3l s F):=by
 constructor
 · intro a;exact Nat.le_trans (h.ge a) (z4l s F a).2
 · intro a;rw[(z4l s F a).1];exact h.deep a
theorem z7o (s:ByteArray) {F:DF} {d:Nat} (h:DOK 1 d F):∀n K a d0 b,a≤(dwayL s F n K a d0 b).2.1∧((b=false→d0=d)→(dwayL s F n K a d0 b).2.2.2=false→(dwayL s F n K a d0 b).2.2.1=d)
 |0,K,a,d0,b=>⟨Nat.le_refl _,fun h1 h2=>h1 h2⟩
 |n+1,K,a,d0,b=>by
  rw[dwayL];split
  · have h1:=z7o s h n (K++[(F a).1]) (F a).2.1 (F a).2.2.1 (F a).2.2.2;exact⟨Nat.le_trans (Nat.le_trans (Nat.le_succ a) (h.ge a)) h1.1,fun _ h2=>h1.2 (h.deep a) h2⟩
  · exact⟨Nat.le_refl _,fun h1 h2=>h1 h2⟩
theorem z9E (s:ByteArray) {F:DF} {d:Nat} (h:DOK 1 d F):DOK 0 d (dway s F d) :=
 ⟨fun a=>(z7o s h (s.size+1) [] a d false).1,fun a=>(z7o s h (s.size+1) [] a d false).2 (fun _=>rfl)⟩
theorem z5R (s:ByteArray) {F:DF} {d:Nat} (h:DOK 0 d F):∀n K a d0 b,a≤(z2k s F n K a d0 b).2.1∧((b=false→d0=d)→(z2k s F n K a d0 b).2.2.2=false→(z2k s F n K a d0 b).2.2.1=d)
 |0,K,a,d0,b=>⟨Nat.le_refl _,fun h1 h2=>h1 h2⟩
 |n+1,K,a,d0,b=>by
  rw[z2k];split
  · have h1:=z5R s h n (K++[(F (a+1)).1]) (F (a+1)).2.1 (F (a+1)).2.2.1 (F (a+1)).2.2.2;exact⟨Nat.le_trans (Nat.le_trans (Nat.le_succ a) (h.ge (a+1))) h1.1,fun _ h2=>h1.2 (h.deep (a+1)) h2⟩
  · exact⟨Nat.le_refl _,fun h1 h2=>h1 h2⟩
theorem zen (s:ByteArray) {F:DF} {d:Nat} (h:DOK 0 d F):DOK 0 d (dways s F):=by
 constructor
 · intro a;exact Nat.le_trans (h.ge a) (z5R s h (s.size+1) [(F a).1] (F a).2.1 (F a).2.2.1 (F a).2.2.2).1
 · intro a;exact(z5R s h (s.size+1) [(F a).1] (F a).2.1 (F a).2.2.1 (F a).2.2.2).2 (h.deep a)
theorem zcI (s:ByteArray) {W:DF} (h:∀a,a≤(W a).2.1) (d:Nat):DOK 0 d (dlvl s W d):=zen s (z9E s (z3a s (z4k s h)))
theorem zfK (s:ByteArray):∀k,DOK 0 (8-k) (DW s k)
 |0=>zcI s (fun a=>Nat.le_refl _) 8
 |k+1=>by
  have:=zcI s (zfK s k).ge (7-k);rw[show 8-(k+1)=7-k by omega]
  exact this
section
variable (s:ByteArray)
theorem zat (F:DF) (d:Nat) (hF:DAns 200 true s d F) (hok:DOK 1 d F):DAns 189 false s d (dway s F d):=by
 intro σ p a hp hs _;refine Ans.of_run' t189 (fun hbel _=>?_)
 have hb2:=z5O hbel;simp -implicitDefEqProofs only[c189,r189,go_sem,List.append_assoc,List.length_append,List.length_set];unfold dway;simp only;have hm:s.size-a<s.size+1:=by omega
 generalize hres:dwayL s F (s.size+1) [] a d false=res
 refine L.intro (α:={ x:Nat×List Rex×Nat×Nat×Bool // dwayL s F x.1 x.2.1 x.2.2.1 x.2.2.2.1 x.2.2.2.2=res∧s.size-x.2.2.1<x.1∧(x.2.2.2.2=false→x.2.2.2.1=d)∧x.2.1.length≤x.2.2.1 })
  (fun x=>x.1.1)
  (fun x=>mkE 43 [(0,.ptr p 0),(2,.ptr σ.length 0),(3,vK σ.length x.1.2.1)])
  (fun x=>σ.set p (dob s x.1.2.2.1 x.1.2.2.2.1 x.1.2.2.2.2)++exK x.1.2.1)
  (fun x J hJ=>?_) ⟨(s.size+1,[],a,d,false),hres,hm,fun _=>rfl,Nat.zero_le _⟩ ?_ ?_
 · obtain⟨⟨n,K,a1,d1,b1⟩,h1,h2,h3,h4⟩:=x;simp only at h1 h2 h3 h4 hJ⊢
   cases n with
   |zero=>omega
   |succ n =>
   rw[dwayL]at h1;have k124:(((byteAt s a1:Nat):Int)==124)=(byteAt s a1==124):=z0p _ 124;have n124:(((byteAt s a1:Nat):Int) != 124)= !(byteAt s a1==124):=by rw[bne,k124]
   have k41:(((byteAt s a1:Nat):Int)==41)=(byteAt s a1==41):=z0p _ 41;have n41:(((byteAt s a1:Nat):Int) != 41)= !(byteAt s a1==41):=by rw[bne,k41]
   cases hgo:wGo s a1 b1 with
   |true =>
    rw[hgo,if_pos rfl]at h1;obtain⟨ha,hb⟩:=zfI hgo;subst hb;have hd1:=h3 rfl;subst hd1;have hov:over s a1 false=false:=by simp[wGo]at hgo;exact hgo.1
    have hs1:(byteAt s a1==124)=false:=by rw[←z0K hov];simp[wGo]at hgo;exact hgo.2.1
    have hs2:(byteAt s a1==41)=false:=by rw[←z0K hov];simp[wGo]at hgo;exact hgo.2.2
    have ha':(a1:Int)<s.size:=by omega
    have hea:=hok.ge a1;have hJ':=hJ ⟨(n,K++[(F a1).1],(F a1).2.1,(F a1).2.2.1,(F a1).2.2.2),h1,by simp only;omega,hok.deep a1,by simp;omega⟩ (Nat.lt_succ_self n)
    simp only[z5b,z7l]at hJ';clear hJ h1 hgo;simp -implicitDefEqProofs only[mkE,go_sem];refine CD.intro (z1R hp a1 d1 false _) ?_;simp -implicitDefEqProofs only[go_sem,hov,gA hp,sA hp,gL0,sL0,gL1,sL1,ha',z06,k124,n124,hs1,k41,n41,hs2];refine CO.intro (hF.ex hp a1 hs (fun _=>ha) _) ?_
    generalize F a1=w at hJ' hea⊢;obtain⟨x,a2,d2,b2⟩:=w;simp only at hJ' hea⊢;rw[rv_eq x]at hJ'⊢;rcases K with _|⟨y,K⟩
    all_goals rcases rvK_cases x.ks with hK|⟨l,hK⟩
    all_goals rw[hK]at hJ'⊢
    all_goals first
    |(simp -implicitDefEqProofs only[go_sem,z3A,z4Q,gA hp,sA hp,gL0,sL0,gL1,sL1]at hJ'⊢
      simpa[mkE] using hJ')
    |(have g1:(K.length+1+1≤2^32)=True:=by simp at h4;simp;omega
      simp -implicitDefEqProofs only[go_sem,z0H,z15,gA hp,sA hp,gL0,sL0,gL1,sL1,List.length_map,g1]at hJ'⊢
      simpa[mkE] using hJ')
   |false =>
    rw[hgo,if_neg Bool.false_ne_true]at h1;subst h1;clear hJ h2
    have hex:over s a1 b1=true∨(over s a1 b1=false∧b1=false∧(byteAt s a1==124)=true)∨(over s a1 b1=false∧b1=false∧(byteAt s a1==124)=false∧(byteAt s a1==41)=true):=by
     cases h1:over s a1 b1
     · have hb:b1=false:=by cases b1<;>simp[over]at h1⊢
       subst hb;unfold wGo at hgo;rw[z0K h1,z0K h1,h1]at hgo;cases h2:byteAt s a1==124<;>cases h3:byteAt s a1==41<;>simp[h2,h3]at hgo⊢
     · exact .inl rfl
    have hend:True:=trivial;rcases hex with ho|⟨ho,hb,h5⟩|⟨ho,hb,h5,h6⟩
    · simp -implicitDefEqProofs only[mkE,go_sem];refine CD.intro (z1R hp a1 d1 b1 _) ?_;simp -implicitDefEqProofs only[go_sem,ho];rcases K with _|⟨y,_|⟨z,K⟩⟩
      · simp -implicitDefEqProofs only[go_sem,z3A,z4Q,gA hp,sA hp,gL0,sL0,gL1,sL1];refine Fini.trim2 (ex:=[_]) ?_ rfl ?_ (z0e _ _) (hb2 _ _ _)
        · ((try simp -implicitDefEqProofs only[go_sem,resA,z03,rvA,oneOf,gL0]);first|done|rfl|(rw[z1D];rfl)|rw[rv_eq,hK])
        · simp
      · have g3:(((1:Nat):Int)==1)=true:=rfl;have g4:((0:Int)<((1:Nat):Int))=True:=by simp
        have hbx:∀n,Bel n y.rv:=fun n=>z0e n y
        rw[z0H,z15,List.map_cons,List.map_nil,show(one 2 [y])=y from rfl]
        rw[rv_eq y]at hbx⊢;rcases rvK_cases y.ks with hK|⟨l,hK⟩
        all_goals rw[hK]at hbx⊢
        all_goals simp -implicitDefEqProofs only[go_sem,gA hp,sA hp,gL0,sL0,gL1,sL1,List.length_map,g3,g4,Int.toNat_zero]
        all_goals (
         refine Fini.trim2 (ex:=[_,_]) ?_ rfl ?_ (hbx _) (hb2 _ _ _)
         · ((try simp -implicitDefEqProofs only[go_sem,resA,z03,rvA,oneOf,gL0]);first|done|rfl|(rw[z1D];rfl)|rw[rv_eq,hK])
         · simp)
      · rw[z0H,z15];have g2:(((K.length+1+1:Nat):Int)==1)=false:=by simp;omega
        simp -implicitDefEqProofs only[go_sem,gA hp,sA hp,gL0,sL0,gL1,sL1,List.length_map,g2];refine Fini.trim2 (ex:=[_,_]) ?_ rfl ?_ (z0e _ _) (hb2 _ _ _)
        · ((try simp -implicitDefEqProofs only[go_sem,resA,z03,rvA,oneOf,gL0]);first|done|rfl|(rw[z1D];rfl)|rw[rv_eq,hK])
        · simp
    · subst hb;have hlt:=z1A ho;have ha':(a1:Int)<s.size:=by omega
      simp -implicitDefEqProofs only[mkE,go_sem];refine CD.intro (z1R hp a1 d1 false _) ?_;simp -implicitDefEqProofs only[go_sem,ho,gA hp,sA hp,gL0,sL0,gL1,sL1,ha',z06,k124,n124,h5];rcases K with _|⟨y,_|⟨z,K⟩⟩
      · simp -implicitDefEqProofs only[go_sem,z3A,z4Q,gA hp,sA hp,gL0,sL0,gL1,sL1];refine Fini.trim2 (ex:=[_]) ?_ rfl ?_ (z0e _ _) (hb2 _ _ _)
        · ((try simp -implicitDefEqProofs only[go_sem,resA,z03,rvA,oneOf,gL0]);first|done|rfl|(rw[z1D];rfl)|rw[rv_eq,hK])
        · simp
      · have g3:(((1:Nat):Int)==1)=true:=rfl;have g4:((0:Int)<((1:Nat):Int))=True:=by simp
        have hbx:∀n,Bel n y.rv:=fun n=>z0e n y
        rw[z0H,z15,List.map_cons,List.map_nil,show(one 2 [y])=y from rfl]
        rw[rv_eq y]at hbx⊢;rcases rvK_cases y.ks with hK|⟨l,hK⟩
        all_goals rw[hK]at hbx⊢
        all_goals simp -implicitDefEqProofs only[go_sem,gA hp,sA hp,gL0,sL0,gL1,sL1,List.length_map,g3,g4,Int.toNat_zero]
        all_goals (
         refine Fini.trim2 (ex:=[_,_]) ?_ rfl ?_ (hbx _) (hb2 _ _ _)
         · ((try simp -implicitDefEqProofs only[go_sem,resA,z03,rvA,oneOf,gL0]);first|done|rfl|(rw[z1D];rfl)|rw[rv_eq,hK])
         · simp)
      · rw[z0H,z15];have g2:(((K.length+1+1:Nat):Int)==1)=false:=by simp;omega
        simp -implicitDefEqProofs only[go_sem,gA hp,sA hp,gL0,sL0,gL1,sL1,List.length_map,g2];refine Fini.trim2 (ex:=[_,_]) ?_ rfl ?_ (z0e _ _) (hb2 _ _ _)
        · ((try simp -implicitDefEqProofs only[go_sem,resA,z03,rvA,oneOf,gL0]);first|done|rfl|(rw[z1D];rfl)|rw[rv_eq,hK])
        · simp
    · subst hb;have hlt:=z1A ho;have ha':(a1:Int)<s.size:=by omega
      simp -implicitDefEqProofs only[mkE,go_sem];refine CD.intro (z1R hp a1 d1 false _) ?_;simp -implicitDefEqProofs only[go_sem,ho,gA hp,sA hp,gL0,sL0,gL1,sL1,ha',z06,k124,n124,h5,k41,n41,h6];rcases K with _|⟨y,_|⟨z,K⟩⟩
      · simp -implicitDefEqProofs only[go_sem,z3A,z4Q,gA hp,sA hp,gL0,sL0,gL1,sL1];refine Fini.trim2 (ex:=[_]) ?_ rfl ?_ (z0e _ _) (hb2 _ _ _)
        · ((try simp -implicitDefEqProofs only[go_sem,resA,z03,rvA,oneOf,gL0]);first|done|rfl|(rw[z1D];rfl)|rw[rv_eq,hK])
        · simp
      · have g3:(((1:Nat):Int)==1)=true:=rfl;have g4:((0:Int)<((1:Nat):Int))=True:=by simp
        have hbx:∀n,Bel n y.rv:=fun n=>z0e n y
        rw[z0H,z15,List.map_cons,List.map_nil,show(one 2 [y])=y from rfl]
        rw[rv_eq y]at hbx⊢;rcases rvK_cases y.ks with hK|⟨l,hK⟩
        all_goals rw[hK]at hbx⊢
        all_goals simp -implicitDefEqProofs only[go_sem,gA hp,sA hp,gL0,sL0,gL1,sL1,List.length_map,g3,g4,Int.toNat_zero]
        all_goals (
         refine Fini.trim2 (ex:=[_,_]) ?_ rfl ?_ (hbx _) (hb2 _ _ _)
         · ((try simp -implicitDefEqProofs only[go_sem,resA,z03,rvA,oneOf,gL0]);first|done|rfl|(rw[z1D];rfl)|rw[rv_eq,hK])
         · simp)
      · rw[z0H,z15];have g2:(((K.length+1+1:Nat):Int)==1)=false:=by simp;omega
        simp -implicitDefEqProofs only[go_sem,gA hp,sA hp,gL0,sL0,gL1,sL1,List.length_map,g2];refine Fini.trim2 (ex:=[_,_]) ?_ rfl ?_ (z0e _ _) (hb2 _ _ _)
        · ((try simp -implicitDefEqProofs only[go_sem,resA,z03,rvA,oneOf,gL0]);first|done|rfl|(rw[z1D];rfl)|rw[rv_eq,hK])
        · simp
 · simp[mkE,vK]
 · rfl
theorem z8t (F:DF) (d:Nat) (hF:DAns 189 false s d F) (hok:DOK 0 d F):DAns 180 false s d (dways s F):=by
 intro σ p a hp hs hg;refine Ans.of_run' t180 (fun hbel _=>?_)
 have hb2:=z5O hbel;simp -implicitDefEqProofs only[c180,r180,go_sem,List.append_assoc,List.length_append,List.length_set];unfold dways;simp only;refine CO.intro (hF.ex hp a hs hg _) ?_;have hd0:=hok.deep a;generalize F a=w0 at hd0⊢;obtain⟨x0,a0,d0,b0⟩:=w0;simp only at hd0⊢;have hm:s.size-a0<s.size+1:=by omega
 generalize hres:z2k s F (s.size+1) [x0] a0 d0 b0=res;rw[rv_eq x0];rcases rvK_cases x0.ks with hK0|⟨l0,hK0⟩
 all_goals rw[hK0]
 all_goals simp -implicitDefEqProofs only[go_sem,gA hp,sA hp,gL0,sL0,gL1,sL1,List.append_assoc,List.length_append,List.length_set]
 all_goals (
  refine L.intro (α:={ x:Nat×List Rex×Nat×Nat×Bool // z2k s F x.1 x.2.1 x.2.2.1 x.2.2.2.1 x.2.2.2.2=res∧s.size-x.2.2.1<x.1∧(x.2.2.2.2=false→x.2.2.2.1=d)∧x.2.1.length≤x.2.2.1+1∧x.2.1≠[] })
   (fun x=>x.1.1)
   (fun x=>mkE 41 [(0,.ptr p 0),(2,.ptr σ.length 0),(3,vK σ.length x.1.2.1)])
   (fun x=>σ.set p (dob s x.1.2.2.1 x.1.2.2.2.1 x.1.2.2.2.2)++exK x.1.2.1)
   (fun x J hJ=>?_) ⟨(s.size+1,[x0],a0,d0,b0),hres,hm,hd0,by simp,by simp⟩ ?_ ?_)
 all_goals try (simp[mkE,vK];done)
 all_goals try (simp only[z0H,List.map_cons,List.map_nil,rv_eq x0,hK0];done)
 all_goals (
  obtain⟨⟨n,K,a1,d1,b1⟩,h1,h2,h3,h4,h5⟩:=x;simp only at h1 h2 h3 h4 h5 hJ⊢;rcases n with _|n
  · omega
  rw[z2k]at h1;have k124:(((byteAt s a1:Nat):Int)==124)=(byteAt s a1==124):=z0p _ 124;have n124:(((byteAt s a1:Nat):Int) != 124)= !(byteAt s a1==124):=by rw[bne,k124]
  cases hgo:sees s a1 b1 124
  · rw[hgo,if_neg Bool.false_ne_true]at h1;subst h1;clear hJ h2;simp -implicitDefEqProofs only[mkE,go_sem];refine CD.intro (z1R hp a1 d1 b1 _) ?_;cases ho:over s a1 b1
    · have hb:b1=false:=by cases b1<;>simp[over]at ho⊢
      subst hb;have hlt:=z1A ho;have ha':(a1:Int)<s.size:=by omega
      rw[z0K ho]at hgo;simp -implicitDefEqProofs only[go_sem,ho,gA hp,sA hp,gL0,sL0,gL1,sL1,ha',z06,k124,n124,hgo];rcases K with _|⟨y,_|⟨z,K⟩⟩
      · exact absurd rfl h5
      · have g3:(((1:Nat):Int)==1)=true:=rfl;have g4:((0:Int)<((1:Nat):Int))=True:=by simp
        have hbx:∀n,Bel n y.rv:=fun n=>z0e n y
        rw[z0H,z15,List.map_cons,List.map_nil,show(one 3 [y])=y from rfl]
        rw[rv_eq y]at hbx⊢;rcases rvK_cases y.ks with hK|⟨l,hK⟩
        all_goals rw[hK]at hbx⊢
        all_goals simp -implicitDefEqProofs only[go_sem,gA hp,sA hp,gL0,sL0,gL1,sL1,List.length_map,g3,g4,Int.toNat_zero]
        all_goals (
         refine Fini.trim2 (ex:=[_,_]) ?_ rfl ?_ (hbx _) (hb2 _ _ _)
         · ((try simp -implicitDefEqProofs only[go_sem,resA,z03,rvA,oneOf,gL0]);first|done|rfl|(rw[z1D];rfl)|rw[rv_eq,hK])
         · simp)
      · rw[z0H,z15];have g2:(((K.length+1+1:Nat):Int)==1)=false:=by simp;omega
        simp -implicitDefEqProofs only[go_sem,gA hp,sA hp,gL0,sL0,gL1,sL1,List.length_map,g2];refine Fini.trim2 (ex:=[_,_]) ?_ rfl ?_ (z0e _ _) (hb2 _ _ _)
        · ((try simp -implicitDefEqProofs only[go_sem,resA,z03,rvA,oneOf,gL0]);first|done|rfl|(rw[z1D];rfl)|rw[rv_eq,hK])
        · simp
    · simp -implicitDefEqProofs only[go_sem,ho];rcases K with _|⟨y,_|⟨z,K⟩⟩
      · exact absurd rfl h5
      · have g3:(((1:Nat):Int)==1)=true:=rfl;have g4:((0:Int)<((1:Nat):Int))=True:=by simp
        have hbx:∀n,Bel n y.rv:=fun n=>z0e n y
        rw[z0H,z15,List.map_cons,List.map_nil,show(one 3 [y])=y from rfl]
        rw[rv_eq y]at hbx⊢;rcases rvK_cases y.ks with hK|⟨l,hK⟩
        all_goals rw[hK]at hbx⊢
        all_goals simp -implicitDefEqProofs only[go_sem,gA hp,sA hp,gL0,sL0,gL1,sL1,List.length_map,g3,g4,Int.toNat_zero]
        all_goals (
         refine Fini.trim2 (ex:=[_,_]) ?_ rfl ?_ (hbx _) (hb2 _ _ _)
         · ((try simp -implicitDefEqProofs only[go_sem,resA,z03,rvA,oneOf,gL0]);first|done|rfl|(rw[z1D];rfl)|rw[rv_eq,hK])
         · simp)
      · rw[z0H,z15];have g2:(((K.length+1+1:Nat):Int)==1)=false:=by simp;omega
        simp -implicitDefEqProofs only[go_sem,gA hp,sA hp,gL0,sL0,gL1,sL1,List.length_map,g2];refine Fini.trim2 (ex:=[_,_]) ?_ rfl ?_ (z0e _ _) (hb2 _ _ _)
        · ((try simp -implicitDefEqProofs only[go_sem,resA,z03,rvA,oneOf,gL0]);first|done|rfl|(rw[z1D];rfl)|rw[rv_eq,hK])
        · simp
  · rw[hgo,if_pos rfl]at h1;obtain⟨ha,hb⟩:=z9z hgo;subst hb;have hd1:=h3 rfl;subst hd1
    have ho:over s a1 false=false:=by
     cases h:over s a1 false
     · rfl
     · simp[sees,h]at hgo
    have ha':(a1:Int)<s.size:=by omega
    have hea:=hok.ge (a1+1);have hJ':=hJ ⟨(n,K++[(F (a1+1)).1],(F (a1+1)).2.1,(F (a1+1)).2.2.1,(F (a1+1)).2.2.2),h1,by simp only;omega,hok.deep (a1+1),by simp;omega,by simp⟩ (Nat.lt_succ_self n)
    simp only[z5b,z7l]at hJ';clear hJ h1;rw[z0K ho]at hgo;simp -implicitDefEqProofs only[mkE,go_sem];refine CD.intro (z1R hp a1 d1 false _) ?_;simp -implicitDefEqProofs only[go_sem,ho,gA hp,sA hp,gL0,sL0,gL1,sL1,ha',z06,k124,n124,hgo,z0V (show a1≤4294967296 by omega)]
    refine CO.intro (hF.ex hp (a1+1) hs (fun h=>absurd h Bool.false_ne_true) _) ?_
    generalize F (a1+1)=w at hJ' hea⊢;obtain⟨x,a2,d2,b2⟩:=w;simp only at hJ' hea⊢;rw[rv_eq x]at hJ'⊢;rcases K with _|⟨y,K⟩
    · exact absurd rfl h5
    have g1:(K.length+1+1≤2^32)=True:=by simp at h4;simp;omega
    rcases rvK_cases x.ks with hK|⟨l,hK⟩
    all_goals rw[hK]at hJ'⊢
    all_goals (
     simp -implicitDefEqProofs only[go_sem,z0H,z15,gA hp,sA hp,gL0,sL0,gL1,sL1,List.length_map,g1]at hJ'⊢
     simpa[mkE] using hJ'))
theorem zfL:∀k,k≤8→DAns 180 false s (8-k) (DW s k)
 |0,_=>z8t s _ 8 (zat s _ 8 (z5Q s _ 8 (z8r s _ 8 (Nat.le_refl _) (fun h=>absurd h (Nat.lt_irrefl _)) (fun h=>absurd h (Nat.lt_irrefl _))))
  (z3a s (z4k s (fun a=>Nat.le_refl _)))) (z9E s (z3a s (z4k s (fun a=>Nat.le_refl _))))
 |k+1,h=>by
  have ih:=zfL k (by omega)
  have hk:=zfK s k;have e:8-(k+1)=7-k:=by omega
  have e2:8-k=7-k+1:=by omega
  rw[e2]at ih hk;rw[e]
  exact z8t s _ (7-k) (zat s _ (7-k) (z5Q s _ (7-k) (z8r s _ (7-k) (by omega) (fun _=>ih) (fun _=>hk.deep)))
   (z3a s (z4k s hk.ge))) (z9E s (z3a s (z4k s hk.ge)))
theorem zbn (σ:St):Ans Tryz.prog 170 [Sx s] σ (.tup [(z8s s).1.rv,Bo (z8s s).2]) σ:=by
 have hw:s.size≤40→Ans Tryz.prog 180 [.ptr (σ.length+1) 0] (σ++[box0,dob s 0 0 false]) (DW s 8 0).1.rv (σ++[box0,dob s (DW s 8 0).2.1 (DW s 8 0).2.2.1 (DW s 8 0).2.2.2]):=by
  intro hs;have:=zfL s 8 (Nat.le_refl _) (σ++[box0,dob s 0 0 false]) (σ.length+1) 0 (by simp) hs (fun h=>absurd h Bool.false_ne_true)
  have e:∀o,(σ++[box0,dob s 0 0 false]).set (σ.length+1) o=σ++[box0,o]:=fun o=>by rw[List.set_append_right _ _ (by omega)];simp
  rwa [e,e]at this
 have e40:decide ((40:Int)<(s.size:Int))=decide (40<s.size):=by rw[Bool.eq_iff_iff];simp;omega
 have k0:∀(x y:Ob) (ex:St),(σ++x::y::ex)[σ.length]?=some x:=fun x y ex=>by rw[List.getElem?_append_right (by simp)];simp
 have k0':∀(x:Ob),(σ++[x])[σ.length]?=some x:=fun x=>by rw[List.getElem?_append_right (by simp)];simp
 have k1:∀(x y:Ob) (ex:St),(σ++x::y::ex)[σ.length+1]?=some y:=fun x y ex=>by rw[List.getElem?_append_right (by simp)];simp
 have s0:∀(x z:Ob) (ex:St),(σ++x::ex).set σ.length z=σ++z::ex:=fun x z ex=>by rw[List.set_append_right _ _ (by simp)];simp
 refine Ans.of_run' t170 (fun hbel _=>?_)
 simp -implicitDefEqProofs only[c170,r170,go_sem,List.append_assoc,List.length_append,e40];unfold z8s
 cases h40:decide (40<s.size) with
 |true =>
  simp -implicitDefEqProofs only[go_sem,k0',s0];refine Fini.trim2 (σ':=σ) (ex:=[_]) ?_ rfl (Nat.le_refl _) ?_ hbel
  · simp -implicitDefEqProofs only[go_sem,resA,z03,rvA,oneOf,k0'];rfl
  · exact z3k (z0e _ zeroR) _
 |false =>
  have hs:s.size≤40:=by
   have:¬40<s.size:=by simpa using h40
   omega
  simp -implicitDefEqProofs only[go_sem,List.append_assoc,List.length_append];refine CO.intro (hw hs) ?_;generalize DW s 8 0=w;obtain⟨x,a,d,b⟩:=w;simp only;have eL:decide ((a:Int)<(s.size:Int))=decide (a<s.size):=by rw[Bool.eq_iff_iff];simp
  have hbx:∀n,Bel n x.rv:=fun n=>z0e n x
  rw[rv_eq x];have hrx:=rv_eq x;rcases rvK_cases x.ks with hK|⟨l,hK⟩
  all_goals (
   rw[hK]at hrx⊢;cases b
   · cases hlt:decide (a<s.size)
     · simp -implicitDefEqProofs only[go_sem,k0,k1,s0,List.append_assoc,List.length_append,eL,hlt,Bool.or_self,hrx];rw[hrx]at hbx;refine Fini.trim2 (σ':=σ) (ex:=[_,_]) ?_ rfl (Nat.le_refl _) ?_ hbel
       · simp -implicitDefEqProofs only[go_sem,resA,z03,rvA,oneOf,k0]
       · exact z3k (hbx _) _
     · simp -implicitDefEqProofs only[go_sem,k0,k1,s0,List.append_assoc,List.length_append,eL,hlt,Bool.or_true];refine Fini.trim2 (σ':=σ) (ex:=[_,_]) ?_ rfl (Nat.le_refl _) ?_ hbel
       · simp -implicitDefEqProofs only[go_sem,resA,z03,rvA,oneOf,k0];rfl
       · exact z3k (z0e _ zeroR) _
   · simp -implicitDefEqProofs only[go_sem,k0,k1,s0,List.append_assoc,List.length_append,Bool.true_or];refine Fini.trim2 (σ':=σ) (ex:=[_,_]) ?_ rfl (Nat.le_refl _) ?_ hbel
     · simp -implicitDefEqProofs only[go_sem,resA,z03,rvA,oneOf,k0];rfl
     · exact z3k (z0e _ zeroR) _)
end
theorem z2H (s:ByteArray) (a:Nat):pbyte s a false=if over s a false then(0,a,true) else(byteAt s a,a+1,false):=rfl
theorem zeo:∀c:Nat,c<256→(c==92)=false→within2.contains c=within.contains c:=by decide +kernel
theorem z5S (s:ByteArray) (a:Nat):(z0s s a).2.2=(z07 s a false).2.2∧((z0s s a).2.2=false→z0s s a=z07 s a false):=by
 unfold z0s z07;rw[z2H]
 cases ho:over s a false with
 |true=>simp
 |false =>
  simp only[Bool.false_eq_true,if_false]
  cases hc:byteAt s a==92 with
  |true =>
   simp only[if_true];unfold psign;rw[z2H]
   cases ho2:over s (a+1) false with
   |true=>simp
   |false =>
    simp only[Bool.false_eq_true,if_false,Bool.false_or];cases signs.contains (byteAt s (a+1))<;>simp
  |false =>
   simp only[Bool.false_eq_true,if_false,Bool.false_or];rw[zeo _ (z23 s a) hc];exact⟨rfl,fun h=>rfl⟩
theorem zcJ (s:ByteArray) (a:Nat):(dTo s a).2.2=(cTo s a false).2.2∧((dTo s a).2.2=false→dTo s a=cTo s a false∧z0s s a=z07 s a false):=by
 have h:=z5S s a;unfold dTo cTo
 cases hb:(z0s s a).2.2 with
 |true =>
  have hb':(z07 s a false).2.2=true:=by rw[←h.1];exact hb
  rw[hb',z2j,z2j];simp[hb,hb']
 |false =>
  have e:=h.2 hb;rw[←e,hb]
  cases hse:sees s (z0s s a).2.1 false 45 with
  |true =>
   have h2:=z5S s ((z0s s a).2.1+1);simp only[if_true];exact⟨h2.1,fun hg=>⟨h2.2 hg,trivial⟩⟩
  |false =>
   simp only[Bool.false_eq_true,if_false];exact⟨trivial,fun _=>⟨trivial,trivial⟩⟩
theorem zep (s:ByteArray) (a:Nat):dBad s a=cBad s a false:=by
 have h:=zcJ s a;unfold dBad cBad
 cases hb:(dTo s a).2.2 with
 |true=>rw[←h.1,hb];simp
 |false =>
  have e:=h.2 hb;rw[←e.1,←e.2,hb]
theorem z5T (s:ByteArray) (k:Nat) (S:List Int) (a:Nat):z1o s k S a true false=(S,a,true):=by
 cases k with
 |zero=>rfl
 |succ k=>rw[z1o];simp[cGo,over]
theorem z4S (s:ByteArray) (k:Nat) (S:List Int) (a n:Nat):z0W s k S a true n=(S,a,true,n):=by
 cases k with
 |zero=>rfl
 |succ k=>rw[z0W];simp[dGo,over]
theorem zfM (s:ByteArray) (a:Nat):cGo s a false false=dGo s a false:=by simp[cGo,dGo]
theorem z40 (s:ByteArray):∀(k:Nat) (S:List Int) (a n:Nat),
  (z0W s k S a false n).2.2.1=(z1o s k S a false false).2.2∧n≤(z0W s k S a false n).2.2.2 ∧
  ((z0W s k S a false n).2.2.1=false→(z0W s k S a false n).1=(z1o s k S a false false).1∧(z0W s k S a false n).2.1=(z1o s k S a false false).2.1)
 |0,S,a,n=>⟨rfl,Nat.le_refl _,fun _=>⟨rfl,rfl⟩⟩
 |k+1,S,a,n=>by
  rw[z0W,z1o,zfM]
  cases hg:dGo s a false with
  |false=>exact⟨rfl,Nat.le_refl _,fun _=>⟨rfl,rfl⟩⟩
  |true =>
   simp only[if_true];rw[←zep]
   cases hb:dBad s a with
   |true=>rw[z4S,z5T];exact⟨rfl,Nat.le_succ _,fun h=>absurd h (by simp)⟩
   |false =>
    have hto:(dTo s a).2.2=false:=by
     unfold dBad at hb;cases h:(dTo s a).2.2
     · rfl
     · rw[h]at hb;simp at hb
    have e:=(zcJ s a).2 hto;rw[←e.1,←e.2];have ih:=z40 s k (addR S (z0s s a).1 ((dTo s a).1+1-(z0s s a).1)) (dTo s a).2.1 (n+1);exact⟨ih.1,Nat.le_trans (Nat.le_succ _) ih.2.1,ih.2.2⟩
theorem z4T (s:ByteArray):∀(k:Nat) (S:List Int) (a:Nat) (b:Bool) (n:Nat),s.size-a<k→dGo s (z0W s k S a b n).2.1 (z0W s k S a b n).2.2.1=false
 |0,S,a,b,n,h=>by omega
 |k+1,S,a,b,n,h=>by
  rw[z0W]
  cases hg:dGo s a b with
  |false=>exact hg
  |true =>
   have ho:over s a b=false:=by
    cases h:over s a b
    · rfl
    · simp[dGo,h]at hg
   have hlt:=z1A ho;have hb:b=false:=by cases b<;>simp[over]at ho⊢
   subst hb;have h1:=z6Q s a ho;have h2:=zcE s a;exact z4T s k _ _ _ _ (by omega)
theorem zbo (s:ByteArray) (a:Nat):(z1V s a).2.2=(z2i s a false).2.2∧((z1V s a).2.2=false→(z1V s a).1=ofSet (z2i s a false).1∧(z1V s a).2.1=(z2i s a false).2.1):=by
 have h1:=z40 s (s.size+3) z4 (nextA s a false 94) 0;have h2:=z4T s (s.size+3) z4 (nextA s a false 94) false 0 (by omega)
 unfold z1V dOut z2i;simp only
 cases hg:dGo s (nextA s a false 94) false with
 |false =>
  have e:z0W s (s.size+3) z4 (nextA s a false 94) false 0=(z4,nextA s a false 94,false,0):=by rw[z0W,hg];rfl
  have hbad:(z1o s (s.size+3) z4 (nextA s a false 94) false true).2.2=true:=by
   rw[z1o];rw[if_pos (show cGo s (nextA s a false 94) false true=true from rfl)]
   have hm:(z07 s (nextA s a false 94) false).2.2=true:=by
    generalize nextA s a false 94=a0 at hg;unfold z07;rw[z2H]
    cases ho:over s a0 false with
    |true=>simp
    |false =>
     have h93:sees s a0 false 93=true:=by simpa[dGo,ho] using hg
     rw[z0K ho]at h93;have e93:byteAt s a0=93:=by simpa using h93
     simp[e93,within]
   have hc:cBad s (nextA s a false 94) false=true:=by
    unfold cBad;rw[zal s _ false hm];rfl
   rw[hc,z5T]
  rw[e,hbad];simp
 |true =>
  have ef:z1o s (s.size+3) z4 (nextA s a false 94) false true=z1o s (s.size+3) z4 (nextA s a false 94) false false:=by
   have step:∀first,z1o s (s.size+3) z4 (nextA s a false 94) false first=if cGo s (nextA s a false 94) false first then
     z1o s (s.size+2) (addR z4 (z07 s (nextA s a false 94) false).1 ((cTo s (nextA s a false 94) false).1+1-(z07 s (nextA s a false 94) false).1)) (cTo s (nextA s a false 94) false).2.1 (cBad s (nextA s a false 94) false) false
     else(z4,nextA s a false 94,false):=fun _=>rfl
   rw[step true,step false,zfM,hg];rfl
  have hn:1≤(z0W s (s.size+3) z4 (nextA s a false 94) false 0).2.2.2:=by
   rw[z0W,hg,if_pos rfl]
   cases hb:dBad s (nextA s a false 94) with
   |true=>rw[z4S];exact Nat.le_refl _
   |false=>exact(z40 s (s.size+2) _ _ (0+1)).2.1
  rw[ef];have h1':(z0W s (s.size+3) [0,0,0,0] (nextA s a false 94) false 0).2.2.1=(z1o s (s.size+3) [0,0,0,0] (nextA s a false 94) false false).2.2:=h1.1;generalize z0W s (s.size+3) z4 (nextA s a false 94) false 0=l at h1 h2 hn⊢;obtain⟨S,a1,b1,n⟩:=l;generalize z1o s (s.size+3) z4 (nextA s a false 94) false false=r at h1⊢;obtain⟨S',a',b'⟩:=r;simp only at h1 h2 hn⊢;obtain⟨hb,_,he⟩:=h1;subst hb;have hn0:(n==0)=false:=by simp;omega
  rw[hn0,Bool.or_false]
  cases b1 with
  |true=>simp[over]
  |false =>
   obtain⟨rfl,rfl⟩:=he rfl
   cases ho:over s a1 false with
   |true=>simp[sees,ho]
   |false =>
    have h93:sees s a1 false 93=true:=by simpa[dGo,ho] using h2
    simp[h93,nextA]
theorem zeq:∀r:Nat,r<64→orU 0 (bitU r)=bitU r:=by decide +kernel
theorem zcK (c:Nat) (hc:c<256):oneS c=z2N z4 c:=by
 unfold oneS z2N;have h4:c/64<4:=by omega
 have:z4.getD (c/64) 0=0:=by
  generalize c/64=k at h4
  match k,h4 with
  |0,_=>rfl
  |1,_=>rfl
  |2,_=>rfl
  |3,_=>rfl
 rw[this,zeq _ (by omega)]
theorem zgo:turnS z4=fullS:=by decide +kernel
theorem z8u:∀c:Nat,c<256→((specials.contains c==stray.contains c)||(c==40||c==91||c==46||c==92||c==124||c==41))=true:=by decide +kernel
theorem z9F:∀c:Nat,c<256→(c==40)=false→(c==91)=false→(c==46)=false→(c==92)=false→(c==124)=false→(c==41)=false→specials.contains c=stray.contains c:=by
 intro c hc h1 h2 h3 h4 h5 h6;have:=z8u c hc;rw[h1,h2,h3,h4,h5,h6]at this;simpa using this
def Agr (cond:Nat→Prop) (P:PF) (F:DF):Prop :=
 ∀a,cond a→(F a).2.2.2=(P a false).2.2∧((F a).2.2.2=false→(F a).1=(P a false).1∧(F a).2.1=(P a false).2.1)
def z6U (s:ByteArray) (a:Nat):Prop:=wGo s a false=true
theorem zer (s:ByteArray) {P:PF} {F:DF} {d:Nat} (hd:d≤8) (h:d<8→Agr (fun _=>True) P F):Agr (z6U s) (patom s P d) (datom s F d):=by
 intro a hg;have ho:over s a false=false:=by simp[z6U,wGo]at hg;exact hg.1
 have h124:(byteAt s a==124)=false:=by rw[←z0K ho];simp[z6U,wGo]at hg;exact hg.2.1
 have h41:(byteAt s a==41)=false:=by rw[←z0K ho];simp[z6U,wGo]at hg;exact hg.2.2
 have hc:=z23 s a;unfold patom datom;simp only;rw[z2H,ho];simp only[Bool.false_eq_true,if_false,Bool.false_or]
 cases h40:byteAt s a==40 with
 |true =>
  have e40:byteAt s a=40:=by simpa using h40
  rw[e40];have hd8:decide (8<d+1)=(d==8):=by rw[Bool.eq_iff_iff];simp;omega
  rw[hd8]
  cases h8:d==8 with
  |true=>simp
  |false =>
   have hd7:d<8:=by
    have:d≠8:=by simpa using h8
    omega
   have ih:=h hd7 (a+1) trivial;generalize F (a+1)=w at ih⊢;generalize P (a+1) false=v at ih⊢;obtain⟨x,a1,d1,b1⟩:=w;obtain⟨y,a2,b2⟩:=v;simp only at ih;obtain⟨hb,he⟩:=ih;subst hb
   cases b1 with
   |true=>simp[z2j]
   |false =>
    obtain⟨rfl,rfl⟩:=he rfl;cases hse:sees s a1 false 41<;>simp[hse,nextA]
 |false =>
  cases h91:byteAt s a==91 with
  |true =>
   have e91:byteAt s a=91:=by simpa using h91
   have ih:=zbo s (a+1);simp[e91];exact ih
  |false =>
   cases h46:byteAt s a==46 with
   |true=>simp[zgo]
   |false =>
    cases h92:byteAt s a==92 with
    |true =>
     have e92:byteAt s a=92:=by simpa using h92
     simp only[Bool.false_eq_true,if_false,if_true];unfold psign;rw[z2H]
     cases ho2:over s (a+1) false with
     |true=>simp
     |false =>
      have:=zcK _ (z23 s (a+1));simp only[Bool.false_eq_true,if_false,Bool.false_or];cases hq:signs.contains (byteAt s (a+1))<;>simp[this]
    |false =>
     rw[←z9F _ hc h40 h91 h46 h92 h124 h41];simp only[Bool.false_eq_true,if_false];cases hsp:specials.contains (byteAt s a)
     · simp[zcK _ hc]
     · simp
theorem zbp (s:ByteArray) {P:PF} {F:DF} {c:Nat→Prop} (h:Agr c P F):Agr c (z2W s P) (z3l s F):=by
 intro a ha;have ih:=h a ha;unfold z2W z3l;simp only;generalize F a=w at ih⊢;generalize P a false=v at ih⊢;obtain⟨x,a1,d1,b1⟩:=w;obtain⟨y,a2,b2⟩:=v;simp only at ih⊢;obtain⟨hb,he⟩:=ih;subst hb
 cases b1 with
 |true=>simp[z2j]
 |false =>
  obtain⟨rfl,rfl⟩:=he rfl;cases sees s a1 false 42<;>cases sees s a1 false 43<;>cases sees s a1 false 63<;>simp
theorem zau (s:ByteArray) (a:Nat):wGo s a true=false:=by simp[wGo,over]
theorem zbq (s:ByteArray) (P:PF) (n:Nat) (K:List Rex) (a:Nat):(pwayL s P n K a true).2.2=true:=by
 cases n with
 |zero=>rfl
 |succ n=>rw[pwayL,zau];rfl
theorem zbr (s:ByteArray) (F:DF) (n:Nat) (K:List Rex) (a d:Nat):(dwayL s F n K a d true).2.2.2=true:=by
 cases n with
 |zero=>rfl
 |succ n=>rw[dwayL,zau];rfl
theorem zav (s:ByteArray) {P:PF} {F:DF} (h:Agr (z6U s) P F):∀(n:Nat) (K:List Rex) (a d:Nat),
  (dwayL s F n K a d false).2.2.2=(pwayL s P n K a false).2.2∧((dwayL s F n K a d false).2.2.2=false→(dwayL s F n K a d false).1=(pwayL s P n K a false).1∧(dwayL s F n K a d false).2.1=(pwayL s P n K a false).2.1)
 |0,K,a,d=>⟨rfl,fun _=>⟨rfl,rfl⟩⟩
 |n+1,K,a,d=>by
  rw[dwayL,pwayL]
  cases hg:wGo s a false with
  |false=>exact⟨rfl,fun _=>⟨rfl,rfl⟩⟩
  |true =>
   simp only[if_true];have ih:=h a hg;generalize F a=w at ih⊢;generalize P a false=v at ih⊢;obtain⟨x,a1,d1,b1⟩:=w;obtain⟨y,a2,b2⟩:=v;simp only at ih⊢;obtain⟨hb,he⟩:=ih;subst hb
   cases b1 with
   |true=>rw[zbr,zbq];simp
   |false =>
    obtain⟨rfl,rfl⟩:=he rfl;exact zav s h n (K++[x]) a1 d1
theorem zgp (s:ByteArray) {P:PF} {F:DF} (h:Agr (z6U s) P F) (d:Nat):Agr (fun _=>True) (pway s P) (dway s F d):=by
 intro a _;have ih:=zav s h (s.size+1) [] a d;unfold pway dway;simp only;exact⟨ih.1,fun hb=>⟨by rw[(ih.2 hb).1],(ih.2 hb).2⟩⟩
theorem z5U (s:ByteArray) (P:PF) (n:Nat) (K:List Rex) (a:Nat):(z2D s P n K a true).2.2=true:=by
 cases n with
 |zero=>rfl
 |succ n=>rw[z2D,z2j];rfl
theorem z5V (s:ByteArray) (F:DF) (n:Nat) (K:List Rex) (a d:Nat):(z2k s F n K a d true).2.2.2=true:=by
 cases n with
 |zero=>rfl
 |succ n=>rw[z2k,z2j];rfl
theorem z8v (s:ByteArray) {P:PF} {F:DF} (h:Agr (fun _=>True) P F):∀(n:Nat) (K:List Rex) (a d:Nat),
  (z2k s F n K a d false).2.2.2=(z2D s P n K a false).2.2∧((z2k s F n K a d false).2.2.2=false→(z2k s F n K a d false).1=(z2D s P n K a false).1∧(z2k s F n K a d false).2.1=(z2D s P n K a false).2.1)
 |0,K,a,d=>⟨rfl,fun _=>⟨rfl,rfl⟩⟩
 |n+1,K,a,d=>by
  rw[z2k,z2D]
  cases hg:sees s a false 124 with
  |false=>exact⟨rfl,fun _=>⟨rfl,rfl⟩⟩
  |true =>
   simp only[if_true];have ih:=h (a+1) trivial;generalize F (a+1)=w at ih⊢;generalize P (a+1) false=v at ih⊢;obtain⟨x,a1,d1,b1⟩:=w;obtain⟨y,a2,b2⟩:=v;simp only at ih⊢;obtain⟨hb,he⟩:=ih;subst hb
   cases b1 with
   |true=>rw[z5V,z5U];simp
   |false =>
    obtain⟨rfl,rfl⟩:=he rfl;exact z8v s h n (K++[x]) a1 d1
theorem zes (s:ByteArray) {P:PF} {F:DF} (h:Agr (fun _=>True) P F):Agr (fun _=>True) (pways s P) (dways s F):=by
 intro a _;have ih:=h a trivial;unfold pways dways;simp only;generalize F a=w at ih⊢;generalize P a false=v at ih⊢;obtain⟨x,a1,d1,b1⟩:=w;obtain⟨y,a2,b2⟩:=v;simp only at ih⊢;obtain⟨hb,he⟩:=ih;subst hb
 cases b1 with
 |true=>rw[z5V,z5U];simp
 |false =>
  obtain⟨rfl,rfl⟩:=he rfl;have ih:=z8v s h (s.size+1) [x] a1 d1;exact⟨ih.1,fun hb=>⟨by rw[(ih.2 hb).1],(ih.2 hb).2⟩⟩
theorem zcL (s:ByteArray) {P:PF} {F:DF} {d:Nat} (hd:d≤8) (h:d<8→Agr (fun _=>True) P F):Agr (fun _=>True) (lvl s P d) (dlvl s F d) :=
 zes s (zgp s (zbp s (zer s hd h)) d)
theorem agr_W (s:ByteArray):∀k,Agr (fun _=>True) (PW s k) (DW s k)
 |0=>zcL s (Nat.le_refl _) (fun h=>absurd h (Nat.lt_irrefl _))
 |k+1=>zcL s (by omega) (fun _=>agr_W s k)
theorem zcM (s:ByteArray):z8s s=z2E s:=by
 unfold z8s z2E;simp only
 cases h40:decide (40<s.size) with
 |true =>
  have:=(zao s 8 0 true).2 rfl;rw[this];rfl
 |false =>
  have ih:=agr_W s 8 0 trivial;simp only[Bool.false_eq_true,if_false];generalize DW s 8 0=w at ih⊢;generalize PW s 8 0 false=v at ih⊢;obtain⟨x,a1,d1,b1⟩:=w;obtain⟨y,a2,b2⟩:=v;simp only at ih⊢;obtain⟨hb,he⟩:=ih;subst hb
  cases b1 with
  |true=>simp;rfl
  |false =>
   obtain⟨rfl,rfl⟩:=he rfl;rfl
theorem zcN (σ:St) (k:Int) (nm v:ByteArray):Ans Tryz.prog 169 [mat k nm v] σ (Bo (likeB k)) σ:=by
 refine Ans.of_run t169 ?_;simp -implicitDefEqProofs only[c169,r169,go_sem];unfold likeB;cases h:k==3
 · simp -implicitDefEqProofs only[go_sem];exact Fini.ret rfl
 · simp -implicitDefEqProofs only[go_sem];exact Fini.ret rfl
def okN (s:ByteArray) (i:Nat):Bool:=z2F (byteAt s i)||(!(i==0)&&z4R (byteAt s i))
def nameD (s:ByteArray):Bool:=(List.range s.size).all (okN s)&&(decide (1≤s.size)&&decide (s.size≤12))
theorem zet (s:ByteArray):nameD s=nameB s:=by
 unfold nameD nameB;by_cases h1:1≤s.size
 · by_cases h2:s.size≤12
   · rw[decide_eq_true h1,decide_eq_true h2];simp only[Bool.and_self,Bool.and_true,Bool.true_and];rw[Bool.eq_iff_iff];simp only[Bool.and_eq_true,List.all_eq_true,List.mem_range,okN,Bool.or_eq_true,Bool.not_eq_true',beq_eq_false_iff_ne];constructor
     · intro h;refine⟨?_,fun i hi=>?_⟩
       · rcases h 0 (by omega) with h|h
         · exact h
         · exact absurd rfl h.1
       · rcases h i hi with h|h
         · exact .inl h
         · exact .inr h.2
     · rintro⟨h0,h⟩ i hi;by_cases hz:i=0
       · subst hz;exact .inl h0
       · rcases h i hi with h|h
         · exact .inl h
         · exact .inr ⟨hz,h⟩
   · rw[decide_eq_false h2];simp
 · rw[decide_eq_false h1];simp
set_option maxHeartbeats 16000000 in
theorem z5W (σ:St) (s:ByteArray) (hs:s.size≤100000):Ans Tryz.prog 121 [Sx s] σ (Bo (nameB s)) σ:=by
 rw[←zet];refine Ans.of_run t121 ?_;simp -implicitDefEqProofs only[c121,r121,go_sem];refine Go.Ab.L.scan s.size (okN s) (fun i=>mkE 55 [(0,Sx s),(3,I i)]) (fun _=>σ) ?_ ?_ rfl rfl
 · intro i hi hp J hJ;have hlt:((i:Int)<s.size)=True:=by simp;omega
   have hdi:decide ((i:Int)<s.size)=true:=by simp;omega
   have hin:=z0V (n:=i) (by omega)
   have hF:okN s i=false→nameD s=false:=fun h=>by
    rw[nameD,List.all_eq_false.2 ⟨i,List.mem_range.2 hi,by simp[h]⟩];rfl
   have e1:decide ((97:Int)≤(byteAt s i:Nat))=decide (97≤byteAt s i):=z3s 97 _;have e2:decide (((byteAt s i:Nat):Int)≤122)=decide (byteAt s i≤122):=z3s _ 122;have e3:decide ((65:Int)≤(byteAt s i:Nat))=decide (65≤byteAt s i):=z3s 65 _;have e4:decide (((byteAt s i:Nat):Int)≤90)=decide (byteAt s i≤90):=z3s _ 90;have e5:(((byteAt s i:Nat):Int)==95)=(byteAt s i==95):=z0p _ 95;have e6:decide (((byteAt s i:Nat):Int)<48)=decide (byteAt s i<48):=decN _ 48;have e7:decide ((57:Int)<(byteAt s i:Nat))=decide (57<byteAt s i):=decN 57 _;have e8:((i:Int)==0)=(i==0):=z0p i 0
   have hd:z4R (byteAt s i)=(!decide (byteAt s i<48)&& !decide (57<byteAt s i)):=by
    unfold z4R;rw[Bool.eq_iff_iff];simp
   have hL:z2F (byteAt s i)=(decide (97≤byteAt s i)&&decide (byteAt s i≤122)||decide (65≤byteAt s i)&&decide (byteAt s i≤90)||byteAt s i==95):=rfl;have hO:okN s i=(z2F (byteAt s i)||(!(i==0)&&z4R (byteAt s i))):=rfl;rw[hO,hL,hd]at hF hJ;generalize decide (97≤byteAt s i)=b1 at *;generalize decide (byteAt s i≤122)=b2 at *;generalize decide (65≤byteAt s i)=b3 at *;generalize decide (byteAt s i≤90)=b4 at *;generalize (byteAt s i==95)=b5 at *;generalize decide (byteAt s i<48)=b6 at *;generalize decide (57<byteAt s i)=b7 at *;generalize (i==0)=b8 at *;clear hL hd hO;simp -implicitDefEqProofs only[mkE,go_sem,hlt,hdi,z06];cases b1<;>cases b2<;>cases b3<;>cases b4<;>cases b5
   all_goals simp -implicitDefEqProofs only[go_sem,e1,e2,e3,e4,e5,e6,e7,e8,hin]
   all_goals first
    |exact hJ rfl
    |(cases b8<;>cases b6<;>cases b7<;>simp -implicitDefEqProofs only[go_sem,e6,e7,e8,hin]<;>first
     |exact hJ rfl
     |(refine Fini.ret' rfl (z1d ?_);exact(hF rfl).symm))
 · intro hp J;have hdi:decide ((s.size:Int)<s.size)=false:=by simp
   have d1:decide ((1:Int)≤s.size)=decide (1≤s.size):=z3s 1 _;have d2:decide ((s.size:Int)≤12)=decide (s.size≤12):=z3s _ 12;have hA:(List.range s.size).all (okN s)=true:=List.all_eq_true.2 fun i hi=>hp i (List.mem_range.1 hi)
   rw[nameD,hA,Bool.true_and]
   cases h1:decide (1≤s.size) with
   |true =>
    rw[h1]at d1;simp -implicitDefEqProofs only[mkE,go_sem,hdi,d1,d2];exact Fini.ret rfl
   |false =>
    rw[h1]at d1;simp -implicitDefEqProofs only[mkE,go_sem,hdi,d1,d2];exact Fini.ret rfl
theorem zgq (σ:St) (k:Int) (nm v:ByteArray) (hs:nm.size≤100000):Ans Tryz.prog 149 [mat k nm v] σ (Bo (isB k nm v)) σ:=by
 refine Ans.of_run t149 ?_;unfold isB;simp -implicitDefEqProofs only[c149,r149,go_sem];refine CO.intro (z5W σ nm hs) ?_
 cases hn:nameB nm with
 |false =>
  simp -implicitDefEqProofs only[go_sem];exact Fini.ret rfl
 |true =>
 simp -implicitDefEqProofs only[go_sem];refine CO.intro (zcN σ k nm v) ?_
 cases hk:likeB k with
 |true =>
  simp -implicitDefEqProofs only[go_sem];refine CO.intro (zbn v σ) ?_;rw[zcM];have hrv:=Rex.rv_eq (z2E v).1;generalize (z2E v).1=x at hrv⊢;generalize (z2E v).2=b;rw[hrv];rcases Rex.rvK_cases x.ks with e|⟨l,e⟩<;>rw[e]
  all_goals (simp -implicitDefEqProofs only[go_sem];exact Fini.ret rfl)
 |false =>
  have d:decide ((v.size:Int)≤24)=decide (v.size≤24):=z3s v.size 24;simp -implicitDefEqProofs only[go_sem]
  cases h1:k==1 with
  |true =>
   simp -implicitDefEqProofs only[go_sem,d];exact Fini.ret rfl
  |false =>
   simp -implicitDefEqProofs only[go_sem]
   cases h2:k==2 with
   |true =>
    simp -implicitDefEqProofs only[go_sem,d];exact Fini.ret rfl
   |false =>
    simp -implicitDefEqProofs only[go_sem];exact Fini.ret rfl
end Go.Proofs.YtmkmhhjkdaklbaaGreat
namespace Go.Proofs.YtmkmhhjkdaklbaaGreat
open Go Go.Ab
set_option maxRecDepth 100000
theorem zbs (σ:St) (x y:Mtr):Ans Tryz.prog 150 [mv3 x,mv3 y] σ (Bo (z3B x y)) σ:=by
 refine Ans.of_run t150 ?_;unfold z3B;simp -implicitDefEqProofs only[c150,r150,go_sem,mv3]
 cases h1:(x.2.1.toList==y.2.1.toList) with
 |false =>
  simp -implicitDefEqProofs only[go_sem];exact Fini.ret rfl
 |true =>
  simp -implicitDefEqProofs only[go_sem]
  cases h2:(x.1==y.1) with
  |false =>
   simp -implicitDefEqProofs only[go_sem,bne,h2];exact Fini.ret rfl
  |true =>
   simp -implicitDefEqProofs only[go_sem,bne,h2];exact Fini.ret rfl
theorem zaw (M:List Mtr) (i:Nat) (h:i<M.length):(mvs3 M)[i]?=some (mv3 M[i]):=by simp[mvs3,h]
theorem z0w (M:List Mtr):(mvs3 M).length=M.length:=List.length_map ..
abbrev noM3:Mtr:=(0,⟨#[]⟩,⟨#[]⟩)
def isM (x:Mtr):Bool:=isB x.1 x.2.1 x.2.2
def okL (M:List Mtr) (i:Nat):Bool:=isM (M.getD i noM3)&&(i==0||z3B (M.getD (i-1) noM3) (M.getD i noM3))
def listB (M:List Mtr):Bool:=decide (M.length≤5)&&(List.range M.length).all (okL M)
theorem zax (M:List Mtr) (i:Nat) (h:i<M.length):(mvs3 M)[i]?=some (mv3 (M.getD i noM3)):=by
 rw[zaw M i h,List.getD_eq_getElem?_getD,List.getElem?_eq_getElem h];rfl
theorem z19 (σ:St) (M:List Mtr) (hs:∀x∈M,x.2.1.size≤100000):Ans Tryz.prog 117 [.sl 3 (mvs3 M)] σ (Bo (listB M)) σ:=by
 refine Ans.of_run t117 ?_;have d5:decide ((5:Int)<M.length)=decide (5<M.length):=decN 5 _;unfold listB;simp -implicitDefEqProofs only[c117,r117,go_sem,z0w,d5];by_cases hl:M.length≤5
 · rw[decide_eq_true hl,Bool.true_and];have h5:decide (5<M.length)=false:=decide_eq_false (by omega)
   simp -implicitDefEqProofs only[go_sem,h5];refine Go.Ab.L.scan M.length (okL M) (fun i=>mkE 36 [(0,.sl 3 (mvs3 M)),(3,I i)]) (fun _=>σ) ?_ ?_ rfl rfl
   · intro i hi hp J hJ;have hF:okL M i=false→(List.range M.length).all (okL M)=false:=fun h=>List.all_eq_false.2 ⟨i,List.mem_range.2 hi,by simp[h]⟩
     have hx:=zax M i hi
     have hsz:(M.getD i noM3).2.1.size≤100000:=by
      rw[List.getD_eq_getElem?_getD,List.getElem?_eq_getElem hi];exact hs _ (List.getElem_mem hi)
     have hin:=z0V (n:=i) (by omega)
     have hI:=fun σ=>zgq σ (M.getD i noM3).1 (M.getD i noM3).2.1 (M.getD i noM3).2.2 hsz
     have hO:okL M i=(isB (M.getD i noM3).1 (M.getD i noM3).2.1 (M.getD i noM3).2.2&&(i==0||z3B (M.getD (i-1) noM3) (M.getD i noM3))):=rfl;have d0:decide ((0:Int)<i)=decide (0<i):=decN 0 i;rw[hO]at hJ hF;simp -implicitDefEqProofs only[mkE,go_sem,z0w,z09 hi,dec_lt hi,hx,mv3,z00]
     first|refine CD.intro (hI _) ?_|refine CS.intro hI ?_
     generalize isB (M.getD i noM3).1 (M.getD i noM3).2.1 (M.getD i noM3).2.2=b1 at hJ hF
     cases b1 with
     |false =>
      simp -implicitDefEqProofs only[go_sem];refine Fini.ret' rfl (z1d ?_);rw[hF rfl]
     |true =>
      by_cases hz:i=0
      · subst hz;simp -implicitDefEqProofs only[go_sem,hin,z00,Int.natCast_zero];exact hJ rfl
      · have hpos:decide (0<i)=true:=by simp;omega
        have hx1:=zax M (i-1) (by omega)
        have hB:=fun σ=>zbs σ (M.getD (i-1) noM3) (M.getD i noM3)
        have w1:IntKind.i64.wrap ((i:Int)-1)=((i-1:Nat):Int):=by rw[wrapN (by omega) (by omega)];omega
        have hlt1:(((i-1:Nat):Int)<M.length)=True:=by simp;omega
        have hz':(i==0)=false:=by simpa using hz
        rw[hz']at hJ hF;simp -implicitDefEqProofs only[go_sem,d0,hpos,w1,z0w,z09 hi,dec_lt hi,hlt1,hx,hx1,z00,mv3]
        first|refine CD.intro (hB _) ?_|refine CS.intro hB ?_
        generalize z3B (M.getD (i-1) noM3) (M.getD i noM3)=b2 at hJ hF
        cases b2 with
        |true =>
         simp -implicitDefEqProofs only[go_sem,hin];exact hJ rfl
        |false =>
         simp -implicitDefEqProofs only[go_sem];refine Fini.ret' rfl (z1d ?_);rw[hF rfl]
   · intro hp J;have hd:decide ((M.length:Int)<M.length)=false:=by simp
     simp -implicitDefEqProofs only[mkE,go_sem,z0w,hd];refine Fini.ret' rfl (z1d ?_);exact(List.all_eq_true.2 fun i hi=>hp i (List.mem_range.1 hi)).symm
 · rw[decide_eq_false hl,Bool.false_and];have h5:decide (5<M.length)=true:=decide_eq_true (by omega)
   simp -implicitDefEqProofs only[go_sem,h5];exact Fini.ret rfl
theorem z0a (n:Nat) (M:List Mtr):Bel n (.sl 3 (mvs3 M)):=by
 refine .sl 3 _ fun i hi=>?_
 have:∀y∈mvs3 M,Bel n y:=by
  intro y hy;simp only[mvs3,List.mem_map]at hy;obtain⟨x,_,rfl⟩:=hy;refine .agg _ fun i hi=>?_
  have:∀y∈([I x.1,Sx x.2.1,Sx x.2.2]:List AV),Bel n y:=by
   intro y hy;simp only[List.mem_cons,List.not_mem_nil,or_false]at hy;rcases hy with rfl|rfl|rfl<;>exact .pl _
  exact this _ (List.getElem_mem hi)
 exact this _ (List.getElem_mem hi)
theorem zfN (n:Nat) (M:List Mtr):Bel n (.sl 3 (mvs3 M))=True:=eq_true (z0a n M)
theorem memM (n:Nat) (k:Int) (a b:ByteArray):∀y∈([I k,Sx a,Sx b]:List AV),Bel n y:=by
 intro y hy;simp only[List.mem_cons,List.not_mem_nil,or_false]at hy;rcases hy with rfl|rfl|rfl<;>exact .pl _
theorem zfO (n:Nat) (k:Int) (a b:ByteArray):Bel n (.agg [I k,Sx a,Sx b])=True:=eq_true (.agg _ fun i hi=>memM n k a b _ (List.getElem_mem hi))
theorem BL_rp (n:Nat) (k:Int) (a b:ByteArray):Bel n (.rp [I k,Sx a,Sx b])=True:=eq_true (.rp _ fun i hi=>memM n k a b _ (List.getElem_mem hi))
theorem z1X (σ:St) (M:List Mtr):Ans Tryz.prog 106 [.sl 3 (mvs3 M)] σ (Bo (listB M)) σ:=by
 refine Ans.of_run' t106 (fun hbel _=>?_)
 have d5:decide ((5:Int)<M.length)=decide (5<M.length):=decN 5 _;have hb0:(∀o∈σ,BelO σ.length o)=True:=eq_true hbel;unfold listB;simp -implicitDefEqProofs only[c106,r106,go_sem,z0w,d5];by_cases hl:M.length≤5
 · rw[decide_eq_true hl,Bool.true_and];have h5:decide (5<M.length)=false:=decide_eq_false (by omega)
   simp -implicitDefEqProofs only[go_sem,h5,z0w];refine Go.Ab.L.scan M.length (okL M) (fun i=>mkE 33 [(0,.sl 3 (mvs3 M)),(8,.sl 3 (mvs3 M)),(9,I M.length),(10,I i)]) (fun _=>σ) ?_ ?_ rfl rfl
   · intro i hi hp J hJ;have htk:∀x:Ob,(σ++[x]).take σ.length=σ:=fun x=>List.take_left' rfl
     have hF:okL M i=false→(List.range M.length).all (okL M)=false:=fun h=>List.all_eq_false.2 ⟨i,List.mem_range.2 hi,by simp[h]⟩
     have hx:=zax M i hi;have hin:=z0V (n:=i) (by omega)
     have hI:=fun σ=>zhz σ (M.getD i noM3).1 (M.getD i noM3).2.1 (M.getD i noM3).2.2
     have hO:okL M i=(isB (M.getD i noM3).1 (M.getD i noM3).2.1 (M.getD i noM3).2.2&&(i==0||z3B (M.getD (i-1) noM3) (M.getD i noM3))):=rfl;have d0:decide ((0:Int)<i)=decide (0<i):=decN 0 i;rw[hO]at hJ hF;simp -implicitDefEqProofs only[mkE,go_sem,z0w,z09 hi,dec_lt hi,hx,mv3,z00,g0,s0,List.drop_nil]
     first|refine CD.intro (hI _) ?_|refine CS.intro hI ?_
     generalize isB (M.getD i noM3).1 (M.getD i noM3).2.1 (M.getD i noM3).2.2=b1 at hJ hF
     cases b1 with
     |false =>
      simp -implicitDefEqProofs only[go_sem,z00,g0,s0];rw[hF rfl];exact Fini.trim2 (σ':=σ) rfl rfl (Nat.le_refl _) (.pl _) hbel
     |true =>
      by_cases hz:i=0
      · subst hz;have hgo:=hJ rfl;simp -implicitDefEqProofs only[go_sem,hin,z00,g0,s0,Int.natCast_zero,B_pl,B_any,z2B,B_tup,B_osl,B_ptr,B_sl0,zfN,zfO,BL_rp,htk,Nat.add_zero,hb0,List.length_append];exact⟨by omega,hgo⟩
      · have hpos:decide (0<i)=true:=by simp;omega
        have hx1:=zax M (i-1) (by omega)
        have hB:=fun σ=>z9B σ (M.getD (i-1) noM3) (M.getD i noM3)
        have hc:=z9C (M.getD (i-1) noM3) (M.getD i noM3);have w1:IntKind.i64.wrap ((i:Int)-1)=((i-1:Nat):Int):=by rw[wrapN (by omega) (by omega)];omega
        have hlt1:(((i-1:Nat):Int)<M.length)=True:=by simp;omega
        have hz':(i==0)=false:=by simpa using hz
        rw[hz']at hJ hF;simp -implicitDefEqProofs only[go_sem,d0,hpos,w1,z0w,z09 hi,dec_lt hi,hlt1,hx,hx1,z00,mv3,g0,s0]
        first|refine CD.intro (hB _) ?_|refine CS.intro hB ?_
        generalize z3B (M.getD (i-1) noM3) (M.getD i noM3)=b2 at hJ hF hc;generalize cmp3 (M.getD (i-1) noM3) (M.getD i noM3)=cc at hc
        cases b2 with
        |true =>
         have hgo:=hJ rfl;simp -implicitDefEqProofs only[go_sem,hc,hin,g0,s0,B_pl,B_any,z2B,B_tup,B_osl,B_ptr,B_sl0,zfN,zfO,BL_rp,htk,Nat.add_zero,hb0,List.length_append,Bool.not_true];exact⟨by omega,hgo⟩
        |false =>
         simp -implicitDefEqProofs only[go_sem,hc,Bool.not_false,g0,s0];rw[hF rfl];exact Fini.trim2 (σ':=σ) rfl rfl (Nat.le_refl _) (.pl _) hbel
   · intro hp J;have hd:decide ((M.length:Int)<M.length)=false:=by simp
     simp -implicitDefEqProofs only[mkE,go_sem,z0w,hd];refine Fini.ret' rfl (z1d ?_);exact(List.all_eq_true.2 fun i hi=>hp i (List.mem_range.1 hi)).symm
 · rw[decide_eq_false hl,Bool.false_and];have h5:decide (5<M.length)=true:=decide_eq_true (by omega)
   simp -implicitDefEqProofs only[go_sem,h5];exact Fini.ret rfl
def c22:ACode :=
 (sq_ [pr_ 1 (.boxr (.tmp 0)),
 pr_ 2 (.allocm [.nils,.nils,.pl (.bool false),.pl (.float .f64 0),.pl (.float .f64 0),.nils])]
 (.seq (.draw [⟨pr_ 7 (fa_ 0 1),[],false,0,0⟩,
 ⟨pr_ 8 (lf_ 1 7),[0],false,0,0⟩,
 ⟨cl_ 9 79 [(.tmp 8),(.const (.bool true))],[0,1],false,0,0⟩,
 ⟨pr_ 10 (fa_ 1 1),[],false,0,0⟩,
 ⟨pr_ 11 (lf_ 1 10),[3],false,0,0⟩,
 ⟨cl_ 12 79 [(.tmp 11),(.const (.bool true))],[0,1,2,3,4],false,0,0⟩,
 ⟨pr_ 13 (fa_ 2 1),[],false,0,0⟩,
 ⟨pr_ 14 (lt_ 3 13),[6],false,0,0⟩,
 ⟨c1_ 15 80 14,(List.range 8),true,0,0⟩,
 ⟨pr_ 16 (.build [.nils,.nils,.pl (.bool false),.pl (.float .f64 0),.pl (.float .f64 0),.nils] [(0,1,(.tmp 9)),(1,1,(.tmp 12)),(2,3,(.tmp 15))]),(List.range 9),false,1,1⟩,
 ⟨⟨some 3,none,.flo 6⟩,[],false,0,1⟩,
 ⟨⟨some 3,none,.adopt true 3 6 (.tmp 16)⟩,(List.range 11),true,0,0⟩])
 (.seq (sq_ [pr_ 4 (mi_ .i64 0)]
 (.block 0 (.loop [0,5,6,7,8,9,10,11,12,13,14,15,16,17,18,19,20,21,22,23,24,25,26,27,28,29,30,31,32,33,34,35,36,37,38,39,40,41,42,43,44,45,46,47,48,49,50,51,52,53,54,55] (.seq (sq_ [mv_ 17 4,
 pr_ 18 (bk_ .lss 17 .i64 5),
 mv_ 19 18,
 gp_ 20 19 true (fa_ 5 3),
 gp_ 21 19 true (lf_ 1 20),
 gp_ 22 19 true (.lenv (.tmp 21)),
 gp_ 23 19 true (bk_ .lss 22 .i64 4),
 pr_ 24 (pa_ 19 23)]
 (.cond (.tmp 24)
 .skip
 (.exit 0)))
 (.seq (.block 1 (sq_ [pr_ 27 (.build [.pl (.string .empty),.pl (.string .empty),.pl (.string .empty),.pl (.string .empty),.pl (.string .empty)] [(0,1,(.const (.string (ByteArray.mk #[90,111,110,101,57])))),(1,1,(.const (.string (ByteArray.mk #[95,120])))),(2,1,(.const (.string (ByteArray.mk #[104,111,115,116])))),(3,1,(.const (.string (ByteArray.mk #[106,111,98])))),(4,1,(.const (.string (ByteArray.mk #[115,101,118]))))]),
 mv_ 28 4,
 pr_ 29 (.idxa 1 5 false (.tmp 27) (.tmp 28)),
 mv_ 5 29]
 (sq_ [pr_ 6 (mi_ .i64 0)]
 (.block 2 (.loop [0,7,8,9,10,11,12,13,14,15,16,17,18,19,20,21,22,23,24,25,26,27,28,29,30,31,32,33,34,35,36,37,38,39,40,41,42,43,44,45,46,47,48,49,50,51,52,53,54,55] (.seq (sq_ [mv_ 30 6,
 pr_ 31 (fa_ 5 1),
 pr_ 32 (lf_ 1 31),
 pr_ 33 (.lenv (.tmp 32)),
 pr_ 34 (bt_ .lss 30 33),
 mv_ 35 34,
 gp_ 36 35 true (mo_ 6),
 gp_ 37 35 true (bk_ .lss 36 .i64 9),
 pr_ 38 (pa_ 35 37)]
 (.cond (.tmp 38)
 .skip
 (.exit 2)))
 (.seq (.block 3 (sq_ [pr_ 41 (fa_ 5 1),
 pr_ 42 (lf_ 1 41),
 mv_ 43 6,
 pr_ 44 (.iadrs 1 (.tmp 42) (.tmp 43)),
 pr_ 45 (lf_ 1 44),
 c1_ 46 81 45,
 mv_ 47 5,
 pr_ 48 (bt_ .eql 46 47)]
 (.cond (.tmp 48)
 (sq_ [pr_ 49 (fa_ 5 3),
 pr_ 50 (lf_ 1 49),
 mv_ 51 5,
 pr_ 52 (.bsl false 1 false 1 [.pl (.string .empty)] [(0,1,(.tmp 51))]),
 pr_ 53 (.app 1 (.tmp 50) (.tmp 52)),
 pr_ 54 (fa_ 5 3),
 st_ (so_ 1 54 53)]
 (.exit 2))
 .skip)))
 (.ops [mv_ 39 6,
 pr_ 40 (bk_ .add 39 .i64 1),
 mv_ 6 40]))))))))
 (.ops [mv_ 25 4,
 pr_ 26 (bk_ .add 25 .i64 1),
 mv_ 4 26]))))))
 (.seq (.ghost (.shutc 3 5 1) (.ops [pr_ 55 (lt_ 6 3),
 st_ (so_ 6 2 55)]))
 .ret))))
def o22:List Tmp:=[2,3]
def r22:List RV:=[.cell 2 6 true]
theorem t22:Text Tryz.prog 22 o22 c22 r22 56:=.mk_ Tryz.f22 rfl
def c51:ACode :=
 (sq_ [pr_ 1 (.boxr (.tmp 0)),
 pr_ 2 mf_]
 (.seq (sq_ [pr_ 5 (fa_ 0 1),
 pr_ 6 (lf_ 1 5),
 pr_ 7 (.lenv (.tmp 6)),
 pr_ 8 (bk_ .eql 7 .i64 0),
 mv_ 9 8,
 gp_ 10 9 false (fa_ 1 1),
 gp_ 11 9 false (lf_ 1 10),
 gp_ 12 9 false (.lenv (.tmp 11)),
 gp_ 13 9 false (bk_ .eql 12 .i64 0),
 pr_ 14 (po_ 9 13),
 mv_ 15 14,
 gp_ 16 15 false (fa_ 0 1),
 gp_ 17 15 false (lf_ 1 16),
 gc_ 18 15 false 106 [(.tmp 17)],
 gp_ 19 15 false (no_ 18),
 pr_ 20 (po_ 15 19),
 mv_ 21 20,
 gp_ 22 21 false (fa_ 1 1),
 gp_ 23 21 false (lf_ 1 22),
 gc_ 24 21 false 106 [(.tmp 23)],
 gp_ 25 21 false (no_ 24),
 pr_ 26 (po_ 21 25),
 mv_ 27 26,
 gp_ 28 27 false (fa_ 2 1),
 gp_ 29 27 false (lt_ 3 28),
 gc_ 30 27 false 107 [(.tmp 29)],
 gp_ 31 27 false (no_ 30),
 pr_ 32 (po_ 27 31),
 mv_ 33 32,
 gp_ 34 33 false (fa_ 5 1),
 gp_ 35 33 false (lf_ 1 34),
 gp_ 36 33 false (.lenv (.tmp 35)),
 gp_ 37 33 false (bk_ .gtr 36 .i64 4),
 pr_ 38 (po_ 33 37)]
 (.cond (.tmp 38)
 (sq_ [pr_ 2 mf_]
 .ret)
 .skip))
 (.seq (sq_ [pr_ 39 (fa_ 5 1),
 pr_ 40 (lf_ 1 39),
 pr_ 41 (.lenv (.tmp 40)),
 pr_ 42 (mi_ .i64 0)]
 (.block 0 (.loop [0,2,3,4,5,6,7,8,9,10,11,12,13,14,15,16,17,18,19,20,21,22,23,24,25,26,27,28,29,30,31,32,33,34,35,36,37,38,39,43,44,45,46,47,48,49,50,51,52,53,54,55,56,57,58,59,60,61,62,63,64] (sq_ [pr_ 43 (bt_ .lss 42 41)]
 (.seq (.cond (.tmp 43)
 .skip
 (.exit 0))
 (.seq (.block 1 (sq_ [mv_ 44 42,
 pr_ 45 (.iadrs 1 (.tmp 40) (.tmp 42)),
 pr_ 46 (lf_ 1 45),
 mv_ 3 44,
 mv_ 4 46]
 (sq_ [mv_ 47 4,
 c1_ 48 108 47,
 pr_ 49 (no_ 48),
 mv_ 50 49,
 gp_ 51 50 false (mo_ 3),
 gp_ 52 50 false (bk_ .gtr 51 .i64 0),
 gp_ 53 50 false (mo_ 52),
 gp_ 54 53 true (mo_ 4),
 gp_ 55 53 true (fa_ 5 1),
 gp_ 56 53 true (lf_ 1 55),
 gp_ 57 53 true (mo_ 3),
 gp_ 58 53 true (bk_ .sub 57 .i64 1),
 gp_ 59 53 true (.iadrs 1 (.tmp 56) (.tmp 58)),
 gp_ 60 53 true (lf_ 1 59),
 gp_ 61 53 true (bt_ .leq 54 60),
 gp_ 62 50 false (pa_ 53 61),
 pr_ 63 (po_ 50 62)]
 (.cond (.tmp 63)
 (sq_ [pr_ 2 mf_]
 .ret)
 .skip))))
 (.ops [pr_ 64 (bk_ .add 42 .i64 1),
 mv_ 42 64])))))))
 (sq_ [pr_ 2 mt_]
 .ret))))
def o51:List Tmp:=[]
def r51:List RV:=[.tmp 2]
theorem t51:Text Tryz.prog 51 o51 c51 r51 65:=.mk_ Tryz.f51 rfl
def c80:ACode :=
 (sq_ [pr_ 1 (.boxr (.tmp 0)),
 pr_ 2 (.allocm [.pl (.bool false),.pl (.float .f64 0),.pl (.float .f64 0)])]
 (sq_ [pr_ 4 (fa_ 1 1),
 pr_ 5 (lf_ 1 4),
 pr_ 6 (fa_ 2 1),
 pr_ 7 (lf_ 1 6),
 pr_ 8 (.build [.pl (.bool false),.pl (.float .f64 0),.pl (.float .f64 0)] [(1,1,(.tmp 5)),(2,1,(.tmp 7))]),
 pr_ 3 (.allocm [.pl (.bool false),.pl (.float .f64 0),.pl (.float .f64 0)]),
 st_ (so_ 3 3 8)]
 (.seq (sq_ [pr_ 9 (fa_ 0 1),
 pr_ 10 (lf_ 1 9),
 pr_ 11 (bk_ .rem 10 .i64 3),
 pr_ 12 (bk_ .eql 11 .i64 0),
 mv_ 13 12,
 gp_ 14 13 false (fa_ 1 3),
 gp_ 15 13 false (lf_ 1 14),
 gp_ 16 13 false (fa_ 1 3),
 gp_ 17 13 false (lf_ 1 16),
 gp_ 18 13 false (bt_ .neq 15 17),
 pr_ 19 (po_ 13 18),
 mv_ 20 19,
 gp_ 21 20 false (fa_ 2 3),
 gp_ 22 20 false (lf_ 1 21),
 gp_ 23 20 false (fa_ 2 3),
 gp_ 24 20 false (lf_ 1 23),
 gp_ 25 20 false (bt_ .neq 22 24),
 pr_ 26 (po_ 20 25)]
 (.cond (.tmp 26)
 (sq_ [pr_ 27 (.build [.pl (.bool false),.pl (.float .f64 0),.pl (.float .f64 0)] [(0,1,(.const (.bool true)))]),
 st_ (so_ 3 2 27)]
 .ret)
 .skip))
 (.seq (sq_ [pr_ 28 (fa_ 2 3),
 pr_ 29 (lf_ 1 28),
 pr_ 30 (fa_ 1 3),
 pr_ 31 (lf_ 1 30),
 pr_ 32 (bt_ .lss 29 31)]
 (.cond (.tmp 32)
 (.ops [pr_ 33 (fa_ 2 3),
 pr_ 34 (lf_ 1 33),
 pr_ 35 (fa_ 1 3),
 pr_ 36 (lf_ 1 35),
 pr_ 37 (fa_ 1 3),
 st_ (so_ 1 37 34),
 pr_ 38 (fa_ 2 3),
 st_ (so_ 1 38 36)])
 .skip))
 (sq_ [pr_ 39 (lt_ 3 3),
 st_ (so_ 3 2 39)]
 .ret)))))
def o80:List Tmp:=[2,3]
def r80:List RV:=[.cell 2 3 true]
theorem t80:Text Tryz.prog 80 o80 c80 r80 40:=.mk_ Tryz.f80 rfl
def c94:ACode :=
 (sq_ [pr_ 2 (mi_ .u64 0)]
 (.seq (sq_ [mv_ 3 0,
 c1_ 4 132 3]
 (.cond (.tmp 4)
 (sq_ [pr_ 2 (mi_ .u64 9221120237041090561)]
 .ret)
 .skip))
 (sq_ [mv_ 5 0,
 c1_ 6 47 5,
 mv_ 2 6]
 .ret)))
def o94:List Tmp:=[]
def r94:List RV:=[.tmp 2]
theorem t94:Text Tryz.prog 94 o94 c94 r94 7:=.mk_ Tryz.f94 rfl
def c107:ACode :=
 (sq_ [pr_ 1 (.boxr (.tmp 0)),
 pr_ 2 mf_]
 (.seq (sq_ [pr_ 3 (fa_ 0 1),
 pr_ 4 (lf_ 1 3)]
 (.cond (.tmp 4)
 (sq_ [pr_ 5 (fa_ 1 1),
 pr_ 6 (lf_ 1 5),
 c1_ 7 94 6,
 pr_ 8 (bk_ .eql 7 .u64 0),
 mv_ 9 8,
 gp_ 10 9 true (fa_ 2 1),
 gp_ 11 9 true (lf_ 1 10),
 gc_ 12 9 true 94 [(.tmp 11)],
 gp_ 13 9 true (bk_ .eql 12 .u64 0),
 pr_ 14 (pa_ 9 13),
 mv_ 2 14]
 .ret)
 .skip))
 (sq_ [pr_ 15 (fa_ 1 1),
 pr_ 16 (lf_ 1 15),
 pr_ 17 (fa_ 2 1),
 pr_ 18 (lf_ 1 17),
 pr_ 19 (bt_ .leq 16 18),
 mv_ 2 19]
 .ret)))
def o107:List Tmp:=[]
def r107:List RV:=[.tmp 2]
theorem t107:Text Tryz.prog 107 o107 c107 r107 20:=.mk_ Tryz.f107 rfl
end Go.Proofs.YtmkmhhjkdaklbaaGreat
namespace Go.Proofs.YtmkmhhjkdaklbaaGreat
open Go Go.Ab Go.Cod
set_option maxRecDepth 100000
abbrev Fl (n:Nat):AV:=.pl (.float .f64 n)
structure RuM where
 src:List Mtr
 tgt:List Mtr
 any:Bool
 lo:Nat
 hi:Nat
 eq:List ByteArray
def txs (l:List ByteArray):List AV:=l.map fun s=>Sx s
def ruV (r:RuM):AV:=.agg [.sl 3 (mvs3 r.src),.sl 3 (mvs3 r.tgt),Bo r.any,Fl r.lo,Fl r.hi,.sl 1 (txs r.eq)]
theorem z0J (l:List ByteArray):(txs l).length=l.length:=List.length_map ..
theorem zcO (l:List ByteArray) (i:Nat) (h:i<l.length):(txs l)[i]?=some (Sx l[i]):=by simp[txs,h]
theorem txs_D (l:List ByteArray) (i:Nat) (h:i<l.length):(txs l)[i]?=some (Sx (l.getD i ⟨#[]⟩)):=by
 rw[zcO l i h,List.getD_eq_getElem?_getD,List.getElem?_eq_getElem h];rfl
def leF (a b:Nat):Bool:=FloatKind.f64.format.order a b==some .lt||FloatKind.f64.format.order a b==some .eq
theorem zcP (a b:Nat):(FloatKind.f64.format.order a b==some .lt||FloatKind.f64.format.order a b==some .eq)=leF a b:=rfl
def nanF (a:Nat):Bool:=FloatKind.f64.format.order a a != some .eq
theorem z4o (a:Nat):(FloatKind.f64.format.order a a != some .eq)=nanF a:=rfl
def bitsF (a:Nat):Nat:=if nanF a then 9221120237041090561 else a
def mayB (any:Bool) (lo hi:Nat):Bool:=if any then(((bitsF lo:Nat):Int)==0)&&(((bitsF hi:Nat):Int)==0) else leF lo hi
def eqOk (e:List ByteArray) (i:Nat):Bool:=nameB (e.getD i ⟨#[]⟩)&& !(decide (0<i)&&leS (e.getD i ⟨#[]⟩) (e.getD (i-1) ⟨#[]⟩))
def eqB (e:List ByteArray):Bool:=decide (e.length≤4)&&(List.range e.length).all (eqOk e)
def ruIs (r:RuM):Bool:=!(((r.src.length:Nat):Int)==0)&&(!(((r.tgt.length:Nat):Int)==0)&&(listB r.src&&(listB r.tgt&&(mayB r.any r.lo r.hi&&eqB r.eq))))
section
variable (σ:St)
theorem zhC (a:Nat):Ans Tryz.prog 132 [Fl a] σ (Bo (nanF a)) σ:=by
 refine Ans.of_run t132 ?_;simp -implicitDefEqProofs only[c132,r132,go_sem,z4o];exact Fini.ret rfl
theorem z5Y (a:Nat):Ans Tryz.prog 47 [Fl a] σ (UN a) σ:=ext_bits.ok _ _ _ _ rfl
theorem z5c (a:Nat):Ans Tryz.prog 94 [Fl a] σ (UN (bitsF a)) σ:=by
 refine Ans.of_run t94 ?_;simp -implicitDefEqProofs only[c94,r94,go_sem];refine CO.intro (zhC σ a) ?_;unfold bitsF
 cases nanF a with
 |true =>
  simp -implicitDefEqProofs only[go_sem];exact Fini.ret rfl
 |false =>
  simp -implicitDefEqProofs only[go_sem];refine CO.intro (z5Y σ a) ?_;simp -implicitDefEqProofs only[go_sem];exact Fini.ret rfl
theorem z29 (any:Bool) (lo hi:Nat):Ans Tryz.prog 107 [.agg [Bo any,Fl lo,Fl hi]] σ (Bo (mayB any lo hi)) σ:=by
 refine Ans.of_run t107 ?_;unfold mayB
 cases any with
 |true =>
  simp -implicitDefEqProofs only[c107,r107,go_sem];refine CO.intro (z5c σ lo) ?_
  cases h:(((bitsF lo:Nat):Int)==0) with
  |false =>
   simp -implicitDefEqProofs only[go_sem,h];exact Fini.ret rfl
  |true =>
   simp -implicitDefEqProofs only[go_sem,h];refine CO.intro (z5c σ hi) ?_;simp -implicitDefEqProofs only[go_sem,h];exact Fini.ret rfl
 |false =>
  simp -implicitDefEqProofs only[c107,r107,go_sem,zcP];exact Fini.ret rfl
theorem z2d (r:RuM):Ans Tryz.prog 51 [ruV r] σ (Bo (ruIs r)) σ:=by
 obtain⟨src,tgt,any,lo,hi,eq⟩:=r;have d4:decide ((4:Int)<eq.length)=decide (4<eq.length):=decNN 4 _;refine Ans.of_run t51 ?_;unfold ruIs ruV;simp only
 cases h1:(((src.length:Nat):Int)==0) with
 |true =>
  simp -implicitDefEqProofs only[c51,r51,go_sem,z0w,h1];exact Fini.ret rfl
 |false =>
 cases h2:(((tgt.length:Nat):Int)==0) with
 |true =>
  simp -implicitDefEqProofs only[c51,r51,go_sem,z0w,h1,h2];exact Fini.ret rfl
 |false =>
 simp -implicitDefEqProofs only[c51,r51,go_sem,z0w,h1,h2];refine CO.intro (z1X σ src) ?_
 cases h3:listB src with
 |false =>
  simp -implicitDefEqProofs only[go_sem];exact Fini.ret rfl
 |true =>
 simp -implicitDefEqProofs only[go_sem];refine CO.intro (z1X σ tgt) ?_
 cases h4:listB tgt with
 |false =>
  simp -implicitDefEqProofs only[go_sem];exact Fini.ret rfl
 |true =>
 simp -implicitDefEqProofs only[go_sem];refine CO.intro (z29 σ any lo hi) ?_
 cases h5:mayB any lo hi with
 |false =>
  simp -implicitDefEqProofs only[go_sem];exact Fini.ret rfl
 |true =>
 unfold eqB;by_cases h6:eq.length≤4
 · have x4:decide (4<eq.length)=false:=decide_eq_false (by omega)
   rw[decide_eq_true h6];simp -implicitDefEqProofs only[go_sem,z0J,d4,x4];refine Go.Ab.L.scan eq.length (eqOk eq) (fun i=>mkE 65 [(1,.rp [.sl 3 (mvs3 src),.sl 3 (mvs3 tgt),Bo any,Fl lo,Fl hi,.sl 1 (txs eq)]),(40,.sl 1 (txs eq)),(41,I eq.length),(42,I i)]) (fun _=>σ) ?_ ?_ rfl rfl
   · intro i hi hp J hJ;have hx:=txs_D eq i hi;have hF:eqOk eq i=false→(List.range eq.length).all (eqOk eq)=false:=fun h=>List.all_eq_false.2 ⟨i,List.mem_range.2 hi,by rw[h];decide⟩
     have hin:=wrap_succ (i:=i) (by omega)
     have d0:decide ((0:Int)<i)=decide (0<i):=by rw[Bool.eq_iff_iff];simp
     have hO:eqOk eq i=(nameB (eq.getD i ⟨#[]⟩)&& !(decide (0<i)&&leS (eq.getD i ⟨#[]⟩) (eq.getD (i-1) ⟨#[]⟩))):=rfl;rw[hO]at hJ hF;simp -implicitDefEqProofs only[mkE,go_sem,z0J,z09 hi,dec_lt hi,hx];refine CO.intro (z5L σ _) ?_;generalize eq.getD i ⟨#[]⟩=s at hJ hF hx
     cases hb:nameB s with
     |false =>
      rw[hb]at hF;rw[hF rfl];simp -implicitDefEqProofs only[go_sem];exact Fini.ret rfl
     |true =>
      rw[hb]at hJ hF;by_cases hz:i=0
      · subst hz;have hgo:=hJ rfl;simp -implicitDefEqProofs only[go_sem,d0,hin];exact hgo
      · have hpos:decide (0<i)=true:=decide_eq_true (by omega)
        have hx1:=txs_D eq (i-1) (by omega)
        have w1:IntKind.i64.wrap ((i:Int)-1)=((i-1:Nat):Int):=by rw[wrapN (by omega) (by omega)];omega
        have hlt1:(((i-1:Nat):Int)<eq.length)=True:=by simp;omega
        rw[hpos]at hJ hF;generalize eq.getD (i-1) ⟨#[]⟩=s1 at hJ hF hx1;have hle:(Op.bytesLess s.toList s1.toList||s.toList==s1.toList)=leS s s1:=rfl;simp -implicitDefEqProofs only[go_sem,d0,hpos,w1,z0J,hlt1,hx1,hle]
        cases h7:leS s s1 with
        |true =>
         rw[h7]at hF;rw[hF rfl];simp -implicitDefEqProofs only[go_sem];exact Fini.ret rfl
        |false =>
         rw[h7]at hJ;have hgo:=hJ rfl;simp -implicitDefEqProofs only[go_sem,hin];exact hgo
   · intro hp J;have hd:decide ((eq.length:Int)<eq.length)=false:=by simp
     simp -implicitDefEqProofs only[mkE,go_sem,z0J,hd];refine Fini.ret' rfl (z1d ?_);exact(List.all_eq_true.2 fun i hi=>hp i (List.mem_range.1 hi)).symm
 · have x4:decide (4<eq.length)=true:=decide_eq_true (by omega)
   rw[decide_eq_false h6];simp -implicitDefEqProofs only[go_sem,z0J,d4,x4];exact Fini.ret rfl
end
def mkM (x:UInt8×ByteArray×ByteArray):Mtr:=((x.1.toNat:Int),x.2.1,x.2.2)
def mtrR:Rd Mtr:=z0Z (seqR byteR (seqR (textR 12) (textR 40))) mkM
def listR:Rd (List Mtr):=onlyR (rowR 5 mtrR) listB
def putM (x:Mtr):Byt:=x.1.toNat.toUInt8::(txtB x.2.1++txtB x.2.2)
def putL (M:List Mtr):Byt:=z2C putM M
theorem zaA:EndsR mtrR:=z1u (z1C ends_byte (z1C (z0T 12) (z0T 40))) _
theorem ends_list:EndsR listR:=z8i (zed zaA 5) _
theorem zev:Fits mtrR putM (fun x=>0≤x.1∧x.1<256∧x.2.1.size≤12∧x.2.2.size≤40):=by
 refine dress_fits (z21 byte_fits (z21 (z1s (by decide)) (z1s (by decide)))) (g:=fun x=>(x.1.toNat.toUInt8,x.2.1,x.2.2)) ?_ ?_
 · rintro⟨c,n,v⟩ ⟨_,h1,h2⟩;have:=c.toNat_lt;refine⟨⟨by simp only[mkM];omega,by simp only[mkM];omega,h1,h2⟩,?_⟩
   simp only[putM,mkM,Int.toNat_natCast,toUInt8_toNat];rfl
 · rintro⟨k,n,v⟩ ⟨h0,h1,h2,h3⟩;refine⟨⟨trivial,h2,h3⟩,?_⟩;simp only at h0 h1;have:(k.toNat.toUInt8.toNat:Int)=k:=by rw[toNat_toUInt8 (by omega)];omega
   simp only[mkM,this]
theorem z9G {s:ByteArray} (h:(z2E s).2=true):s.size≤40:=by
 unfold z2E at h;rcases Nat.lt_or_ge 40 s.size with h40|h40
 · exfalso
   have:=(zao s 8 0 true).2 rfl;simp[h40,this]at h
 · exact h40
theorem zaB {k:Int} {nm v:ByteArray} (h:isB k nm v=true):(1≤k∧k≤4)∧nm.size≤12∧v.size≤40:=by
 unfold isB nameB at h;simp only[Bool.and_eq_true,decide_eq_true_eq]at h;obtain⟨⟨⟨⟨_,hn⟩,_⟩,_⟩,h2⟩:=h;split at h2
 · rename_i hl;unfold likeB at hl;simp only[Bool.or_eq_true,beq_iff_eq]at hl;exact⟨by omega,hn,z9G h2⟩
 · simp only[Bool.and_eq_true,Bool.or_eq_true,beq_iff_eq,decide_eq_true_eq]at h2;exact⟨by omega,hn,by omega⟩
theorem listB_fits:Fits listR putL (fun M=>listB M=true):=by
 refine(z3y (z7h (by decide) zev) listB).weaken fun M=>⟨fun h=>h.2,fun h=>⟨?_,h⟩⟩
 unfold listB at h;simp only[Bool.and_eq_true,decide_eq_true_eq]at h;refine⟨h.1,fun x hx=>?_⟩
 obtain⟨i,hi,rfl⟩:=List.getElem_of_mem hx;have h2:=List.all_eq_true.1 h.2 i (List.mem_range.2 hi);unfold okL isM at h2;simp only[Bool.and_eq_true]at h2;have e:M.getD i noM3=M[i]:=by rw[List.getD_eq_getElem?_getD,List.getElem?_eq_getElem hi];rfl
 rw[e]at h2;have:=zaB h2.1;omega
def mtrS (b:Byt) (q:Nat×Bool):Mtr×(Nat×Bool):=z22 (seqSt (runR byteR 0 b) (seqSt (runR (textR 12) ⟨#[]⟩ b) (runR (textR 40) ⟨#[]⟩ b))) mkM q
theorem z5Z (b:Byt):StepsR b mtrR (mtrS b):=z13 (z0F (z0k b byteR 0) (z0F (z0k b _ _) (z0k b _ _) (z0T 12)) ends_byte) _
def listS (b:Byt):Nat×Bool→List Mtr×(Nat×Bool):=z0P (rowSt 5 b (mtrS b)) listB
theorem zbt (b:Byt):StepsR b listR (listS b):=z1m (z5C (z5Z b) zaA 5) _
def readV {α:Type} (r:Option (α×Byt)) (b:Byt) (enc:α→AV) (none_:AV):AV:=match r with
 |some p=>.tup [enc p.1,I (b.length-p.2.length:Nat),Bo true]
 |none=>.tup [none_,I 0,Bo false]
theorem z2I {most:Nat} (b:Byt) (q:Nat×Bool):(runR (numR most) 0 b q).1≤most:=by
 unfold runR;split
 · exact Nat.zero_le _
 · split
   · exact Nat.zero_le _
   · rename_i p h;simp only[numR]at h
     cases hg:getN 0 (b.drop q.1) with
     |none=>simp[hg]at h
     |some x =>
      simp only[hg,Option.bind_some]at h;split at h
      · simp only[Option.some.injEq]at h;rw[←h];assumption
      · cases h
theorem z8w (M:List Mtr) (x:Mtr):mvs3 M++[mv3 x]=mvs3 (M++[x]):=by simp[mvs3]
theorem z0b {n:Nat} {x:AV} {i:Int} {c:Bool} (h:Bel n x):Bel n (.tup [x,I i,Bo c]):=.tup _ fun j hj=>by
 have:∀y∈([x,I i,Bo c]:List AV),Bel n y:=by
  intro y hy;simp only[List.mem_cons,List.not_mem_nil,or_false]at hy;rcases hy with rfl|rfl|rfl
  · exact h
  · exact .pl _
  · exact .pl _
 exact this _ (List.getElem_mem hj)
theorem zbu (σ:St) (b:Byt) (hb:b.length≤50000):Ans Tryz.prog 56 [.sl 1 (byv b)] σ (readV (listR b) b (fun M=>.sl 3 (mvs3 M)) .nils) σ:=by
 have hS:=(zbt b).top;refine Ans.of_run' t56 (fun hbel _=>?_)
 simp -implicitDefEqProofs only[c56,r56,go_sem];refine CO.intro (z4G σ b) ?_;simp -implicitDefEqProofs only[go_sem,List.append_assoc,List.length_append];generalize hq1:runR (numR 5) 0 b (0,false)=q1;have hin0:Inb b (0,false):=Nat.zero_le _;have hn:=z2o (σ++[rob b (0,false),.row 3 []]) σ.length b (0,false) 5 (by decide) (g0 _ _ _) hin0 hb
 rw[hq1,s0]at hn;refine CO.intro hn ?_;have hn5:q1.1≤5:=by rw[←hq1];exact z2I b _
 have hin1:Inb b q1.2:=by rw[←hq1];exact z0i _ _ _ _ hin0
 simp -implicitDefEqProofs only[go_sem];refine Go.Ab.L.count q1.1 (fun i=>mkE 40 [(5,.ptr σ.length 0),(6,.osl (σ.length+1) i),(12,UN q1.1),(13,UN i)]) (fun i=>σ++[rob b (itSt (mtrS b) q1.2 i).2,.row 3 (mvs3 (itSt (mtrS b) q1.2 i).1)]) ?_ ?_ rfl rfl
 · intro i hi J hJ;have hitI:=z2r (z5Z b).inb q1.2 hin1 i;have hlen:=z3f (mtrS b) q1.2 i;simp only[itSt]at hJ;generalize itSt (mtrS b) q1.2 i=c at hJ hitI hlen⊢;obtain⟨l,q⟩:=c;simp only at hJ hitI hlen⊢;have d0:decide ((i:Int)<q1.1)=true:=dec_lt hi;have w0:=z1k (n:=i+1) (by omega)
   have e0:((i:Int)+1)=((i+1:Nat):Int):=rfl;unfold mtrS z22 seqSt at hJ;simp only at hJ;simp -implicitDefEqProofs only[mkE,go_sem,d0];have h1:=z1n (σ++[rob b q,.row 3 (mvs3 l)]) σ.length b q (g0 _ _ _) hitI hb;have hi2:=z0i byteR 0 b q hitI;generalize runR byteR 0 b q=r1 at h1 hi2 hJ;rw[s0]at h1;refine CO.intro h1 ?_;have h2:=z3g (σ++[rob b r1.2,.row 3 (mvs3 l)]) σ.length b r1.2 12 (by decide) (g0 _ _ _) hi2 hb
   have hi3:=z0i (textR 12) ⟨#[]⟩ b r1.2 hi2;generalize runR (textR 12) ⟨#[]⟩ b r1.2=r2 at h2 hi3 hJ;rw[s0]at h2;simp -implicitDefEqProofs only[go_sem,bc];refine CO.intro h2 ?_;have h3:=z3g (σ++[rob b r2.2,.row 3 (mvs3 l)]) σ.length b r2.2 40 (by decide) (g0 _ _ _) hi3 hb
   generalize runR (textR 40) ⟨#[]⟩ b r2.2=r3 at h3 hJ;rw[s0]at h3;simp -implicitDefEqProofs only[go_sem];refine CO.intro h3 ?_;have hl:(mvs3 l).length=i:=by rw[z0w,hlen]
   have hw:IntKind.i64.wrap (r1.1.toNat:Int)=(r1.1.toNat:Int):=wrapI (by have:=r1.1.toNat_lt;omega)
   have hle:i+1≤4294967296:=by omega
   have hsn:=z8w l (mkM (r1.1,r2.1,r3.1));simp -implicitDefEqProofs only[go_sem,hw,g1,s1,hl,hle,List.length_singleton,e0,w0];rw[←hsn]at hJ;exact hJ
 · intro J;have hitI:=z2r (z5Z b).inb q1.2 hin1 q1.1;have hlen:=z3f (mtrS b) q1.2 q1.1
   have hL:listS b (0,false)=((itSt (mtrS b) q1.2 q1.1).1,took (itSt (mtrS b) q1.2 q1.1).2 0 (listB (itSt (mtrS b) q1.2 q1.1).1)):=by
    unfold listS z0P rowSt;rw[hq1]
   rw[hL]at hS;generalize itSt (mtrS b) q1.2 q1.1=c at hS hitI hlen⊢;obtain⟨l,q⟩:=c;simp only at hS hitI hlen⊢;have hl:(mvs3 l).length=q1.1:=by rw[z0w,hlen]
   have d0:decide ((q1.1:Int)<q1.1)=false:=by simp
   simp -implicitDefEqProofs only[mkE,go_sem,d0,g1,s1,hl];refine CO.intro (z1X _ l) ?_;have h2:=z0c (σ++[rob b q,.dead]) σ.length b q (listB l) (g0 _ _ _) hitI hb;rw[s0]at h2;simp -implicitDefEqProofs only[go_sem];refine CO.intro h2 ?_;have h3:=z3h (σ++[rob b (took q 0 (listB l)),.dead]) σ.length b (took q 0 (listB l)) (g0 _ _ _);simp -implicitDefEqProofs only[go_sem];refine CO.intro h3 ?_;have hbm:Bel σ.length (.sl 3 (mvs3 l)):=z0a _ _
   cases hr:listR b with
   |none =>
    have hb2:=hS.2 hr;rw[hb2];simp -implicitDefEqProofs only[go_sem];exact Fini.trim2 (σ':=σ) rfl rfl (Nat.le_refl _) (by unfold readV;exact z0b .nils) hbel
   |some p =>
    obtain⟨M,t⟩:=p;have hb2:=hS.1 M t hr;simp only[Prod.mk.injEq]at hb2;obtain⟨rfl,hb2⟩:=hb2;rw[hb2];simp -implicitDefEqProofs only[go_sem];refine Fini.trim2 (σ':=σ) rfl rfl (Nat.le_refl _) ?_ hbel;unfold readV;exact z0b hbm
theorem z8x (σ:St) (b:Byt) (hb:b.length≤50000):Ans Tryz.prog 56 [.sl 1 (byv b)] σ (readV (listR b) b (fun M=>.sl 3 (mvs3 M)) (.sl 3 [])) σ:=by
 refine(zbu σ b hb).subR ?_;unfold readV
 cases listR b with
 |none=>exact .tup (.cons (.nils 3) (.refl _))
 |some p=>exact .refl _
theorem z2X (n:Nat):((n:Int).tmod 128)=((n%128:Nat):Int):=rfl
theorem zgr (n:Nat):((n:Int).tdiv 128)=((n/128:Nat):Int):=rfl
theorem zhD (n:Nat):IntKind.u8.wrap (((n%128%256:Nat):Int)+128)=((n%128+128:Nat):Int):=by
 have:(((n%128%256:Nat):Int)+128)=((n%128%256+128:Nat):Int):=by push_cast;rfl
 rw[this,z5A];congr 1;omega
def orD (a d s:Nat):Int:=IntKind.u64.wrap ((BitVec.ofInt 64 (a:Int) ||| BitVec.ofInt 64 (IntKind.u64.wrap ((d:Int)*2^min s 64))).toNat:Int)
theorem zhE (a d s:Nat) (ha:a<2^s) (hs:s<64) (hd:d*2^s<18446744073709551616):orD a d s=((a+2^s*d:Nat):Int):=zcp a d s ha hs hd
theorem zcQ (i c:Nat) (h:i<9∨i=9∧c%128≤1):c%128*2^(7*i)<18446744073709551616:=by
 rcases h with h|⟨rfl,h⟩
 · have h4:c%128<2^7:=Nat.mod_lt _ (by decide)
   calc c%128*2^(7*i)<2^7*2^(7*i):=Nat.mul_lt_mul_of_pos_right h4 (Nat.two_pow_pos _)
    _=2^(7+7*i):=by rw[Nat.pow_add]
    _≤2^63:=Nat.pow_le_pow_right (by decide) (by omega)
    _<18446744073709551616:=by decide
 · calc c%128*2^(7*9)≤1*2^63:=Nat.mul_le_mul_right _ h
   _<18446744073709551616:=by decide
section
variable (σ:St)
theorem z4p (n:Nat) (hn:n<18446744073709551616):Ans Tryz.prog 75 [UN n] σ (.osl σ.length (putN n).length) (σ++[.row 1 (byv (putN n))]):=by
 have h10:=z0v hn;refine Ans.of_run t75 ?_;simp -implicitDefEqProofs only[c75,r75,go_sem];refine Go.Ab.L.intro (α:={ p:Nat×Byt // p.1<18446744073709551616∧p.2++putN p.1=putN n }) (fun p=>p.1.1) (fun p=>mkE 20 [(0,UN p.1.1),(3,.osl σ.length p.1.2.length)]) (fun p=>σ++[.row 1 (byv p.1.2)]) ?_ ⟨(n,[]),hn,rfl⟩ rfl rfl
 rintro⟨⟨m,pre⟩,hm,hp⟩ J hJ;have hl:pre.length+(putN m).length≤10:=by rw[←List.length_append,hp];exact h10
 have hw:=z1k hm;have hle:pre.length+1≤2^32:=by omega
 by_cases h:m<128
 · have d1:decide ((128:Int)≤m)=false:=by simp;omega
   have d2:IntKind.u8.wrap (m:Int)=m:=by rw[z5A];congr 1;omega
   simp -implicitDefEqProofs only[mkE,go_sem,d1,row1,z01,List.length_singleton,hle,d2];refine Fini.ret3 (n:=0) rfl ?_ ?_
   · show AV.osl σ.length (pre.length+1)=AV.osl σ.length (putN n).length;rw[←hp,z2n h];simp
   · rw[List.set_append_right _ _ (Nat.le_refl _)];simp only[Nat.sub_self,List.set_cons_zero];rw[←hp,z0r,z2n h,bc_of (show m<256 by omega)]
     rfl
 · have d1:decide ((128:Int)≤m)=true:=by simp;omega
   simp -implicitDefEqProofs only[mkE,go_sem,d1,row1,z01,List.length_singleton,hle,z2X,z5A (n:=m%128),zhD,zgr,z1k (show m/128<18446744073709551616 by omega)]
   rw[List.set_append_right _ _ (Nat.le_refl _)];simp only[Nat.sub_self,List.set_cons_zero]
   have hgo:=hJ ⟨(m/128,pre++[(m%128+128).toUInt8]),by simp only;omega,by
    rw[←hp];simp only[List.append_assoc,List.singleton_append];rw[z4F h]⟩ (by simp only;omega)
   simp only[z0r,List.length_append,List.length_singleton]at hgo;rw[bc_of (show m%128+128<256 by omega)]
   exact hgo
theorem z8y (s:ByteArray) (hs:s.size≤4294967280):Ans Tryz.prog 76 [Sx s] σ (.osl σ.length (txtB s).length) (σ++[.row 1 (byv (txtB s))]):=by
 have h10:=z0v (n:=s.size) (by omega)
 have hsz:=z1E s;have hw:=z1k (n:=s.size) (by omega)
 have hle:(putN s.size).length+s.size≤2^32:=by omega
 refine Ans.of_run' t76 (fun hbel _=>?_)
 simp -implicitDefEqProofs only[c76,r76,go_sem,hw];refine CO.intro (z4p σ s.size (by omega)) ?_
 simp -implicitDefEqProofs only[go_sem,zag,row1,z01,hsz,hle];simp -implicitDefEqProofs only[go_sem,g0,s0,z01,hsz,←z0r,List.length_append];refine Fini.ret3 (n:=0) rfl ?_ rfl;show AV.osl σ.length ((putN s.size).length+s.size)=AV.osl σ.length (txtB s).length;unfold txtB;rw[List.length_append,hsz]
theorem z1F (s:ByteArray) (hs:s.size≤4294967280):Ans Tryz.prog 76 [Sx s] σ (.sl 1 (byv (txtB s))) σ :=
 (z8y σ s hs).shut (by rw[z01]) (z1Q _ _)
theorem z1r (b:Byt) (hb:b.length≤100000):Ans Tryz.prog 65 [.sl 1 (byv b)] σ (getV b) σ:=by
 refine Ans.of_run t65 ?_;simp -implicitDefEqProofs only[c65,r65,go_sem]
 refine Go.Ab.L.intro (α:={ p:Nat×Nat // p.1≤b.length∧((p.1≤9∧p.2<2^(7*p.1)∧getN 0 b=(getN p.1 (b.drop p.1)).map fun q=>(p.2+2^(7*p.1)*q.1,q.2))∨(p.1=10∧getN 0 b=none)) }) (fun p=>b.length-p.1.1)
  (fun p=>mkE 51 [(0,.sl 1 (byv b)),(5,UN p.1.2),(6,I p.1.1)]) (fun _=>σ) ?_ ⟨(0,0),Nat.zero_le _,.inl ⟨Nat.zero_le _,by simp,by cases h:getN 0 b<;>simp[h]⟩⟩ rfl rfl
 rintro⟨⟨i,a⟩,hi,hinv⟩ J hJ;simp only at hi hinv hJ;rcases hinv with⟨h9,ha,hg⟩|⟨h10,hg⟩
 · have h10:decide ((i:Int)<10)=true:=by simp;omega
   by_cases hlt:i<b.length
   · have hx:=z5z b i hlt;have hdr:b.drop i=b[i]::b.drop (i+1):=List.drop_eq_getElem_cons hlt;rw[hdr]at hg;have hcl:=(b[i]).toNat_lt;generalize hc:b[i]=c at hx hg hcl;have hbeq9:((i:Int)==9)=decide (i=9):=by rw[Bool.eq_iff_iff];simp;omega
     have hgt1:decide ((1:Int)<((c.toNat%128:Nat):Int))=decide (1<c.toNat%128):=by rw[Bool.eq_iff_iff];simp only[decide_eq_true_eq];omega
     have hgt0:decide ((0:Int)<i)=decide (0<i):=by rw[Bool.eq_iff_iff];simp
     have hbeq0:(((c.toNat%128:Nat):Int)==0)=decide (c.toNat%128=0):=by rw[Bool.eq_iff_iff];simp only[decide_eq_true_eq,beq_iff_eq];omega
     have h128:decide ((128:Int)≤c.toNat)=decide (128≤c.toNat):=by rw[Bool.eq_iff_iff];simp only[decide_eq_true_eq];omega
     have hwd:=z1k (n:=c.toNat%128) (by omega)
     have hin:=wrap_succ (i:=i) (by omega)
     have h7:=z8h (i:=i) (by omega)
     have h7u:=z1k (n:=7*i) (by omega)
     simp only[getN]at hg;by_cases hbad:i=9∧1<c.toNat%128
     · rw[if_pos (.inl ⟨hbad.1,by omega⟩)]at hg
       rw[z0N hg];simp -implicitDefEqProofs only[mkE,go_sem,z01,z09 hlt,dec_lt hlt,h10,hx,bc,z2X,hwd,hbeq9,hgt1,decide_eq_true hbad.1,decide_eq_true hbad.2];exact Fini.ret rfl
     · have go:∀(P:Prop),(decide (i=9)=true→decide (1<c.toNat%128)=false→P)→(decide (i=9)=false→P)→P:=fun P p q=>by
        by_cases h3:i=9
        · exact p (decide_eq_true h3) (decide_eq_false (by omega))
        · exact q (decide_eq_false h3)
       have hor:=zhE a (c.toNat%128) (7*i) ha (by omega) (zcQ i c.toNat (by omega))
       by_cases hend:c.toNat<128
       · have e128:decide (128≤c.toNat)=false:=decide_eq_false (by omega)
         have hmod:c.toNat%128=c.toNat:=Nat.mod_eq_of_lt hend;by_cases hz:c.toNat%128=0∧0<i
         · rw[if_pos (.inr ⟨hz.2,by omega⟩)]at hg
           rw[z0N hg];refine go _ (fun x1 x2=>?_) fun x1=>?_
           · simp -implicitDefEqProofs only[mkE,go_sem,z01,z09 hlt,dec_lt hlt,h10,hx,bc,z2X,hwd,hbeq9,hgt1,hgt0,hbeq0,x1,x2,h7,h7u,h128,e128,decide_eq_true hz.1,decide_eq_true hz.2];exact Fini.ret rfl
           · simp -implicitDefEqProofs only[mkE,go_sem,z01,z09 hlt,dec_lt hlt,h10,hx,bc,z2X,hwd,hbeq9,hgt1,hgt0,hbeq0,x1,h7,h7u,h128,e128,decide_eq_true hz.1,decide_eq_true hz.2];exact Fini.ret rfl
         · rw[if_neg (by omega),if_pos hend]at hg
           simp only[Option.map_some]at hg;rw[z0S hg]
           have hfin:∀v:Int,v=((a+2^(7*i)*(c.toNat%128):Nat):Int)→(.tup [.pl (.int .u64 v),I ((i+1:Nat):Int),Bo true]:AV)=.tup [UN (a+2^(7*i)*c.toNat),I (b.length-(b.drop (i+1)).length:Nat),Bo true]:=by
            rintro _ rfl;rw[hmod,List.length_drop,show b.length-(b.length-(i+1))=i+1 by omega]
           have go2:∀(P:Prop),(decide (c.toNat%128=0)=true→decide (0<i)=false→P)→(decide (c.toNat%128=0)=false→P)→P:=fun P p q=>by
            by_cases h3:c.toNat%128=0
            · exact p (decide_eq_true h3) (decide_eq_false (by omega))
            · exact q (decide_eq_false h3)
           refine go _ (fun x1 x2=>go2 _ (fun y1 y2=>?_) fun y1=>?_) fun x1=>go2 _ (fun y1 y2=>?_) fun y1=>?_
           · simp -implicitDefEqProofs only[mkE,go_sem,z01,z09 hlt,dec_lt hlt,h10,hx,bc,z2X,hwd,hbeq9,hgt1,hgt0,hbeq0,x1,x2,y1,y2,h7,h7u,h128,e128,hin];exact Fini.ret' rfl (hfin _ hor)
           · simp -implicitDefEqProofs only[mkE,go_sem,z01,z09 hlt,dec_lt hlt,h10,hx,bc,z2X,hwd,hbeq9,hgt1,hgt0,hbeq0,x1,x2,y1,h7,h7u,h128,e128,hin];exact Fini.ret' rfl (hfin _ hor)
           · simp -implicitDefEqProofs only[mkE,go_sem,z01,z09 hlt,dec_lt hlt,h10,hx,bc,z2X,hwd,hbeq9,hgt1,hgt0,hbeq0,x1,y1,y2,h7,h7u,h128,e128,hin];exact Fini.ret' rfl (hfin _ hor)
           · simp -implicitDefEqProofs only[mkE,go_sem,z01,z09 hlt,dec_lt hlt,h10,hx,bc,z2X,hwd,hbeq9,hgt1,hgt0,hbeq0,x1,y1,h7,h7u,h128,e128,hin];exact Fini.ret' rfl (hfin _ hor)
       · have e128:decide (128≤c.toNat)=true:=decide_eq_true (by omega)
         have hgo:=hJ ⟨(i+1,a+2^(7*i)*(c.toNat%128)),by simp only;omega,(by
          simp only;rcases Nat.lt_or_eq_of_le h9 with hi9|hi9
          · refine .inl ⟨by omega,?_,?_⟩
            · have e1:2^(7*(i+1))=2^(7*i)*128:=by rw[Nat.mul_add,Nat.pow_add]
              have:c.toNat%128<128:=Nat.mod_lt _ (by decide)
              have:2^(7*i)*(c.toNat%128+1)≤2^(7*i)*128:=Nat.mul_le_mul_left _ this;rw[Nat.mul_add,Nat.mul_one]at this;omega
            · rw[if_neg (by omega),if_neg hend]at hg
              rw[hg];have hm:c.toNat%128=c.toNat-128:=by omega
              cases getN (i+1) (b.drop (i+1)) with
              |none=>rfl
              |some q =>
               simp only[Option.map_some,Option.some.injEq,Prod.mk.injEq,and_true];rw[hm,show 7*(i+1)=7*i+7 by omega,Nat.pow_add,Nat.mul_add,Nat.add_assoc,←Nat.mul_assoc]
          · refine .inr ⟨by omega,?_⟩
            rw[if_pos (.inl ⟨hi9,by omega⟩)]at hg
            exact hg)⟩ (by simp only;omega)
         have key:∀v:Int,v=((a+2^(7*i)*(c.toNat%128):Nat):Int)→J (mkE 51 [(0,.sl 1 (byv b)),(5,.pl (.int .u64 v)),(6,I ((i+1:Nat):Int))]) σ:=by
          rintro _ rfl;exact hgo
         refine go _ (fun x1 x2=>?_) fun x1=>?_
         · simp -implicitDefEqProofs only[mkE,go_sem,z01,z09 hlt,dec_lt hlt,h10,hx,bc,z2X,hwd,hbeq9,hgt1,x1,x2,h7,h7u,h128,e128,hin];exact key _ hor
         · simp -implicitDefEqProofs only[mkE,go_sem,z01,z09 hlt,dec_lt hlt,h10,hx,bc,z2X,hwd,hbeq9,hgt1,x1,h7,h7u,h128,e128,hin];exact key _ hor
   · have hn:b.drop i=[]:=List.drop_eq_nil_of_le (by omega)
     rw[hn]at hg;simp only[getN,Option.map_none]at hg;rw[z0N hg];simp -implicitDefEqProofs only[mkE,go_sem,z01,z2V hlt,z2A hlt];exact Fini.ret rfl
 · subst h10;have h10:decide (((10:Nat):Int)<10)=false:=by simp
   rw[z0N hg];by_cases hlt:10<b.length
   · simp -implicitDefEqProofs only[mkE,go_sem,z01,dec_lt hlt,h10];exact Fini.ret rfl
   · simp -implicitDefEqProofs only[mkE,go_sem,z01,z2A hlt];exact Fini.ret rfl
theorem z1q (b:Byt) (most:Nat) (hb:b.length≤100000) (hm:most<9223372036854775808):Ans Tryz.prog 66 [.sl 1 (byv b),I most] σ (textV most b) σ:=by
 refine Ans.of_run t66 ?_;simp -implicitDefEqProofs only[c66,r66,go_sem];refine CO.intro (z1r σ b hb) ?_;have hneg:decide ((most:Int)<0)=false:=by simp
 have hwm:=z1k (n:=most) (by omega)
 cases hg:getN 0 b with
 |none =>
  rw[z0N hg,z0Q (z6G hg)];simp -implicitDefEqProofs only[go_sem];exact Fini.ret rfl
 |some p =>
  obtain⟨n,t⟩:=p;obtain⟨hbt,hn,_⟩:=z56 b 0 n t (by omega) hg
  have hn:n<18446744073709551616:=hn;have hlen:b.length=(putN n).length+t.length:=by rw[hbt,List.length_append]
  have hk:b.length-t.length=(putN n).length:=by omega
  have hsub:=subN (a:=b.length) (b:=(putN n).length) (by omega) hb
  have hsub2:b.length-(putN n).length=t.length:=by omega
  have hwt:=z1k (n:=t.length) (by omega)
  have e1:decide ((most:Int)<n)=decide (most<n):=decNN most n;have e2:decide ((t.length:Int)<n)=decide (t.length<n):=decNN _ n;rw[z0S hg,hk];have hR:=zaj (most:=most) hg;by_cases h2:n≤t.length
  · have x2:decide (t.length<n)=false:=decide_eq_false (by omega)
    by_cases h1:n≤most
    · have x1:decide (most<n)=false:=decide_eq_false (by omega)
      rw[if_pos ⟨h1,h2⟩]at hR;have hwn:=wrapI (a:=n) (by omega)
      have hadd:=addN (a:=(putN n).length) (b:=n) (by omega)
      have hlo:((putN n).length:Int)≤((putN n).length+n:Nat):=by omega
      have hhi:(((putN n).length+n:Nat):Int)≤(b.length:Nat):=by omega
      have hcut:(b.take ((putN n).length+n)).drop (putN n).length=t.take n:=by
       rw[hbt,List.take_append,List.take_of_length_le (by omega),Nat.add_sub_cancel_left,List.drop_left]
      rw[z1v hR];simp -implicitDefEqProofs only[go_sem,hneg,hwm,e1,x1,hsub,hsub2,hwt,e2,x2,hwn,hadd,z01,hlo,hhi,AV.isStr,z0D,z0E,hcut,z0l,bc,z1j,z17];refine Fini.ret' rfl ?_;rw[List.length_drop];have:b.length-(t.length-n)=(putN n).length+n:=by omega
      rw[this];rfl
    · have x1:decide (most<n)=true:=decide_eq_true (by omega)
      rw[if_neg (by omega)]at hR
      rw[z0Q hR];simp -implicitDefEqProofs only[go_sem,hneg,hwm,e1,x1,z01,hsub,hsub2,hwt,e2,x2];exact Fini.ret rfl
  · have x2:decide (t.length<n)=true:=decide_eq_true (by omega)
    rw[if_neg (by omega)]at hR
    rw[z0Q hR];simp -implicitDefEqProofs only[go_sem,hneg,hwm,z01,hsub,hsub2,hwt,e2,x2];exact Fini.ret rfl
end
end Go.Proofs.YtmkmhhjkdaklbaaGreat
