/- The document's parser of patterns: an atom, and how often. No condition. -/
import Derived.Test.YteakobbdgehlgaaGreatDoorKXPDoc2E3
import Derived.Test.YteakobbdgehlgaaGreatDoorKXPPar6E3
import Derived.Test.YteakobbdgehlgaaGreatDoorKShA1E3
import Derived.Test.YteakobbdgehlgaaGreatDoorRows
import Derived.Test.YteakobbdgehlgaaGreatDoorAbArgE3
import Derived.Test.YteakobbdgehlgaaGreatDoorKXVi3E3
set_option linter.unusedSimpArgs false
set_option linter.unusedVariables false
set_option linter.unusedSectionVars false
set_option maxRecDepth 100000
set_option maxHeartbeats 16000000
namespace Go.Proofs.YteakobbdgehlgaaGreatDoor
open Go Go.Ab
open Rex
abbrev DF:=Nat→Rex×Nat×Nat×Bool
def fullS:List Int:=[18446744073709551615,18446744073709551615,18446744073709551615,18446744073709551615]
def datom (s:ByteArray) (F:DF) (d:Nat):DF:=fun a =>
 let c:=byteAt s a
 if c==46 then(ofSet fullS,a+1,d,false)
 else if c==92 then
  if over s (a+1) false|| !signs.contains (byteAt s (a+1)) then(zeroR,a+1,d,true) else(ofSet (oneS (byteAt s (a+1))),a+2,d,false)
 else if c==40 then
  if decide (8<d+1) then(zeroR,a+1,d+1,true)
  else if sees s (F (a+1)).2.1 (F (a+1)).2.2.2 41 then((F (a+1)).1,(F (a+1)).2.1+1,d,false)
  else(zeroR,(F (a+1)).2.1,(F (a+1)).2.2.1,true)
 else if c==91 then((z1M s (a+1)).1,(z1M s (a+1)).2.1,d,(z1M s (a+1)).2.2)
 else if specials.contains c then(zeroR,a+1,d,true)
 else(ofSet (oneS c),a+1,d,false)
def z3n (s:ByteArray) (F:DF):DF:=fun a =>
 let x:=F a
 if sees s x.2.1 x.2.2.2 42 then(.mk 4 0 0 0 0 [x.1],x.2.1+1,x.2.2.1,x.2.2.2)
 else if sees s x.2.1 x.2.2.2 43 then(.mk 5 0 0 0 0 [x.1],x.2.1+1,x.2.2.1,x.2.2.2)
 else if sees s x.2.1 x.2.2.2 63 then(.mk 6 0 0 0 0 [x.1],x.2.1+1,x.2.2.1,x.2.2.2)
 else x
def DAns (f:FuncId) (g:Bool) (s:ByteArray) (d:Nat) (F:DF):Prop :=
 ∀(σ:St) (p a:Nat),p<σ.length→s.size≤40→(g=true→a<s.size) →
  Ans Tryz.prog f [.ptr p 0] (σ.set p (dob s a d false)) (F a).1.rv (σ.set p (dob s (F a).2.1 (F a).2.2.1 (F a).2.2.2))
section
variable {σ:St} {p:Nat} {s:ByteArray}
theorem DAns.ex {f:FuncId} {g:Bool} {d:Nat} {F:DF} (h:DAns f g s d F) (hp:p<σ.length) (a:Nat) (hs:s.size≤40) (hg:g=true→a<s.size) (ex:St) :
  Ans Tryz.prog f [.ptr p 0] (σ.set p (dob s a d false)++ex) (F a).1.rv (σ.set p (dob s (F a).2.1 (F a).2.2.1 (F a).2.2.2)++ex):=by
 have:=h (σ.set p (dob s a d false)++ex) p a (by simp;omega) hs hg
 rwa [sA hp,sA hp]at this
theorem zd9 (hp:p<σ.length) (a d:Nat) (hs:s.size≤40) (ex:St):Ans Tryz.prog 187 [.ptr p 0] (σ.set p (dob s a d false)++ex) (z1M s a).1.rv (σ.set p (dob s (z1M s a).2.1 d (z1M s a).2.2)++ex):=by
 have:=zbG (σ.set p (dob s a d false)++ex) p s a d (by simp;omega) hs
 rwa [sA hp,sA hp]at this
end
theorem zaA (c:Nat):(oneS c).length=4:=by simp[oneS]
theorem zda (s:ByteArray) (a:Nat):(z1M s a).1.ks=[]:=by
 unfold z1M dOut;split<;>rfl
section
variable (s:ByteArray)
theorem z8y (F:DF) (d:Nat) (hd:d≤8) (hF:d<8→DAns 164 false s (d+1) F) (hdeep:d<8→∀a,(F a).2.2.2=false→(F a).2.2.1=d+1):DAns 180 true s d (datom s F d):=by
 intro σ p a hp hs hg;have hlt:=hg rfl;have q0:(a:Int)<s.size:=by omega
 refine Ans.of_run' t180 (fun k0 _=>?_)
 have u0:=z61 k0;have f0:(((byteAt s a:Nat):Int)==46)=(byteAt s a==46):=z0l _ 46;have d0:(((byteAt s a:Nat):Int)==92)=(byteAt s a==92):=z0l _ 92;have e0:(((byteAt s a:Nat):Int)==40)=(byteAt s a==40):=z0l _ 40;have l0:(((byteAt s a:Nat):Int)==91)=(byteAt s a==91):=z0l _ 91;simp -implicitDefEqProofs only[c180,r180,go_sem,List.append_assoc,List.length_append,List.length_set,gA hp,sA hp,gL0,sL0,gL1,sL1,q0,z07,z0R (show a≤4294967296 by omega),f0]
 unfold datom;simp only;cases h46:byteAt s a==46
 case true =>
  simp -implicitDefEqProofs only[go_sem,gA hp,sA hp,gL0,sL0,gL1,sL1]
  (refine Fini.trim2 (ex:=[_]) ?_ rfl ?_ (z0f _ _) (u0 _ _ _);(simp -implicitDefEqProofs only[go_sem,resA,z03,rvA,oneOf,gL0];first|done|rfl);simp)
 simp -implicitDefEqProofs only[go_sem,d0];cases h92:byteAt s a==92
 case true =>
  simp -implicitDefEqProofs only[go_sem];refine CD.intro (z1G hp (a+1) d false _) ?_
  cases ho2:over s (a+1) false with
  |true =>
   simp -implicitDefEqProofs only[go_sem,gA hp,sA hp,gL0,sL0,gL1,sL1];refine CO.intro (z2D hp (a+1) d false _) ?_;simp -implicitDefEqProofs only[go_sem,gA hp,sA hp,gL0,sL0,gL1,sL1,Bool.true_or]
   (refine Fini.trim2 (ex:=[_]) ?_ rfl ?_ (z0f _ _) (u0 _ _ _);(simp -implicitDefEqProofs only[go_sem,resA,z03,rvA,oneOf,gL0];first|done|rfl);simp)
  |false =>
   have o0:=z1p ho2;have h2:((a+1:Nat):Int)<s.size:=by omega
   simp -implicitDefEqProofs only[go_sem,gA hp,sA hp,gL0,sL0,gL1,sL1,h2,z07];refine CD.intro (z6W _ (byteAt s (a+1)) (z1Y _ _)) ?_
   cases hq:signs.contains (byteAt s (a+1)) with
   |false =>
    simp -implicitDefEqProofs only[go_sem,gA hp,sA hp,gL0,sL0,gL1,sL1];refine CO.intro (z2D hp (a+1) d false _) ?_;simp -implicitDefEqProofs only[go_sem,gA hp,sA hp,gL0,sL0,gL1,sL1,Bool.or_true]
    (refine Fini.trim2 (ex:=[_]) ?_ rfl ?_ (z0f _ _) (u0 _ _ _);(simp -implicitDefEqProofs only[go_sem,resA,z03,rvA,oneOf,gL0];first|done|rfl);simp)
   |true =>
    have h3:IntKind.i64.wrap (((a+1+1:Nat):Int)-1)=((a+1:Nat):Int):=by
     simp only[IntKind.wrap,IntKind.bits,IntKind.signed];simp;omega
    simp -implicitDefEqProofs only[go_sem,gA hp,sA hp,gL0,sL0,gL1,sL1,z0R (show a+1≤4294967296 by omega),h2,h3,z07,Bool.or_false]
    refine CD.intro (zaz _ (byteAt s (a+1)) (z1Y _ _)) ?_;obtain⟨x0,x1,x2,x3,hS⟩:=four (zaA (byteAt s (a+1)));rw[hS];simp -implicitDefEqProofs only[go_sem,gA hp,sA hp,gL0,sL0,gL1,sL1]
    (refine Fini.trim2 (ex:=[_]) ?_ rfl ?_ (z0f _ _) (u0 _ _ _);(simp -implicitDefEqProofs only[go_sem,resA,z03,rvA,oneOf,gL0];first|done|rfl);simp)
 simp -implicitDefEqProofs only[go_sem,e0];cases h40:byteAt s a==40
 case true =>
  have e8:decide ((8:Int)<((d+1:Nat):Int))=decide (8<d+1):=by rw[Bool.eq_iff_iff];simp;omega
  simp -implicitDefEqProofs only[go_sem,gA hp,sA hp,gL0,sL0,gL1,sL1,z0R (show d≤4294967296 by omega),e8]
  cases h8:decide (8<d+1) with
  |true =>
   simp -implicitDefEqProofs only[go_sem];refine CO.intro (z2D hp (a+1) (d+1) false _) ?_;simp -implicitDefEqProofs only[go_sem,gA hp,sA hp,gL0,sL0,gL1,sL1]
   (refine Fini.trim2 (ex:=[_]) ?_ rfl ?_ (z0f _ _) (u0 _ _ _);(simp -implicitDefEqProofs only[go_sem,resA,z03,rvA,oneOf,gL0];first|done|rfl);simp)
  |false =>
   have n0:d<8:=by
    have:¬(8<d+1):=by simpa using h8
    omega
   simp -implicitDefEqProofs only[go_sem];refine CO.intro ((hF n0).ex hp (a+1) hs (fun h=>absurd h Bool.false_ne_true) _) ?_
   have j0:=hdeep n0 (a+1);generalize F (a+1)=w at j0⊢;obtain⟨x,a1,d1,b1⟩:=w;simp only at j0⊢;have y0:∀n,Bel n x.rv:=fun n=>z0f n x
   have m0:=rv_eq x;rw[rv_eq x];rcases rvK_cases x.ks with hK|⟨l,hK⟩
   all_goals rw[hK]at m0⊢
   all_goals simp -implicitDefEqProofs only[go_sem]
   all_goals refine CD.intro (z1G hp a1 d1 b1 _) ?_
   all_goals cases ho3:over s a1 b1
   all_goals first
   |(have t0:sees s a1 b1 41=false:=by simp[sees,ho3]
     simp -implicitDefEqProofs only[go_sem,gA hp,sA hp,gL0,sL0,gL1,sL1,t0];refine CO.intro (z2D hp a1 d1 b1 _) ?_;simp -implicitDefEqProofs only[go_sem,gA hp,sA hp,gL0,sL0,gL1,sL1]
     (refine Fini.trim2 (ex:=[_]) ?_ rfl ?_ (z0f _ _) (u0 _ _ _);(simp -implicitDefEqProofs only[go_sem,resA,z03,rvA,oneOf,gL0];first|done|rfl);simp))
   |(have u1:b1=false:=by cases b1<;>simp[over]at ho3⊢
     subst u1;have y1:=z1p ho3;have h3:((a1:Nat):Int)<s.size:=by omega
     have r0:(((byteAt s a1:Nat):Int)==41)=(byteAt s a1==41):=z0l _ 41;have n41:(((byteAt s a1:Nat):Int) != 41)= !(byteAt s a1==41):=by rw[bne,r0]
     have h0:=j0 rfl;subst h0
     have e9:IntKind.i64.wrap (((d+1:Nat):Int)-1)=(d:Int):=by
      simp only[IntKind.wrap,IntKind.bits,IntKind.signed];simp;omega
     rw[z0H ho3];simp -implicitDefEqProofs only[go_sem,gA hp,sA hp,gL0,sL0,gL1,sL1,h3,z07,r0,n41];cases h41:byteAt s a1==41
     · simp -implicitDefEqProofs only[go_sem];refine CO.intro (z2D hp a1 (d+1) false _) ?_;simp -implicitDefEqProofs only[go_sem,gA hp,sA hp,gL0,sL0,gL1,sL1]
       (refine Fini.trim2 (ex:=[_]) ?_ rfl ?_ (z0f _ _) (u0 _ _ _);(simp -implicitDefEqProofs only[go_sem,resA,z03,rvA,oneOf,gL0];first|done|rfl);simp)
     · simp -implicitDefEqProofs only[go_sem,gA hp,sA hp,gL0,sL0,gL1,sL1,z0R (show a1≤4294967296 by omega),e9,m0]
       rw[m0]at y0;refine Fini.trim2 (ex:=[_]) ?_ rfl ?_ (y0 _) (u0 _ _ _)
       · simp -implicitDefEqProofs only[go_sem,resA,z03,rvA,oneOf,gL0]
       · simp)
 simp -implicitDefEqProofs only[go_sem,l0];cases h91:byteAt s a==91
 case true =>
  simp -implicitDefEqProofs only[go_sem];refine CO.intro (zd9 hp (a+1) d hs _) ?_;have hK:rvK (z1M s (a+1)).1.ks=.nils:=by rw[zda];rfl
  generalize z1M s (a+1)=w at hK⊢;obtain⟨x,a1,b1⟩:=w;simp only at hK⊢;have y0:∀n,Bel n x.rv:=fun n=>z0f n x
  rw[rv_eq x,hK]at y0⊢;simp -implicitDefEqProofs only[go_sem,gA hp,sA hp,gL0,sL0,gL1,sL1];refine Fini.trim2 (ex:=[_]) ?_ rfl ?_ (y0 _) (u0 _ _ _)
  · simp -implicitDefEqProofs only[go_sem,resA,z03,rvA,oneOf,gL0]
  · simp
 simp -implicitDefEqProofs only[go_sem];refine CO.intro (z60 _ (byteAt s a)) ?_;simp -implicitDefEqProofs only[go_sem];cases hsp:specials.contains (byteAt s a)
 case true =>
  simp -implicitDefEqProofs only[go_sem];refine CO.intro (z2D hp (a+1) d false _) ?_;simp -implicitDefEqProofs only[go_sem,gA hp,sA hp,gL0,sL0,gL1,sL1]
  (refine Fini.trim2 (ex:=[_]) ?_ rfl ?_ (z0f _ _) (u0 _ _ _);(simp -implicitDefEqProofs only[go_sem,resA,z03,rvA,oneOf,gL0];first|done|rfl);simp)
 simp -implicitDefEqProofs only[go_sem];refine CO.intro (zaz _ (byteAt s a) (z1Y _ _)) ?_;obtain⟨x0,x1,x2,x3,hS⟩:=four (zaA (byteAt s a));rw[hS];simp -implicitDefEqProofs only[go_sem,gA hp,sA hp,gL0,sL0,gL1,sL1]
 (refine Fini.trim2 (ex:=[_]) ?_ rfl ?_ (z0f _ _) (u0 _ _ _);(simp -implicitDefEqProofs only[go_sem,resA,z03,rvA,oneOf,gL0];first|done|rfl);simp)
theorem z63 (F:DF) (d:Nat) (hF:DAns 180 true s d F):DAns 176 true s d (z3n s F):=by
 intro σ p a hp hs hg;refine Ans.of_run' t176 (fun k0 _=>?_)
 have q0:=z61 k0;simp -implicitDefEqProofs only[c176,r176,go_sem,List.append_assoc,List.length_append,List.length_set,gA hp,sA hp,gL0,sL0,gL1,sL1];refine CO.intro (hF.ex hp a hs hg _) ?_;unfold z3n;generalize F a=w;obtain⟨x,a1,d1,b1⟩:=w;simp only;have j0:∀n,Bel n x.rv:=fun n=>z0f n x
 have u0:=rv_eq x;rw[rv_eq x];rcases rvK_cases x.ks with hK|⟨l,hK⟩
 all_goals rw[hK]at u0⊢
 all_goals simp -implicitDefEqProofs only[go_sem]
 all_goals refine CO.intro (z1G hp a1 d1 b1 _) ?_
 all_goals cases ho:over s a1 b1
 all_goals first
 |(have m0:∀c,sees s a1 b1 c=false:=fun c=>by simp[sees,ho]
   simp -implicitDefEqProofs only[go_sem,gA hp,sA hp,gL0,sL0,gL1,sL1,m0,Bool.false_eq_true,if_false,u0];rw[u0]at j0;refine Fini.trim2 (ex:=[_]) ?_ rfl ?_ (j0 _) (q0 _ _ _)
   · simp -implicitDefEqProofs only[go_sem,resA,z03,rvA,oneOf,gL0]
   · simp)
 |(have d0:b1=false:=by cases b1<;>simp[over]at ho⊢
   subst d0;have e0:=z1p ho;have h3:((a1:Nat):Int)<s.size:=by omega
   have t0:(((byteAt s a1:Nat):Int)==42)=(byteAt s a1==42):=z0l _ 42;have n0:(((byteAt s a1:Nat):Int)==43)=(byteAt s a1==43):=z0l _ 43;have r0:(((byteAt s a1:Nat):Int)==63)=(byteAt s a1==63):=z0l _ 63;rw[z0H ho,z0H ho,z0H ho];have y0:∀op,(Rex.mk op 0 0 0 0 [x]).rv=.agg [I op,U 0,U 0,U 0,U 0,.sl 6 [x.rv]]:=fun op=>rfl
   simp -implicitDefEqProofs only[go_sem,gA hp,sA hp,gL0,sL0,gL1,sL1,h3,z07,t0];cases h42:byteAt s a1==42
   · simp -implicitDefEqProofs only[go_sem,n0];cases h43:byteAt s a1==43
     · simp -implicitDefEqProofs only[go_sem,r0];cases h63:byteAt s a1==63
       · simp -implicitDefEqProofs only[go_sem,gA hp,sA hp,gL0,sL0,gL1,sL1,u0];rw[u0]at j0;refine Fini.trim2 (ex:=[_]) ?_ rfl ?_ (j0 _) (q0 _ _ _)
         · simp -implicitDefEqProofs only[go_sem,resA,z03,rvA,oneOf,gL0]
         · simp
       · simp -implicitDefEqProofs only[go_sem,gA hp,sA hp,gL0,sL0,gL1,sL1,z0R (show a1≤4294967296 by omega)]
         refine Fini.trim2 (ex:=[_]) ?_ rfl ?_ (z0f _ _) (q0 _ _ _)
         · rw[y0,u0];simp -implicitDefEqProofs only[go_sem,resA,z03,rvA,oneOf,gL0]
         · simp
     · simp -implicitDefEqProofs only[go_sem,gA hp,sA hp,gL0,sL0,gL1,sL1,z0R (show a1≤4294967296 by omega)]
       refine Fini.trim2 (ex:=[_]) ?_ rfl ?_ (z0f _ _) (q0 _ _ _)
       · rw[y0,u0];simp -implicitDefEqProofs only[go_sem,resA,z03,rvA,oneOf,gL0]
       · simp
   · simp -implicitDefEqProofs only[go_sem,gA hp,sA hp,gL0,sL0,gL1,sL1,z0R (show a1≤4294967296 by omega)]
     refine Fini.trim2 (ex:=[_]) ?_ rfl ?_ (z0f _ _) (q0 _ _ _)
     · rw[y0,u0];simp -implicitDefEqProofs only[go_sem,resA,z03,rvA,oneOf,gL0]
     · simp)
end
def dwayL (s:ByteArray) (F:DF):Nat→List Rex→Nat→Nat→Bool→List Rex×Nat×Nat×Bool
 |0,K,a,d,b=>(K,a,d,b)
 |n+1,K,a,d,b=>if wGo s a b then dwayL s F n (K++[(F a).1]) (F a).2.1 (F a).2.2.1 (F a).2.2.2 else(K,a,d,b)
def dway (s:ByteArray) (F:DF) (d:Nat):DF:=fun a =>
 (one 2 (dwayL s F (s.size+1) [] a d false).1,(dwayL s F (s.size+1) [] a d false).2)
def z2k (s:ByteArray) (F:DF):Nat→List Rex→Nat→Nat→Bool→List Rex×Nat×Nat×Bool
 |0,K,a,d,b=>(K,a,d,b)
 |n+1,K,a,d,b=>if sees s a b 124 then z2k s F n (K++[(F (a+1)).1]) (F (a+1)).2.1 (F (a+1)).2.2.1 (F (a+1)).2.2.2 else(K,a,d,b)
def dways (s:ByteArray) (F:DF):DF:=fun a =>
 (one 3 (z2k s F (s.size+1) [(F a).1] (F a).2.1 (F a).2.2.1 (F a).2.2.2).1,(z2k s F (s.size+1) [(F a).1] (F a).2.1 (F a).2.2.1 (F a).2.2.2).2)
def dlvl (s:ByteArray) (W:DF) (d:Nat):DF:=dways s (dway s (z3n s (datom s W d)) d)
def DW (s:ByteArray):Nat→DF
 |0=>dlvl s (fun a=>(zeroR,a,0,false)) 8
 |k+1=>dlvl s (DW s k) (7-k)
def z8z (s:ByteArray):Rex×Bool :=
 if decide (40<s.size) then(zeroR,false)
 else if(DW s 8 0).2.2.2||decide ((DW s 8 0).2.1<s.size) then(zeroR,false) else((DW s 8 0).1,true)
structure DOK (g:Nat) (d:Nat) (F:DF):Prop where
 ge:∀a,a+g≤(F a).2.1
 deep:∀a,(F a).2.2.2=false→(F a).2.2.1=d
theorem z71 (s:ByteArray):∀(k:Nat) (S:List Int) (a:Nat) (b:Bool) (n:Nat),a≤(z0S s k S a b n).2.1
 |0,S,a,b,n=>Nat.le_refl _
 |k+1,S,a,b,n=>by
  rw[z0S];split
  · exact Nat.le_trans (Nat.le_trans (z6X s a) (zd8 s a)) (z71 s k _ _ _ _)
  · exact Nat.le_refl _
theorem zdb (s:ByteArray) (a:Nat):a≤(z1M s a).2.1:=by
 have h:=Nat.le_trans (z3k s a false 94) (z71 s (s.size+3) z4 (nextA s a false 94) false 0);unfold z1M dOut;split
 · exact h
 · exact Nat.le_succ_of_le h
theorem z4u (s:ByteArray) {F:DF} {d:Nat} (h:∀a,a≤(F a).2.1):DOK 1 d (datom s F d):=by
 constructor
 · intro a;have h1:=h (a+1);have h2:=zdb s (a+1);unfold datom;simp only
   repeat' split
   all_goals simp only
   all_goals omega
 · intro a;unfold datom;simp only
   repeat' split
   all_goals simp
theorem z4v (s:ByteArray) (F:DF) (a:Nat):(z3n s F a).2.2=(F a).2.2∧(F a).2.1≤(z3n s F a).2.1:=by
 unfold z3n;simp only
 repeat' split
 all_goals exact⟨rfl,by simp⟩
theorem z3b (s:ByteArray) {F:DF} {d:Nat} (h:DOK 1 d F):DOK 1 d (z3n s F):=by
 constructor
 · intro a;exact Nat.le_trans (h.ge a) (z4v s F a).2
 · intro a;rw[(z4v s F a).1];exact h.deep a
theorem z7w (s:ByteArray) {F:DF} {d:Nat} (h:DOK 1 d F):∀n K a d0 b,a≤(dwayL s F n K a d0 b).2.1∧((b=false→d0=d)→(dwayL s F n K a d0 b).2.2.2=false→(dwayL s F n K a d0 b).2.2.1=d)
 |0,K,a,d0,b=>⟨Nat.le_refl _,fun h1 h2=>h1 h2⟩
 |n+1,K,a,d0,b=>by
  rw[dwayL];split
  · have h1:=z7w s h n (K++[(F a).1]) (F a).2.1 (F a).2.2.1 (F a).2.2.2;exact⟨Nat.le_trans (Nat.le_trans (Nat.le_succ a) (h.ge a)) h1.1,fun _ h2=>h1.2 (h.deep a) h2⟩
  · exact⟨Nat.le_refl _,fun h1 h2=>h1 h2⟩
theorem z9G (s:ByteArray) {F:DF} {d:Nat} (h:DOK 1 d F):DOK 0 d (dway s F d) :=
 ⟨fun a=>(z7w s h (s.size+1) [] a d false).1,fun a=>(z7w s h (s.size+1) [] a d false).2 (fun _=>rfl)⟩
theorem z64 (s:ByteArray) {F:DF} {d:Nat} (h:DOK 0 d F):∀n K a d0 b,a≤(z2k s F n K a d0 b).2.1∧((b=false→d0=d)→(z2k s F n K a d0 b).2.2.2=false→(z2k s F n K a d0 b).2.2.1=d)
 |0,K,a,d0,b=>⟨Nat.le_refl _,fun h1 h2=>h1 h2⟩
 |n+1,K,a,d0,b=>by
  rw[z2k];split
  · have h1:=z64 s h n (K++[(F (a+1)).1]) (F (a+1)).2.1 (F (a+1)).2.2.1 (F (a+1)).2.2.2;exact⟨Nat.le_trans (Nat.le_trans (Nat.le_succ a) (h.ge (a+1))) h1.1,fun _ h2=>h1.2 (h.deep (a+1)) h2⟩
  · exact⟨Nat.le_refl _,fun h1 h2=>h1 h2⟩
theorem zfg (s:ByteArray) {F:DF} {d:Nat} (h:DOK 0 d F):DOK 0 d (dways s F):=by
 constructor
 · intro a;exact Nat.le_trans (h.ge a) (z64 s h (s.size+1) [(F a).1] (F a).2.1 (F a).2.2.1 (F a).2.2.2).1
 · intro a;exact(z64 s h (s.size+1) [(F a).1] (F a).2.1 (F a).2.2.1 (F a).2.2.2).2 (h.deep a)
theorem zdc (s:ByteArray) {W:DF} (h:∀a,a≤(W a).2.1) (d:Nat):DOK 0 d (dlvl s W d):=zfg s (z9G s (z3b s (z4u s h)))
theorem zgF (s:ByteArray):∀k,DOK 0 (8-k) (DW s k)
 |0=>zdc s (fun a=>Nat.le_refl _) 8
 |k+1=>by
  have:=zdc s (zgF s k).ge (7-k);rw[show 8-(k+1)=7-k by omega]
  exact this
section
variable (s:ByteArray)
theorem zaB (F:DF) (d:Nat) (hF:DAns 176 true s d F) (hok:DOK 1 d F):DAns 171 false s d (dway s F d):=by
 intro σ p a hp hs _;refine Ans.of_run' t171 (fun t0 _=>?_)
 have j0:=z61 t0;simp -implicitDefEqProofs only[c171,r171,go_sem,List.append_assoc,List.length_append,List.length_set];unfold dway;simp only;have hm:s.size-a<s.size+1:=by omega
 generalize r0:dwayL s F (s.size+1) [] a d false=res
 refine L.intro (α:={ x:Nat×List Rex×Nat×Nat×Bool // dwayL s F x.1 x.2.1 x.2.2.1 x.2.2.2.1 x.2.2.2.2=res∧s.size-x.2.2.1<x.1∧(x.2.2.2.2=false→x.2.2.2.1=d)∧x.2.1.length≤x.2.2.1 })
  (fun x=>x.1.1)
  (fun x=>mkE 43 [(0,.ptr p 0),(2,.ptr σ.length 0),(3,vK σ.length x.1.2.1)])
  (fun x=>σ.set p (dob s x.1.2.2.1 x.1.2.2.2.1 x.1.2.2.2.2)++exK x.1.2.1)
  (fun x J hJ=>?_) ⟨(s.size+1,[],a,d,false),r0,hm,fun _=>rfl,Nat.zero_le _⟩ ?_ ?_
 · obtain⟨⟨n,K,a1,d1,b1⟩,h1,h2,h3,h4⟩:=x;simp only at h1 h2 h3 h4 hJ⊢
   cases n with
   |zero=>omega
   |succ n =>
   rw[dwayL]at h1;have q0:(((byteAt s a1:Nat):Int)==124)=(byteAt s a1==124):=z0l _ 124;have n124:(((byteAt s a1:Nat):Int) != 124)= !(byteAt s a1==124):=by rw[bne,q0]
   have n0:(((byteAt s a1:Nat):Int)==41)=(byteAt s a1==41):=z0l _ 41;have n41:(((byteAt s a1:Nat):Int) != 41)= !(byteAt s a1==41):=by rw[bne,n0]
   cases hgo:wGo s a1 b1 with
   |true =>
    rw[hgo,if_pos rfl]at h1;obtain⟨ha,hb⟩:=zgD hgo;subst hb;have h0:=h3 rfl;subst h0;have m0:over s a1 false=false:=by simp[wGo]at hgo;exact hgo.1
    have l0:(byteAt s a1==124)=false:=by rw[←z0H m0];simp[wGo]at hgo;exact hgo.2.1
    have o0:(byteAt s a1==41)=false:=by rw[←z0H m0];simp[wGo]at hgo;exact hgo.2.2
    have k0:(a1:Int)<s.size:=by omega
    have d0:=hok.ge a1;have y0:=hJ ⟨(n,K++[(F a1).1],(F a1).2.1,(F a1).2.2.1,(F a1).2.2.2),h1,by simp only;omega,hok.deep a1,by simp;omega⟩ (Nat.lt_succ_self n)
    simp only[z5i,z7t]at y0;clear hJ h1 hgo;simp -implicitDefEqProofs only[mkE,go_sem];refine CD.intro (z1G hp a1 d1 false _) ?_;simp -implicitDefEqProofs only[go_sem,m0,gA hp,sA hp,gL0,sL0,gL1,sL1,k0,z07,q0,n124,l0,n0,n41,o0];refine CO.intro (hF.ex hp a1 hs (fun _=>ha) _) ?_
    generalize F a1=w at y0 d0⊢;obtain⟨x,a2,d2,b2⟩:=w;simp only at y0 d0⊢;rw[rv_eq x]at y0⊢;rcases K with _|⟨y,K⟩
    all_goals rcases rvK_cases x.ks with hK|⟨l,hK⟩
    all_goals rw[hK]at y0⊢
    all_goals first
    |(simp -implicitDefEqProofs only[go_sem,z3H,z4Z,gA hp,sA hp,gL0,sL0,gL1,sL1]at y0⊢
      simpa[mkE] using y0)
    |(have g1:(K.length+1+1≤2^32)=True:=by simp at h4;simp;omega
      simp -implicitDefEqProofs only[go_sem,z0E,z0Z,gA hp,sA hp,gL0,sL0,gL1,sL1,List.length_map,g1]at y0⊢
      simpa[mkE] using y0)
   |false =>
    rw[hgo,if_neg Bool.false_ne_true]at h1;subst h1;clear hJ h2
    have hex:over s a1 b1=true∨(over s a1 b1=false∧b1=false∧(byteAt s a1==124)=true)∨(over s a1 b1=false∧b1=false∧(byteAt s a1==124)=false∧(byteAt s a1==41)=true):=by
     cases h1:over s a1 b1
     · have hb:b1=false:=by cases b1<;>simp[over]at h1⊢
       subst hb;unfold wGo at hgo;rw[z0H h1,z0H h1,h1]at hgo;cases h2:byteAt s a1==124<;>cases h3:byteAt s a1==41<;>simp[h2,h3]at hgo⊢
     · exact .inl rfl
    have f0:True:=trivial;rcases hex with ho|⟨ho,hb,h5⟩|⟨ho,hb,h5,h6⟩
    · simp -implicitDefEqProofs only[mkE,go_sem];refine CD.intro (z1G hp a1 d1 b1 _) ?_;simp -implicitDefEqProofs only[go_sem,ho];rcases K with _|⟨y,_|⟨z,K⟩⟩
      · simp -implicitDefEqProofs only[go_sem,z3H,z4Z,gA hp,sA hp,gL0,sL0,gL1,sL1];refine Fini.trim2 (ex:=[_]) ?_ rfl ?_ (z0f _ _) (j0 _ _ _)
        · ((try simp -implicitDefEqProofs only[go_sem,resA,z03,rvA,oneOf,gL0]);first|done|rfl|(rw[z1t];rfl)|rw[rv_eq,hK])
        · simp
      · have g3:(((1:Nat):Int)==1)=true:=rfl;have g4:((0:Int)<((1:Nat):Int))=True:=by simp
        have u0:∀n,Bel n y.rv:=fun n=>z0f n y
        rw[z0E,z0Z,List.map_cons,List.map_nil,show(one 2 [y])=y from rfl]
        rw[rv_eq y]at u0⊢;rcases rvK_cases y.ks with hK|⟨l,hK⟩
        all_goals rw[hK]at u0⊢
        all_goals simp -implicitDefEqProofs only[go_sem,gA hp,sA hp,gL0,sL0,gL1,sL1,List.length_map,g3,g4,Int.toNat_zero]
        all_goals (
         refine Fini.trim2 (ex:=[_,_]) ?_ rfl ?_ (u0 _) (j0 _ _ _)
         · ((try simp -implicitDefEqProofs only[go_sem,resA,z03,rvA,oneOf,gL0]);first|done|rfl|(rw[z1t];rfl)|rw[rv_eq,hK])
         · simp)
      · rw[z0E,z0Z];have g2:(((K.length+1+1:Nat):Int)==1)=false:=by simp;omega
        simp -implicitDefEqProofs only[go_sem,gA hp,sA hp,gL0,sL0,gL1,sL1,List.length_map,g2];refine Fini.trim2 (ex:=[_,_]) ?_ rfl ?_ (z0f _ _) (j0 _ _ _)
        · ((try simp -implicitDefEqProofs only[go_sem,resA,z03,rvA,oneOf,gL0]);first|done|rfl|(rw[z1t];rfl)|rw[rv_eq,hK])
        · simp
    · subst hb;have e0:=z1p ho;have k0:(a1:Int)<s.size:=by omega
      simp -implicitDefEqProofs only[mkE,go_sem];refine CD.intro (z1G hp a1 d1 false _) ?_;simp -implicitDefEqProofs only[go_sem,ho,gA hp,sA hp,gL0,sL0,gL1,sL1,k0,z07,q0,n124,h5];rcases K with _|⟨y,_|⟨z,K⟩⟩
      · simp -implicitDefEqProofs only[go_sem,z3H,z4Z,gA hp,sA hp,gL0,sL0,gL1,sL1];refine Fini.trim2 (ex:=[_]) ?_ rfl ?_ (z0f _ _) (j0 _ _ _)
        · ((try simp -implicitDefEqProofs only[go_sem,resA,z03,rvA,oneOf,gL0]);first|done|rfl|(rw[z1t];rfl)|rw[rv_eq,hK])
        · simp
      · have g3:(((1:Nat):Int)==1)=true:=rfl;have g4:((0:Int)<((1:Nat):Int))=True:=by simp
        have u0:∀n,Bel n y.rv:=fun n=>z0f n y
        rw[z0E,z0Z,List.map_cons,List.map_nil,show(one 2 [y])=y from rfl]
        rw[rv_eq y]at u0⊢;rcases rvK_cases y.ks with hK|⟨l,hK⟩
        all_goals rw[hK]at u0⊢
        all_goals simp -implicitDefEqProofs only[go_sem,gA hp,sA hp,gL0,sL0,gL1,sL1,List.length_map,g3,g4,Int.toNat_zero]
        all_goals (
         refine Fini.trim2 (ex:=[_,_]) ?_ rfl ?_ (u0 _) (j0 _ _ _)
         · ((try simp -implicitDefEqProofs only[go_sem,resA,z03,rvA,oneOf,gL0]);first|done|rfl|(rw[z1t];rfl)|rw[rv_eq,hK])
         · simp)
      · rw[z0E,z0Z];have g2:(((K.length+1+1:Nat):Int)==1)=false:=by simp;omega
        simp -implicitDefEqProofs only[go_sem,gA hp,sA hp,gL0,sL0,gL1,sL1,List.length_map,g2];refine Fini.trim2 (ex:=[_,_]) ?_ rfl ?_ (z0f _ _) (j0 _ _ _)
        · ((try simp -implicitDefEqProofs only[go_sem,resA,z03,rvA,oneOf,gL0]);first|done|rfl|(rw[z1t];rfl)|rw[rv_eq,hK])
        · simp
    · subst hb;have e0:=z1p ho;have k0:(a1:Int)<s.size:=by omega
      simp -implicitDefEqProofs only[mkE,go_sem];refine CD.intro (z1G hp a1 d1 false _) ?_;simp -implicitDefEqProofs only[go_sem,ho,gA hp,sA hp,gL0,sL0,gL1,sL1,k0,z07,q0,n124,h5,n0,n41,h6];rcases K with _|⟨y,_|⟨z,K⟩⟩
      · simp -implicitDefEqProofs only[go_sem,z3H,z4Z,gA hp,sA hp,gL0,sL0,gL1,sL1];refine Fini.trim2 (ex:=[_]) ?_ rfl ?_ (z0f _ _) (j0 _ _ _)
        · ((try simp -implicitDefEqProofs only[go_sem,resA,z03,rvA,oneOf,gL0]);first|done|rfl|(rw[z1t];rfl)|rw[rv_eq,hK])
        · simp
      · have g3:(((1:Nat):Int)==1)=true:=rfl;have g4:((0:Int)<((1:Nat):Int))=True:=by simp
        have u0:∀n,Bel n y.rv:=fun n=>z0f n y
        rw[z0E,z0Z,List.map_cons,List.map_nil,show(one 2 [y])=y from rfl]
        rw[rv_eq y]at u0⊢;rcases rvK_cases y.ks with hK|⟨l,hK⟩
        all_goals rw[hK]at u0⊢
        all_goals simp -implicitDefEqProofs only[go_sem,gA hp,sA hp,gL0,sL0,gL1,sL1,List.length_map,g3,g4,Int.toNat_zero]
        all_goals (
         refine Fini.trim2 (ex:=[_,_]) ?_ rfl ?_ (u0 _) (j0 _ _ _)
         · ((try simp -implicitDefEqProofs only[go_sem,resA,z03,rvA,oneOf,gL0]);first|done|rfl|(rw[z1t];rfl)|rw[rv_eq,hK])
         · simp)
      · rw[z0E,z0Z];have g2:(((K.length+1+1:Nat):Int)==1)=false:=by simp;omega
        simp -implicitDefEqProofs only[go_sem,gA hp,sA hp,gL0,sL0,gL1,sL1,List.length_map,g2];refine Fini.trim2 (ex:=[_,_]) ?_ rfl ?_ (z0f _ _) (j0 _ _ _)
        · ((try simp -implicitDefEqProofs only[go_sem,resA,z03,rvA,oneOf,gL0]);first|done|rfl|(rw[z1t];rfl)|rw[rv_eq,hK])
        · simp
 · simp[mkE,vK]
 · rfl
theorem z8A (F:DF) (d:Nat) (hF:DAns 171 false s d F) (hok:DOK 0 d F):DAns 164 false s d (dways s F):=by
 intro σ p a hp hs hg;refine Ans.of_run' t164 (fun m0 _=>?_)
 have j0:=z61 m0;simp -implicitDefEqProofs only[c164,r164,go_sem,List.append_assoc,List.length_append,List.length_set];unfold dways;simp only;refine CO.intro (hF.ex hp a hs hg _) ?_;have n0:=hok.deep a;generalize F a=w0 at n0⊢;obtain⟨x0,a0,d0,b0⟩:=w0;simp only at n0⊢;have hm:s.size-a0<s.size+1:=by omega
 generalize k0:z2k s F (s.size+1) [x0] a0 d0 b0=res;rw[rv_eq x0];rcases rvK_cases x0.ks with hK0|⟨l0,hK0⟩
 all_goals rw[hK0]
 all_goals simp -implicitDefEqProofs only[go_sem,gA hp,sA hp,gL0,sL0,gL1,sL1,List.append_assoc,List.length_append,List.length_set]
 all_goals (
  refine L.intro (α:={ x:Nat×List Rex×Nat×Nat×Bool // z2k s F x.1 x.2.1 x.2.2.1 x.2.2.2.1 x.2.2.2.2=res∧s.size-x.2.2.1<x.1∧(x.2.2.2.2=false→x.2.2.2.1=d)∧x.2.1.length≤x.2.2.1+1∧x.2.1≠[] })
   (fun x=>x.1.1)
   (fun x=>mkE 41 [(0,.ptr p 0),(2,.ptr σ.length 0),(3,vK σ.length x.1.2.1)])
   (fun x=>σ.set p (dob s x.1.2.2.1 x.1.2.2.2.1 x.1.2.2.2.2)++exK x.1.2.1)
   (fun x J hJ=>?_) ⟨(s.size+1,[x0],a0,d0,b0),k0,hm,n0,by simp,by simp⟩ ?_ ?_)
 all_goals try (simp[mkE,vK];done)
 all_goals try (simp only[z0E,List.map_cons,List.map_nil,rv_eq x0,hK0];done)
 all_goals (
  obtain⟨⟨n,K,a1,d1,b1⟩,h1,h2,h3,h4,h5⟩:=x;simp only at h1 h2 h3 h4 h5 hJ⊢;rcases n with _|n
  · omega
  rw[z2k]at h1;have q0:(((byteAt s a1:Nat):Int)==124)=(byteAt s a1==124):=z0l _ 124;have n124:(((byteAt s a1:Nat):Int) != 124)= !(byteAt s a1==124):=by rw[bne,q0]
  cases hgo:sees s a1 b1 124
  · rw[hgo,if_neg Bool.false_ne_true]at h1;subst h1;clear hJ h2;simp -implicitDefEqProofs only[mkE,go_sem];refine CD.intro (z1G hp a1 d1 b1 _) ?_;cases ho:over s a1 b1
    · have hb:b1=false:=by cases b1<;>simp[over]at ho⊢
      subst hb;have hlt:=z1p ho;have r0:(a1:Int)<s.size:=by omega
      rw[z0H ho]at hgo;simp -implicitDefEqProofs only[go_sem,ho,gA hp,sA hp,gL0,sL0,gL1,sL1,r0,z07,q0,n124,hgo];rcases K with _|⟨y,_|⟨z,K⟩⟩
      · exact absurd rfl h5
      · have g3:(((1:Nat):Int)==1)=true:=rfl;have g4:((0:Int)<((1:Nat):Int))=True:=by simp
        have y0:∀n,Bel n y.rv:=fun n=>z0f n y
        rw[z0E,z0Z,List.map_cons,List.map_nil,show(one 3 [y])=y from rfl]
        rw[rv_eq y]at y0⊢;rcases rvK_cases y.ks with hK|⟨l,hK⟩
        all_goals rw[hK]at y0⊢
        all_goals simp -implicitDefEqProofs only[go_sem,gA hp,sA hp,gL0,sL0,gL1,sL1,List.length_map,g3,g4,Int.toNat_zero]
        all_goals (
         refine Fini.trim2 (ex:=[_,_]) ?_ rfl ?_ (y0 _) (j0 _ _ _)
         · ((try simp -implicitDefEqProofs only[go_sem,resA,z03,rvA,oneOf,gL0]);first|done|rfl|(rw[z1t];rfl)|rw[rv_eq,hK])
         · simp)
      · rw[z0E,z0Z];have g2:(((K.length+1+1:Nat):Int)==1)=false:=by simp;omega
        simp -implicitDefEqProofs only[go_sem,gA hp,sA hp,gL0,sL0,gL1,sL1,List.length_map,g2];refine Fini.trim2 (ex:=[_,_]) ?_ rfl ?_ (z0f _ _) (j0 _ _ _)
        · ((try simp -implicitDefEqProofs only[go_sem,resA,z03,rvA,oneOf,gL0]);first|done|rfl|(rw[z1t];rfl)|rw[rv_eq,hK])
        · simp
    · simp -implicitDefEqProofs only[go_sem,ho];rcases K with _|⟨y,_|⟨z,K⟩⟩
      · exact absurd rfl h5
      · have g3:(((1:Nat):Int)==1)=true:=rfl;have g4:((0:Int)<((1:Nat):Int))=True:=by simp
        have y0:∀n,Bel n y.rv:=fun n=>z0f n y
        rw[z0E,z0Z,List.map_cons,List.map_nil,show(one 3 [y])=y from rfl]
        rw[rv_eq y]at y0⊢;rcases rvK_cases y.ks with hK|⟨l,hK⟩
        all_goals rw[hK]at y0⊢
        all_goals simp -implicitDefEqProofs only[go_sem,gA hp,sA hp,gL0,sL0,gL1,sL1,List.length_map,g3,g4,Int.toNat_zero]
        all_goals (
         refine Fini.trim2 (ex:=[_,_]) ?_ rfl ?_ (y0 _) (j0 _ _ _)
         · ((try simp -implicitDefEqProofs only[go_sem,resA,z03,rvA,oneOf,gL0]);first|done|rfl|(rw[z1t];rfl)|rw[rv_eq,hK])
         · simp)
      · rw[z0E,z0Z];have g2:(((K.length+1+1:Nat):Int)==1)=false:=by simp;omega
        simp -implicitDefEqProofs only[go_sem,gA hp,sA hp,gL0,sL0,gL1,sL1,List.length_map,g2];refine Fini.trim2 (ex:=[_,_]) ?_ rfl ?_ (z0f _ _) (j0 _ _ _)
        · ((try simp -implicitDefEqProofs only[go_sem,resA,z03,rvA,oneOf,gL0]);first|done|rfl|(rw[z1t];rfl)|rw[rv_eq,hK])
        · simp
  · rw[hgo,if_pos rfl]at h1;obtain⟨ha,hb⟩:=z9B hgo;subst hb;have e0:=h3 rfl;subst e0
    have ho:over s a1 false=false:=by
     cases h:over s a1 false
     · rfl
     · simp[sees,h]at hgo
    have r0:(a1:Int)<s.size:=by omega
    have t0:=hok.ge (a1+1);have u0:=hJ ⟨(n,K++[(F (a1+1)).1],(F (a1+1)).2.1,(F (a1+1)).2.2.1,(F (a1+1)).2.2.2),h1,by simp only;omega,hok.deep (a1+1),by simp;omega,by simp⟩ (Nat.lt_succ_self n)
    simp only[z5i,z7t]at u0;clear hJ h1;rw[z0H ho]at hgo;simp -implicitDefEqProofs only[mkE,go_sem];refine CD.intro (z1G hp a1 d1 false _) ?_;simp -implicitDefEqProofs only[go_sem,ho,gA hp,sA hp,gL0,sL0,gL1,sL1,r0,z07,q0,n124,hgo,z0R (show a1≤4294967296 by omega)]
    refine CO.intro (hF.ex hp (a1+1) hs (fun h=>absurd h Bool.false_ne_true) _) ?_
    generalize F (a1+1)=w at u0 t0⊢;obtain⟨x,a2,d2,b2⟩:=w;simp only at u0 t0⊢;rw[rv_eq x]at u0⊢;rcases K with _|⟨y,K⟩
    · exact absurd rfl h5
    have g1:(K.length+1+1≤2^32)=True:=by simp at h4;simp;omega
    rcases rvK_cases x.ks with hK|⟨l,hK⟩
    all_goals rw[hK]at u0⊢
    all_goals (
     simp -implicitDefEqProofs only[go_sem,z0E,z0Z,gA hp,sA hp,gL0,sL0,gL1,sL1,List.length_map,g1]at u0⊢
     simpa[mkE] using u0))
theorem zgG:∀k,k≤8→DAns 164 false s (8-k) (DW s k)
 |0,_=>z8A s _ 8 (zaB s _ 8 (z63 s _ 8 (z8y s _ 8 (Nat.le_refl _) (fun h=>absurd h (Nat.lt_irrefl _)) (fun h=>absurd h (Nat.lt_irrefl _))))
  (z3b s (z4u s (fun a=>Nat.le_refl _)))) (z9G s (z3b s (z4u s (fun a=>Nat.le_refl _))))
 |k+1,h=>by
  have ih:=zgG k (by omega)
  have hk:=zgF s k;have e:8-(k+1)=7-k:=by omega
  have e2:8-k=7-k+1:=by omega
  rw[e2]at ih hk;rw[e]
  exact z8A s _ (7-k) (zaB s _ (7-k) (z63 s _ (7-k) (z8y s _ (7-k) (by omega) (fun _=>ih) (fun _=>hk.deep)))
   (z3b s (z4u s hk.ge))) (z9G s (z3b s (z4u s hk.ge)))
theorem zbH (σ:St):Ans Tryz.prog 154 [Sx s] σ (.tup [(z8z s).1.rv,Bo (z8z s).2]) σ:=by
 have hw:s.size≤40→Ans Tryz.prog 164 [.ptr (σ.length+1) 0] (σ++[box0,dob s 0 0 false]) (DW s 8 0).1.rv (σ++[box0,dob s (DW s 8 0).2.1 (DW s 8 0).2.2.1 (DW s 8 0).2.2.2]):=by
  intro hs;have:=zgG s 8 (Nat.le_refl _) (σ++[box0,dob s 0 0 false]) (σ.length+1) 0 (by simp) hs (fun h=>absurd h Bool.false_ne_true)
  have e:∀o,(σ++[box0,dob s 0 0 false]).set (σ.length+1) o=σ++[box0,o]:=fun o=>by rw[List.set_append_right _ _ (by omega)];simp
  rwa [e,e]at this
 have m0:decide ((40:Int)<(s.size:Int))=decide (40<s.size):=by rw[Bool.eq_iff_iff];simp;omega
 have k0:∀(x y:Ob) (ex:St),(σ++x::y::ex)[σ.length]?=some x:=fun x y ex=>by rw[List.getElem?_append_right (by simp)];simp
 have j0:∀(x:Ob),(σ++[x])[σ.length]?=some x:=fun x=>by rw[List.getElem?_append_right (by simp)];simp
 have k1:∀(x y:Ob) (ex:St),(σ++x::y::ex)[σ.length+1]?=some y:=fun x y ex=>by rw[List.getElem?_append_right (by simp)];simp
 have s0:∀(x z:Ob) (ex:St),(σ++x::ex).set σ.length z=σ++z::ex:=fun x z ex=>by rw[List.set_append_right _ _ (by simp)];simp
 refine Ans.of_run' t154 (fun u0 _=>?_)
 simp -implicitDefEqProofs only[c154,r154,go_sem,List.append_assoc,List.length_append,m0];unfold z8z
 cases h40:decide (40<s.size) with
 |true =>
  simp -implicitDefEqProofs only[go_sem,j0,s0];refine Fini.trim2 (σ':=σ) (ex:=[_]) ?_ rfl (Nat.le_refl _) ?_ u0
  · simp -implicitDefEqProofs only[go_sem,resA,z03,rvA,oneOf,j0];rfl
  · exact z3m (z0f _ zeroR) _
 |false =>
  have hs:s.size≤40:=by
   have:¬40<s.size:=by simpa using h40
   omega
  simp -implicitDefEqProofs only[go_sem,List.append_assoc,List.length_append];refine CO.intro (hw hs) ?_;generalize DW s 8 0=w;obtain⟨x,a,d,b⟩:=w;simp only;have eL:decide ((a:Int)<(s.size:Int))=decide (a<s.size):=by rw[Bool.eq_iff_iff];simp
  have q0:∀n,Bel n x.rv:=fun n=>z0f n x
  rw[rv_eq x];have y0:=rv_eq x;rcases rvK_cases x.ks with hK|⟨l,hK⟩
  all_goals (
   rw[hK]at y0⊢;cases b
   · cases hlt:decide (a<s.size)
     · simp -implicitDefEqProofs only[go_sem,k0,k1,s0,List.append_assoc,List.length_append,eL,hlt,Bool.or_self,y0];rw[y0]at q0;refine Fini.trim2 (σ':=σ) (ex:=[_,_]) ?_ rfl (Nat.le_refl _) ?_ u0
       · simp -implicitDefEqProofs only[go_sem,resA,z03,rvA,oneOf,k0]
       · exact z3m (q0 _) _
     · simp -implicitDefEqProofs only[go_sem,k0,k1,s0,List.append_assoc,List.length_append,eL,hlt,Bool.or_true];refine Fini.trim2 (σ':=σ) (ex:=[_,_]) ?_ rfl (Nat.le_refl _) ?_ u0
       · simp -implicitDefEqProofs only[go_sem,resA,z03,rvA,oneOf,k0];rfl
       · exact z3m (z0f _ zeroR) _
   · simp -implicitDefEqProofs only[go_sem,k0,k1,s0,List.append_assoc,List.length_append,Bool.true_or];refine Fini.trim2 (σ':=σ) (ex:=[_,_]) ?_ rfl (Nat.le_refl _) ?_ u0
     · simp -implicitDefEqProofs only[go_sem,resA,z03,rvA,oneOf,k0];rfl
     · exact z3m (z0f _ zeroR) _)
end
theorem z2E (s:ByteArray) (a:Nat):pbyte s a false=if over s a false then(0,a,true) else(byteAt s a,a+1,false):=rfl
theorem zfh:∀c:Nat,c<256→(c==92)=false→within2.contains c=within.contains c:=by decide +kernel
theorem z65 (s:ByteArray) (a:Nat):(z0o s a).2.2=(z09 s a false).2.2∧((z0o s a).2.2=false→z0o s a=z09 s a false):=by
 unfold z0o z09;rw[z2E]
 cases ho:over s a false with
 |true=>simp
 |false =>
  simp only[Bool.false_eq_true,if_false]
  cases hc:byteAt s a==92 with
  |true =>
   simp only[if_true];unfold psign;rw[z2E]
   cases ho2:over s (a+1) false with
   |true=>simp
   |false =>
    simp only[Bool.false_eq_true,if_false,Bool.false_or];cases signs.contains (byteAt s (a+1))<;>simp
  |false =>
   simp only[Bool.false_eq_true,if_false,Bool.false_or];rw[zfh _ (z1Y s a) hc];exact⟨rfl,fun h=>rfl⟩
theorem zdd (s:ByteArray) (a:Nat):(dTo s a).2.2=(cTo s a false).2.2∧((dTo s a).2.2=false→dTo s a=cTo s a false∧z0o s a=z09 s a false):=by
 have h:=z65 s a;unfold dTo cTo
 cases hb:(z0o s a).2.2 with
 |true =>
  have u0:(z09 s a false).2.2=true:=by rw[←h.1];exact hb
  rw[u0,z2j,z2j];simp[hb,u0]
 |false =>
  have e:=h.2 hb;rw[←e,hb]
  cases hse:sees s (z0o s a).2.1 false 45 with
  |true =>
   have h2:=z65 s ((z0o s a).2.1+1);simp only[if_true];exact⟨h2.1,fun hg=>⟨h2.2 hg,trivial⟩⟩
  |false =>
   simp only[Bool.false_eq_true,if_false];exact⟨trivial,fun _=>⟨trivial,trivial⟩⟩
theorem zfi (s:ByteArray) (a:Nat):dBad s a=cBad s a false:=by
 have h:=zdd s a;unfold dBad cBad
 cases hb:(dTo s a).2.2 with
 |true=>rw[←h.1,hb];simp
 |false =>
  have e:=h.2 hb;rw[←e.1,←e.2,hb]
theorem z66 (s:ByteArray) (k:Nat) (S:List Int) (a:Nat):z1f s k S a true false=(S,a,true):=by
 cases k with
 |zero=>rfl
 |succ k=>rw[z1f];simp[cGo,over]
theorem z51 (s:ByteArray) (k:Nat) (S:List Int) (a n:Nat):z0S s k S a true n=(S,a,true,n):=by
 cases k with
 |zero=>rfl
 |succ k=>rw[z0S];simp[dGo,over]
theorem zgH (s:ByteArray) (a:Nat):cGo s a false false=dGo s a false:=by simp[cGo,dGo]
theorem z48 (s:ByteArray):∀(k:Nat) (S:List Int) (a n:Nat),
  (z0S s k S a false n).2.2.1=(z1f s k S a false false).2.2∧n≤(z0S s k S a false n).2.2.2 ∧
  ((z0S s k S a false n).2.2.1=false→(z0S s k S a false n).1=(z1f s k S a false false).1∧(z0S s k S a false n).2.1=(z1f s k S a false false).2.1)
 |0,S,a,n=>⟨rfl,Nat.le_refl _,fun _=>⟨rfl,rfl⟩⟩
 |k+1,S,a,n=>by
  rw[z0S,z1f,zgH]
  cases hg:dGo s a false with
  |false=>exact⟨rfl,Nat.le_refl _,fun _=>⟨rfl,rfl⟩⟩
  |true =>
   simp only[if_true];rw[←zfi]
   cases hb:dBad s a with
   |true=>rw[z51,z66];exact⟨rfl,Nat.le_succ _,fun h=>absurd h (by simp)⟩
   |false =>
    have u0:(dTo s a).2.2=false:=by
     unfold dBad at hb;cases h:(dTo s a).2.2
     · rfl
     · rw[h]at hb;simp at hb
    have e:=(zdd s a).2 u0;rw[←e.1,←e.2];have ih:=z48 s k (addR S (z0o s a).1 ((dTo s a).1+1-(z0o s a).1)) (dTo s a).2.1 (n+1);exact⟨ih.1,Nat.le_trans (Nat.le_succ _) ih.2.1,ih.2.2⟩
theorem z52 (s:ByteArray):∀(k:Nat) (S:List Int) (a:Nat) (b:Bool) (n:Nat),s.size-a<k→dGo s (z0S s k S a b n).2.1 (z0S s k S a b n).2.2.1=false
 |0,S,a,b,n,h=>by omega
 |k+1,S,a,b,n,h=>by
  rw[z0S]
  cases hg:dGo s a b with
  |false=>exact hg
  |true =>
   have ho:over s a b=false:=by
    cases h:over s a b
    · rfl
    · simp[dGo,h]at hg
   have hlt:=z1p ho;have hb:b=false:=by cases b<;>simp[over]at ho⊢
   subst hb;have h1:=z6Y s a ho;have h2:=zd8 s a;exact z52 s k _ _ _ _ (by omega)
theorem zbI (s:ByteArray) (a:Nat):(z1M s a).2.2=(z2i s a false).2.2∧((z1M s a).2.2=false→(z1M s a).1=ofSet (z2i s a false).1∧(z1M s a).2.1=(z2i s a false).2.1):=by
 have h1:=z48 s (s.size+3) z4 (nextA s a false 94) 0;have h2:=z52 s (s.size+3) z4 (nextA s a false 94) false 0 (by omega)
 unfold z1M dOut z2i;simp only
 cases hg:dGo s (nextA s a false 94) false with
 |false =>
  have e:z0S s (s.size+3) z4 (nextA s a false 94) false 0=(z4,nextA s a false 94,false,0):=by rw[z0S,hg];rfl
  have y0:(z1f s (s.size+3) z4 (nextA s a false 94) false true).2.2=true:=by
   rw[z1f];rw[if_pos (show cGo s (nextA s a false 94) false true=true from rfl)]
   have hm:(z09 s (nextA s a false 94) false).2.2=true:=by
    generalize nextA s a false 94=a0 at hg;unfold z09;rw[z2E]
    cases ho:over s a0 false with
    |true=>simp
    |false =>
     have u0:sees s a0 false 93=true:=by simpa[dGo,ho] using hg
     rw[z0H ho]at u0;have q0:byteAt s a0=93:=by simpa using u0
     simp[q0,within]
   have hc:cBad s (nextA s a false 94) false=true:=by
    unfold cBad;rw[zat s _ false hm];rfl
   rw[hc,z66]
  rw[e,y0];simp
 |true =>
  have ef:z1f s (s.size+3) z4 (nextA s a false 94) false true=z1f s (s.size+3) z4 (nextA s a false 94) false false:=by
   have step:∀first,z1f s (s.size+3) z4 (nextA s a false 94) false first=if cGo s (nextA s a false 94) false first then
     z1f s (s.size+2) (addR z4 (z09 s (nextA s a false 94) false).1 ((cTo s (nextA s a false 94) false).1+1-(z09 s (nextA s a false 94) false).1)) (cTo s (nextA s a false 94) false).2.1 (cBad s (nextA s a false 94) false) false
     else(z4,nextA s a false 94,false):=fun _=>rfl
   rw[step true,step false,zgH,hg];rfl
  have hn:1≤(z0S s (s.size+3) z4 (nextA s a false 94) false 0).2.2.2:=by
   rw[z0S,hg,if_pos rfl]
   cases hb:dBad s (nextA s a false 94) with
   |true=>rw[z51];exact Nat.le_refl _
   |false=>exact(z48 s (s.size+2) _ _ (0+1)).2.1
  rw[ef];have h1':(z0S s (s.size+3) [0,0,0,0] (nextA s a false 94) false 0).2.2.1=(z1f s (s.size+3) [0,0,0,0] (nextA s a false 94) false false).2.2:=h1.1;generalize z0S s (s.size+3) z4 (nextA s a false 94) false 0=l at h1 h2 hn⊢;obtain⟨S,a1,b1,n⟩:=l;generalize z1f s (s.size+3) z4 (nextA s a false 94) false false=r at h1⊢;obtain⟨S',a',b'⟩:=r;simp only at h1 h2 hn⊢;obtain⟨hb,_,he⟩:=h1;subst hb;have j0:(n==0)=false:=by simp;omega
  rw[j0,Bool.or_false]
  cases b1 with
  |true=>simp[over]
  |false =>
   obtain⟨rfl,rfl⟩:=he rfl
   cases ho:over s a1 false with
   |true=>simp[sees,ho]
   |false =>
    have u0:sees s a1 false 93=true:=by simpa[dGo,ho] using h2
    simp[u0,nextA]
theorem zfj:∀r:Nat,r<64→orU 0 (bitU r)=bitU r:=by decide +kernel
theorem zde (c:Nat) (hc:c<256):oneS c=z2M z4 c:=by
 unfold oneS z2M;have h4:c/64<4:=by omega
 have:z4.getD (c/64) 0=0:=by
  generalize c/64=k at h4
  match k,h4 with
  |0,_=>rfl
  |1,_=>rfl
  |2,_=>rfl
  |3,_=>rfl
 rw[this,zfj _ (by omega)]
theorem zhy:turnS z4=fullS:=by decide +kernel
theorem z8B:∀c:Nat,c<256→((specials.contains c==stray.contains c)||(c==40||c==91||c==46||c==92||c==124||c==41))=true:=by decide +kernel
theorem z9H:∀c:Nat,c<256→(c==40)=false→(c==91)=false→(c==46)=false→(c==92)=false→(c==124)=false→(c==41)=false→specials.contains c=stray.contains c:=by
 intro c hc h1 h2 h3 h4 h5 h6;have:=z8B c hc;rw[h1,h2,h3,h4,h5,h6]at this;simpa using this
def Agr (cond:Nat→Prop) (P:PF) (F:DF):Prop :=
 ∀a,cond a→(F a).2.2.2=(P a false).2.2∧((F a).2.2.2=false→(F a).1=(P a false).1∧(F a).2.1=(P a false).2.1)
def z72 (s:ByteArray) (a:Nat):Prop:=wGo s a false=true
theorem zfk (s:ByteArray) {P:PF} {F:DF} {d:Nat} (hd:d≤8) (h:d<8→Agr (fun _=>True) P F):Agr (z72 s) (patom s P d) (datom s F d):=by
 intro a hg;have ho:over s a false=false:=by simp[z72,wGo]at hg;exact hg.1
 have u0:(byteAt s a==124)=false:=by rw[←z0H ho];simp[z72,wGo]at hg;exact hg.2.1
 have m0:(byteAt s a==41)=false:=by rw[←z0H ho];simp[z72,wGo]at hg;exact hg.2.2
 have hc:=z1Y s a;unfold patom datom;simp only;rw[z2E,ho];simp only[Bool.false_eq_true,if_false,Bool.false_or]
 cases h40:byteAt s a==40 with
 |true =>
  have j0:byteAt s a=40:=by simpa using h40
  rw[j0];have k0:decide (8<d+1)=(d==8):=by rw[Bool.eq_iff_iff];simp;omega
  rw[k0]
  cases h8:d==8 with
  |true=>simp
  |false =>
   have q0:d<8:=by
    have:d≠8:=by simpa using h8
    omega
   have ih:=h q0 (a+1) trivial;generalize F (a+1)=w at ih⊢;generalize P (a+1) false=v at ih⊢;obtain⟨x,a1,d1,b1⟩:=w;obtain⟨y,a2,b2⟩:=v;simp only at ih;obtain⟨hb,he⟩:=ih;subst hb
   cases b1 with
   |true=>simp[z2j]
   |false =>
    obtain⟨rfl,rfl⟩:=he rfl;cases hse:sees s a1 false 41<;>simp[hse,nextA]
 |false =>
  cases h91:byteAt s a==91 with
  |true =>
   have y0:byteAt s a=91:=by simpa using h91
   have ih:=zbI s (a+1);simp[y0];exact ih
  |false =>
   cases h46:byteAt s a==46 with
   |true=>simp[zhy]
   |false =>
    cases h92:byteAt s a==92 with
    |true =>
     have e92:byteAt s a=92:=by simpa using h92
     simp only[Bool.false_eq_true,if_false,if_true];unfold psign;rw[z2E]
     cases ho2:over s (a+1) false with
     |true=>simp
     |false =>
      have:=zde _ (z1Y s (a+1));simp only[Bool.false_eq_true,if_false,Bool.false_or];cases hq:signs.contains (byteAt s (a+1))<;>simp[this]
    |false =>
     rw[←z9H _ hc h40 h91 h46 h92 u0 m0];simp only[Bool.false_eq_true,if_false];cases hsp:specials.contains (byteAt s a)
     · simp[zde _ hc]
     · simp
theorem zbJ (s:ByteArray) {P:PF} {F:DF} {c:Nat→Prop} (h:Agr c P F):Agr c (z2V s P) (z3n s F):=by
 intro a ha;have ih:=h a ha;unfold z2V z3n;simp only;generalize F a=w at ih⊢;generalize P a false=v at ih⊢;obtain⟨x,a1,d1,b1⟩:=w;obtain⟨y,a2,b2⟩:=v;simp only at ih⊢;obtain⟨hb,he⟩:=ih;subst hb
 cases b1 with
 |true=>simp[z2j]
 |false =>
  obtain⟨rfl,rfl⟩:=he rfl;cases sees s a1 false 42<;>cases sees s a1 false 43<;>cases sees s a1 false 63<;>simp
theorem zaC (s:ByteArray) (a:Nat):wGo s a true=false:=by simp[wGo,over]
theorem zbK (s:ByteArray) (P:PF) (n:Nat) (K:List Rex) (a:Nat):(pwayL s P n K a true).2.2=true:=by
 cases n with
 |zero=>rfl
 |succ n=>rw[pwayL,zaC];rfl
theorem zbL (s:ByteArray) (F:DF) (n:Nat) (K:List Rex) (a d:Nat):(dwayL s F n K a d true).2.2.2=true:=by
 cases n with
 |zero=>rfl
 |succ n=>rw[dwayL,zaC];rfl
theorem zaD (s:ByteArray) {P:PF} {F:DF} (h:Agr (z72 s) P F):∀(n:Nat) (K:List Rex) (a d:Nat),
  (dwayL s F n K a d false).2.2.2=(pwayL s P n K a false).2.2∧((dwayL s F n K a d false).2.2.2=false→(dwayL s F n K a d false).1=(pwayL s P n K a false).1∧(dwayL s F n K a d false).2.1=(pwayL s P n K a false).2.1)
 |0,K,a,d=>⟨rfl,fun _=>⟨rfl,rfl⟩⟩
 |n+1,K,a,d=>by
  rw[dwayL,pwayL]
  cases hg:wGo s a false with
  |false=>exact⟨rfl,fun _=>⟨rfl,rfl⟩⟩
  |true =>
   simp only[if_true];have ih:=h a hg;generalize F a=w at ih⊢;generalize P a false=v at ih⊢;obtain⟨x,a1,d1,b1⟩:=w;obtain⟨y,a2,b2⟩:=v;simp only at ih⊢;obtain⟨hb,he⟩:=ih;subst hb
   cases b1 with
   |true=>rw[zbL,zbK];simp
   |false =>
    obtain⟨rfl,rfl⟩:=he rfl;exact zaD s h n (K++[x]) a1 d1
theorem zhz (s:ByteArray) {P:PF} {F:DF} (h:Agr (z72 s) P F) (d:Nat):Agr (fun _=>True) (pway s P) (dway s F d):=by
 intro a _;have ih:=zaD s h (s.size+1) [] a d;unfold pway dway;simp only;exact⟨ih.1,fun hb=>⟨by rw[(ih.2 hb).1],(ih.2 hb).2⟩⟩
theorem z67 (s:ByteArray) (P:PF) (n:Nat) (K:List Rex) (a:Nat):(z2A s P n K a true).2.2=true:=by
 cases n with
 |zero=>rfl
 |succ n=>rw[z2A,z2j];rfl
theorem z68 (s:ByteArray) (F:DF) (n:Nat) (K:List Rex) (a d:Nat):(z2k s F n K a d true).2.2.2=true:=by
 cases n with
 |zero=>rfl
 |succ n=>rw[z2k,z2j];rfl
theorem z8C (s:ByteArray) {P:PF} {F:DF} (h:Agr (fun _=>True) P F):∀(n:Nat) (K:List Rex) (a d:Nat),
  (z2k s F n K a d false).2.2.2=(z2A s P n K a false).2.2∧((z2k s F n K a d false).2.2.2=false→(z2k s F n K a d false).1=(z2A s P n K a false).1∧(z2k s F n K a d false).2.1=(z2A s P n K a false).2.1)
 |0,K,a,d=>⟨rfl,fun _=>⟨rfl,rfl⟩⟩
 |n+1,K,a,d=>by
  rw[z2k,z2A]
  cases hg:sees s a false 124 with
  |false=>exact⟨rfl,fun _=>⟨rfl,rfl⟩⟩
  |true =>
   simp only[if_true];have ih:=h (a+1) trivial;generalize F (a+1)=w at ih⊢;generalize P (a+1) false=v at ih⊢;obtain⟨x,a1,d1,b1⟩:=w;obtain⟨y,a2,b2⟩:=v;simp only at ih⊢;obtain⟨hb,he⟩:=ih;subst hb
   cases b1 with
   |true=>rw[z68,z67];simp
   |false =>
    obtain⟨rfl,rfl⟩:=he rfl;exact z8C s h n (K++[x]) a1 d1
theorem zfl (s:ByteArray) {P:PF} {F:DF} (h:Agr (fun _=>True) P F):Agr (fun _=>True) (pways s P) (dways s F):=by
 intro a _;have ih:=h a trivial;unfold pways dways;simp only;generalize F a=w at ih⊢;generalize P a false=v at ih⊢;obtain⟨x,a1,d1,b1⟩:=w;obtain⟨y,a2,b2⟩:=v;simp only at ih⊢;obtain⟨hb,he⟩:=ih;subst hb
 cases b1 with
 |true=>rw[z68,z67];simp
 |false =>
  obtain⟨rfl,rfl⟩:=he rfl;have ih:=z8C s h (s.size+1) [x] a1 d1;exact⟨ih.1,fun hb=>⟨by rw[(ih.2 hb).1],(ih.2 hb).2⟩⟩
theorem zdf (s:ByteArray) {P:PF} {F:DF} {d:Nat} (hd:d≤8) (h:d<8→Agr (fun _=>True) P F):Agr (fun _=>True) (lvl s P d) (dlvl s F d) :=
 zfl s (zhz s (zbJ s (zfk s hd h)) d)
theorem agr_W (s:ByteArray):∀k,Agr (fun _=>True) (PW s k) (DW s k)
 |0=>zdf s (Nat.le_refl _) (fun h=>absurd h (Nat.lt_irrefl _))
 |k+1=>zdf s (by omega) (fun _=>agr_W s k)
theorem zdg (s:ByteArray):z8z s=z2B s:=by
 unfold z8z z2B;simp only
 cases h40:decide (40<s.size) with
 |true =>
  have:=(zaw s 8 0 true).2 rfl;rw[this];rfl
 |false =>
  have ih:=agr_W s 8 0 trivial;simp only[Bool.false_eq_true,if_false];generalize DW s 8 0=w at ih⊢;generalize PW s 8 0 false=v at ih⊢;obtain⟨x,a1,d1,b1⟩:=w;obtain⟨y,a2,b2⟩:=v;simp only at ih⊢;obtain⟨hb,he⟩:=ih;subst hb
  cases b1 with
  |true=>simp;rfl
  |false =>
   obtain⟨rfl,rfl⟩:=he rfl;rfl
theorem zdh (σ:St) (k:Int) (nm v:ByteArray):Ans Tryz.prog 153 [mat k nm v] σ (Bo (likeB k)) σ:=by
 refine Ans.of_run t153 ?_;simp -implicitDefEqProofs only[c153,r153,go_sem];unfold likeB;cases h:k==3
 · simp -implicitDefEqProofs only[go_sem];exact Fini.ret rfl
 · simp -implicitDefEqProofs only[go_sem];exact Fini.ret rfl
def okN (s:ByteArray) (i:Nat):Bool:=z2C (byteAt s i)||(!(i==0)&&z50 (byteAt s i))
def nameD (s:ByteArray):Bool:=(List.range s.size).all (okN s)&&(decide (1≤s.size)&&decide (s.size≤12))
theorem zfm (s:ByteArray):nameD s=nameB s:=by
 unfold nameD nameB;by_cases h1:1≤s.size
 · by_cases h2:s.size≤12
   · rw[decide_eq_true h1,decide_eq_true h2];simp only[Bool.and_self,Bool.and_true,Bool.true_and];rw[Bool.eq_iff_iff];simp only[Bool.and_eq_true,List.all_eq_true,List.mem_range,okN,Bool.or_eq_true,Bool.not_eq_true',beq_eq_false_iff_ne];constructor
     · intro h;refine⟨?_,fun i hi=>?_⟩
       · rcases h 0 (by omega) with h|h
         · exact h
         · exact absurd rfl h.1
       · rcases h i hi with h|h
         · exact .inl h
         · exact .inr h.2
     · rintro⟨h0,h⟩ i hi;by_cases hz:i=0
       · subst hz;exact .inl h0
       · rcases h i hi with h|h
         · exact .inl h
         · exact .inr ⟨hz,h⟩
   · rw[decide_eq_false h2];simp
 · rw[decide_eq_false h1];simp
theorem z69 (σ:St) (s:ByteArray) (hs:s.size≤100000):Ans Tryz.prog 134 [Sx s] σ (Bo (nameB s)) σ:=by
 rw[←zfm];refine Ans.of_run t134 ?_;simp -implicitDefEqProofs only[c134,r134,go_sem];refine Go.Ab.L.scan s.size (okN s) (fun i=>mkE 55 [(0,Sx s),(3,I i)]) (fun _=>σ) ?_ ?_ rfl rfl
 · intro i hi hp J hJ;have q0:((i:Int)<s.size)=True:=by simp;omega
   have u0:decide ((i:Int)<s.size)=true:=by simp;omega
   have y0:=z0R (n:=i) (by omega)
   have hF:okN s i=false→nameD s=false:=fun h=>by
    rw[nameD,List.all_eq_false.2 ⟨i,List.mem_range.2 hi,by simp[h]⟩];rfl
   have e1:decide ((97:Int)≤(byteAt s i:Nat))=decide (97≤byteAt s i):=z3B 97 _;have e2:decide (((byteAt s i:Nat):Int)≤122)=decide (byteAt s i≤122):=z3B _ 122;have e3:decide ((65:Int)≤(byteAt s i:Nat))=decide (65≤byteAt s i):=z3B 65 _;have e4:decide (((byteAt s i:Nat):Int)≤90)=decide (byteAt s i≤90):=z3B _ 90;have e5:(((byteAt s i:Nat):Int)==95)=(byteAt s i==95):=z0l _ 95;have e6:decide (((byteAt s i:Nat):Int)<48)=decide (byteAt s i<48):=decN _ 48;have e7:decide ((57:Int)<(byteAt s i:Nat))=decide (57<byteAt s i):=decN 57 _;have e8:((i:Int)==0)=(i==0):=z0l i 0
   have hd:z50 (byteAt s i)=(!decide (byteAt s i<48)&& !decide (57<byteAt s i)):=by
    unfold z50;rw[Bool.eq_iff_iff];simp
   have hL:z2C (byteAt s i)=(decide (97≤byteAt s i)&&decide (byteAt s i≤122)||decide (65≤byteAt s i)&&decide (byteAt s i≤90)||byteAt s i==95):=rfl;have hO:okN s i=(z2C (byteAt s i)||(!(i==0)&&z50 (byteAt s i))):=rfl;rw[hO,hL,hd]at hF hJ;generalize decide (97≤byteAt s i)=b1 at *;generalize decide (byteAt s i≤122)=b2 at *;generalize decide (65≤byteAt s i)=b3 at *;generalize decide (byteAt s i≤90)=b4 at *;generalize (byteAt s i==95)=b5 at *;generalize decide (byteAt s i<48)=b6 at *;generalize decide (57<byteAt s i)=b7 at *;generalize (i==0)=b8 at *;clear hL hd hO;simp -implicitDefEqProofs only[mkE,go_sem,q0,u0,z07];cases b1<;>cases b2<;>cases b3<;>cases b4<;>cases b5
   all_goals simp -implicitDefEqProofs only[go_sem,e1,e2,e3,e4,e5,e6,e7,e8,y0]
   all_goals first
    |exact hJ rfl
    |(cases b8<;>cases b6<;>cases b7<;>simp -implicitDefEqProofs only[go_sem,e6,e7,e8,y0]<;>first
     |exact hJ rfl
     |(refine Fini.ret' rfl (z16 ?_);exact(hF rfl).symm))
 · intro hp J;have u0:decide ((s.size:Int)<s.size)=false:=by simp
   have d1:decide ((1:Int)≤s.size)=decide (1≤s.size):=z3B 1 _;have d2:decide ((s.size:Int)≤12)=decide (s.size≤12):=z3B _ 12;have hA:(List.range s.size).all (okN s)=true:=List.all_eq_true.2 fun i hi=>hp i (List.mem_range.1 hi)
   rw[nameD,hA,Bool.true_and]
   cases h1:decide (1≤s.size) with
   |true =>
    rw[h1]at d1;simp -implicitDefEqProofs only[mkE,go_sem,u0,d1,d2];exact Fini.ret rfl
   |false =>
    rw[h1]at d1;simp -implicitDefEqProofs only[mkE,go_sem,u0,d1,d2];exact Fini.ret rfl
theorem zhA (σ:St) (k:Int) (nm v:ByteArray) (hs:nm.size≤100000):Ans Tryz.prog 132 [mat k nm v] σ (Bo (isB k nm v)) σ:=by
 refine Ans.of_run t132 ?_;unfold isB;simp -implicitDefEqProofs only[c132,r132,go_sem];refine CO.intro (z69 σ nm hs) ?_
 cases hn:nameB nm with
 |false =>
  simp -implicitDefEqProofs only[go_sem];exact Fini.ret rfl
 |true =>
 simp -implicitDefEqProofs only[go_sem];refine CO.intro (zdh σ k nm v) ?_
 cases hk:likeB k with
 |true =>
  simp -implicitDefEqProofs only[go_sem];refine CO.intro (zbH v σ) ?_;rw[zdg];have u0:=Rex.rv_eq (z2B v).1;generalize (z2B v).1=x at u0⊢;generalize (z2B v).2=b;rw[u0];rcases Rex.rvK_cases x.ks with e|⟨l,e⟩<;>rw[e]
  all_goals (simp -implicitDefEqProofs only[go_sem];exact Fini.ret rfl)
 |false =>
  have d:decide ((v.size:Int)≤24)=decide (v.size≤24):=z3B v.size 24;simp -implicitDefEqProofs only[go_sem]
  cases h1:k==1 with
  |true =>
   simp -implicitDefEqProofs only[go_sem,d];exact Fini.ret rfl
  |false =>
   simp -implicitDefEqProofs only[go_sem]
   cases h2:k==2 with
   |true =>
    simp -implicitDefEqProofs only[go_sem,d];exact Fini.ret rfl
   |false =>
    simp -implicitDefEqProofs only[go_sem];exact Fini.ret rfl
theorem zbM (σ:St) (x y:Mtr):Ans Tryz.prog 133 [mv3 x,mv3 y] σ (Bo (z3I x y)) σ:=by
 refine Ans.of_run t133 ?_;unfold z3I;simp -implicitDefEqProofs only[c133,r133,go_sem,mv3]
 cases h1:(x.2.1.toList==y.2.1.toList) with
 |false =>
  simp -implicitDefEqProofs only[go_sem];exact Fini.ret rfl
 |true =>
  simp -implicitDefEqProofs only[go_sem]
  cases h2:(x.1==y.1) with
  |false =>
   simp -implicitDefEqProofs only[go_sem,bne,h2];exact Fini.ret rfl
  |true =>
   simp -implicitDefEqProofs only[go_sem,bne,h2];exact Fini.ret rfl
theorem zaE (M:List Mtr) (i:Nat) (h:i<M.length):(mvs3 M)[i]?=some (mv3 M[i]):=by simp[mvs3,h]
theorem z0v (M:List Mtr):(mvs3 M).length=M.length:=List.length_map ..
abbrev noM3:Mtr:=(0,⟨#[]⟩,⟨#[]⟩)
def isM (x:Mtr):Bool:=isB x.1 x.2.1 x.2.2
def okL (M:List Mtr) (i:Nat):Bool:=isM (M.getD i noM3)&&(i==0||z3I (M.getD (i-1) noM3) (M.getD i noM3))
def listB (M:List Mtr):Bool:=decide (M.length≤5)&&(List.range M.length).all (okL M)
theorem zaF (M:List Mtr) (i:Nat) (h:i<M.length):(mvs3 M)[i]?=some (mv3 (M.getD i noM3)):=by
 rw[zaE M i h,List.getD_eq_getElem?_getD,List.getElem?_eq_getElem h];rfl
theorem z1g (σ:St) (M:List Mtr) (hs:∀x∈M,x.2.1.size≤100000):Ans Tryz.prog 105 [.sl 3 (mvs3 M)] σ (Bo (listB M)) σ:=by
 refine Ans.of_run t105 ?_;have d5:decide ((5:Int)<M.length)=decide (5<M.length):=decN 5 _;unfold listB;simp -implicitDefEqProofs only[c105,r105,go_sem,z0v,d5];by_cases hl:M.length≤5
 · rw[decide_eq_true hl,Bool.true_and];have h5:decide (5<M.length)=false:=decide_eq_false (by omega)
   simp -implicitDefEqProofs only[go_sem,h5];refine Go.Ab.L.scan M.length (okL M) (fun i=>mkE 36 [(0,.sl 3 (mvs3 M)),(3,I i)]) (fun _=>σ) ?_ ?_ rfl rfl
   · intro i hi hp J hJ;have hF:okL M i=false→(List.range M.length).all (okL M)=false:=fun h=>List.all_eq_false.2 ⟨i,List.mem_range.2 hi,by simp[h]⟩
     have hx:=zaF M i hi
     have hsz:(M.getD i noM3).2.1.size≤100000:=by
      rw[List.getD_eq_getElem?_getD,List.getElem?_eq_getElem hi];exact hs _ (List.getElem_mem hi)
     have q0:=z0R (n:=i) (by omega)
     have hI:=fun σ=>zhA σ (M.getD i noM3).1 (M.getD i noM3).2.1 (M.getD i noM3).2.2 hsz
     have hO:okL M i=(isB (M.getD i noM3).1 (M.getD i noM3).2.1 (M.getD i noM3).2.2&&(i==0||z3I (M.getD (i-1) noM3) (M.getD i noM3))):=rfl;have d0:decide ((0:Int)<i)=decide (0<i):=decN 0 i;rw[hO]at hJ hF;simp -implicitDefEqProofs only[mkE,go_sem,z0v,z0e hi,dec_lt hi,hx,mv3,z01]
     first|refine CD.intro (hI _) ?_|refine CS.intro hI ?_
     generalize isB (M.getD i noM3).1 (M.getD i noM3).2.1 (M.getD i noM3).2.2=b1 at hJ hF
     cases b1 with
     |false =>
      simp -implicitDefEqProofs only[go_sem];refine Fini.ret' rfl (z16 ?_);rw[hF rfl]
     |true =>
      by_cases hz:i=0
      · subst hz;simp -implicitDefEqProofs only[go_sem,q0,z01,Int.natCast_zero];exact hJ rfl
      · have y0:decide (0<i)=true:=by simp;omega
        have hx1:=zaF M (i-1) (by omega)
        have hB:=fun σ=>zbM σ (M.getD (i-1) noM3) (M.getD i noM3)
        have w1:IntKind.i64.wrap ((i:Int)-1)=((i-1:Nat):Int):=by rw[wrapN (by omega) (by omega)];omega
        have u0:(((i-1:Nat):Int)<M.length)=True:=by simp;omega
        have j0:(i==0)=false:=by simpa using hz
        rw[j0]at hJ hF;simp -implicitDefEqProofs only[go_sem,d0,y0,w1,z0v,z0e hi,dec_lt hi,u0,hx,hx1,z01,mv3]
        first|refine CD.intro (hB _) ?_|refine CS.intro hB ?_
        generalize z3I (M.getD (i-1) noM3) (M.getD i noM3)=b2 at hJ hF
        cases b2 with
        |true =>
         simp -implicitDefEqProofs only[go_sem,q0];exact hJ rfl
        |false =>
         simp -implicitDefEqProofs only[go_sem];refine Fini.ret' rfl (z16 ?_);rw[hF rfl]
   · intro hp J;have hd:decide ((M.length:Int)<M.length)=false:=by simp
     simp -implicitDefEqProofs only[mkE,go_sem,z0v,hd];refine Fini.ret' rfl (z16 ?_);exact(List.all_eq_true.2 fun i hi=>hp i (List.mem_range.1 hi)).symm
 · rw[decide_eq_false hl,Bool.false_and];have h5:decide (5<M.length)=true:=decide_eq_true (by omega)
   simp -implicitDefEqProofs only[go_sem,h5];exact Fini.ret rfl
theorem z0u (n:Nat) (M:List Mtr):Bel n (.sl 3 (mvs3 M)):=by
 refine .sl 3 _ fun i hi=>?_
 have:∀y∈mvs3 M,Bel n y:=by
  intro y hy;simp only[mvs3,List.mem_map]at hy;obtain⟨x,_,rfl⟩:=hy;refine .agg _ fun i hi=>?_
  have:∀y∈([I x.1,Sx x.2.1,Sx x.2.2]:List AV),Bel n y:=by
   intro y hy;simp only[List.mem_cons,List.not_mem_nil,or_false]at hy;rcases hy with rfl|rfl|rfl<;>exact .pl _
  exact this _ (List.getElem_mem hi)
 exact this _ (List.getElem_mem hi)
theorem zgI (n:Nat) (M:List Mtr):Bel n (.sl 3 (mvs3 M))=True:=eq_true (z0u n M)
theorem memM (n:Nat) (k:Int) (a b:ByteArray):∀y∈([I k,Sx a,Sx b]:List AV),Bel n y:=by
 intro y hy;simp only[List.mem_cons,List.not_mem_nil,or_false]at hy;rcases hy with rfl|rfl|rfl<;>exact .pl _
theorem zgJ (n:Nat) (k:Int) (a b:ByteArray):Bel n (.agg [I k,Sx a,Sx b])=True:=eq_true (.agg _ fun i hi=>memM n k a b _ (List.getElem_mem hi))
theorem BL_rp (n:Nat) (k:Int) (a b:ByteArray):Bel n (.rp [I k,Sx a,Sx b])=True:=eq_true (.rp _ fun i hi=>memM n k a b _ (List.getElem_mem hi))
theorem z1R (σ:St) (M:List Mtr):Ans Tryz.prog 143 [.sl 3 (mvs3 M)] σ (Bo (listB M)) σ:=by
 refine Ans.of_run' t143 (fun u0 _=>?_)
 have d5:decide ((5:Int)<M.length)=decide (5<M.length):=decN 5 _;have m0:(∀o∈σ,BelO σ.length o)=True:=eq_true u0;unfold listB;simp -implicitDefEqProofs only[c143,r143,go_sem,z0v,d5];by_cases hl:M.length≤5
 · rw[decide_eq_true hl,Bool.true_and];have h5:decide (5<M.length)=false:=decide_eq_false (by omega)
   simp -implicitDefEqProofs only[go_sem,h5,z0v];refine Go.Ab.L.scan M.length (okL M) (fun i=>mkE 33 [(0,.sl 3 (mvs3 M)),(8,.sl 3 (mvs3 M)),(9,I M.length),(10,I i)]) (fun _=>σ) ?_ ?_ rfl rfl
   · intro i hi hp J hJ;have k0:∀x:Ob,(σ++[x]).take σ.length=σ:=fun x=>List.take_left' rfl
     have hF:okL M i=false→(List.range M.length).all (okL M)=false:=fun h=>List.all_eq_false.2 ⟨i,List.mem_range.2 hi,by simp[h]⟩
     have hx:=zaF M i hi;have n0:=z0R (n:=i) (by omega)
     have hI:=fun σ=>ziR σ (M.getD i noM3).1 (M.getD i noM3).2.1 (M.getD i noM3).2.2
     have hO:okL M i=(isB (M.getD i noM3).1 (M.getD i noM3).2.1 (M.getD i noM3).2.2&&(i==0||z3I (M.getD (i-1) noM3) (M.getD i noM3))):=rfl;have d0:decide ((0:Int)<i)=decide (0<i):=decN 0 i;rw[hO]at hJ hF;simp -implicitDefEqProofs only[mkE,go_sem,z0v,z0e hi,dec_lt hi,hx,mv3,z01,g0,s0,List.drop_nil]
     first|refine CD.intro (hI _) ?_|refine CS.intro hI ?_
     generalize isB (M.getD i noM3).1 (M.getD i noM3).2.1 (M.getD i noM3).2.2=b1 at hJ hF
     cases b1 with
     |false =>
      simp -implicitDefEqProofs only[go_sem,z01,g0,s0];rw[hF rfl];exact Fini.trim2 (σ':=σ) rfl rfl (Nat.le_refl _) (.pl _) u0
     |true =>
      by_cases hz:i=0
      · subst hz;have j0:=hJ rfl;simp -implicitDefEqProofs only[go_sem,n0,z01,g0,s0,Int.natCast_zero,B_pl,B_any,z2y,B_tup,B_osl,B_ptr,B_sl0,zgI,zgJ,BL_rp,k0,Nat.add_zero,m0,List.length_append];exact⟨by omega,j0⟩
      · have q0:decide (0<i)=true:=by simp;omega
        have hx1:=zaF M (i-1) (by omega)
        have hB:=fun σ=>z9D σ (M.getD (i-1) noM3) (M.getD i noM3)
        have hc:=z9E (M.getD (i-1) noM3) (M.getD i noM3);have w1:IntKind.i64.wrap ((i:Int)-1)=((i-1:Nat):Int):=by rw[wrapN (by omega) (by omega)];omega
        have y0:(((i-1:Nat):Int)<M.length)=True:=by simp;omega
        have r0:(i==0)=false:=by simpa using hz
        rw[r0]at hJ hF;simp -implicitDefEqProofs only[go_sem,d0,q0,w1,z0v,z0e hi,dec_lt hi,y0,hx,hx1,z01,mv3,g0,s0]
        first|refine CD.intro (hB _) ?_|refine CS.intro hB ?_
        generalize z3I (M.getD (i-1) noM3) (M.getD i noM3)=b2 at hJ hF hc;generalize cmp3 (M.getD (i-1) noM3) (M.getD i noM3)=cc at hc
        cases b2 with
        |true =>
         have j0:=hJ rfl;simp -implicitDefEqProofs only[go_sem,hc,n0,g0,s0,B_pl,B_any,z2y,B_tup,B_osl,B_ptr,B_sl0,zgI,zgJ,BL_rp,k0,Nat.add_zero,m0,List.length_append,Bool.not_true];exact⟨by omega,j0⟩
        |false =>
         simp -implicitDefEqProofs only[go_sem,hc,Bool.not_false,g0,s0];rw[hF rfl];exact Fini.trim2 (σ':=σ) rfl rfl (Nat.le_refl _) (.pl _) u0
   · intro hp J;have hd:decide ((M.length:Int)<M.length)=false:=by simp
     simp -implicitDefEqProofs only[mkE,go_sem,z0v,hd];refine Fini.ret' rfl (z16 ?_);exact(List.all_eq_true.2 fun i hi=>hp i (List.mem_range.1 hi)).symm
 · rw[decide_eq_false hl,Bool.false_and];have h5:decide (5<M.length)=true:=decide_eq_true (by omega)
   simp -implicitDefEqProofs only[go_sem,h5];exact Fini.ret rfl
open Go.Cod
abbrev Fl (n:Nat):AV:=.pl (.float .f64 n)
structure RuM where
 src:List Mtr
 tgt:List Mtr
 any:Bool
 lo:Nat
 hi:Nat
 eq:List ByteArray
def txs (l:List ByteArray):List AV:=l.map fun s=>Sx s
def ruV (r:RuM):AV:=.agg [.sl 3 (mvs3 r.src),.sl 3 (mvs3 r.tgt),Bo r.any,Fl r.lo,Fl r.hi,.sl 1 (txs r.eq)]
theorem z0M (l:List ByteArray):(txs l).length=l.length:=List.length_map ..
theorem zdi (l:List ByteArray) (i:Nat) (h:i<l.length):(txs l)[i]?=some (Sx l[i]):=by simp[txs,h]
theorem txs_D (l:List ByteArray) (i:Nat) (h:i<l.length):(txs l)[i]?=some (Sx (l.getD i ⟨#[]⟩)):=by
 rw[zdi l i h,List.getD_eq_getElem?_getD,List.getElem?_eq_getElem h];rfl
def leF (a b:Nat):Bool:=FloatKind.f64.format.order a b==some .lt||FloatKind.f64.format.order a b==some .eq
theorem zdj (a b:Nat):(FloatKind.f64.format.order a b==some .lt||FloatKind.f64.format.order a b==some .eq)=leF a b:=rfl
def nanF (a:Nat):Bool:=FloatKind.f64.format.order a a != some .eq
theorem z5j (a:Nat):(FloatKind.f64.format.order a a != some .eq)=nanF a:=rfl
def bitsF (a:Nat):Nat:=if nanF a then 9221120237041090561 else a
def mayB (any:Bool) (lo hi:Nat):Bool:=if any then(((bitsF lo:Nat):Int)==0)&&(((bitsF hi:Nat):Int)==0) else leF lo hi
def eqOk (e:List ByteArray) (i:Nat):Bool:=nameB (e.getD i ⟨#[]⟩)&& !(decide (0<i)&&leS (e.getD i ⟨#[]⟩) (e.getD (i-1) ⟨#[]⟩))
def eqB (e:List ByteArray):Bool:=decide (e.length≤4)&&(List.range e.length).all (eqOk e)
def ruIs (r:RuM):Bool:=!(((r.src.length:Nat):Int)==0)&&(!(((r.tgt.length:Nat):Int)==0)&&(listB r.src&&(listB r.tgt&&(mayB r.any r.lo r.hi&&eqB r.eq))))
section
variable (σ:St)
theorem ziU (a:Nat):Ans Tryz.prog 159 [Fl a] σ (Bo (nanF a)) σ:=by
 refine Ans.of_run t159 ?_;simp -implicitDefEqProofs only[c159,r159,go_sem,z5j];exact Fini.ret rfl
theorem z6b (a:Nat):Ans Tryz.prog 111 [Fl a] σ (UN a) σ:=ext_bits.ok _ _ _ _ rfl
theorem z5k (a:Nat):Ans Tryz.prog 149 [Fl a] σ (UN (bitsF a)) σ:=by
 refine Ans.of_run t149 ?_;simp -implicitDefEqProofs only[c149,r149,go_sem];refine CO.intro (ziU σ a) ?_;unfold bitsF
 cases nanF a with
 |true =>
  simp -implicitDefEqProofs only[go_sem];exact Fini.ret rfl
 |false =>
  simp -implicitDefEqProofs only[go_sem];refine CO.intro (z6b σ a) ?_;simp -implicitDefEqProofs only[go_sem];exact Fini.ret rfl
theorem z22 (any:Bool) (lo hi:Nat):Ans Tryz.prog 145 [.agg [Bo any,Fl lo,Fl hi]] σ (Bo (mayB any lo hi)) σ:=by
 refine Ans.of_run t145 ?_;unfold mayB
 cases any with
 |true =>
  simp -implicitDefEqProofs only[c145,r145,go_sem];refine CO.intro (z5k σ lo) ?_
  cases h:(((bitsF lo:Nat):Int)==0) with
  |false =>
   simp -implicitDefEqProofs only[go_sem,h];exact Fini.ret rfl
  |true =>
   simp -implicitDefEqProofs only[go_sem,h];refine CO.intro (z5k σ hi) ?_;simp -implicitDefEqProofs only[go_sem,h];exact Fini.ret rfl
 |false =>
  simp -implicitDefEqProofs only[c145,r145,go_sem,zdj];exact Fini.ret rfl
theorem z28 (r:RuM):Ans Tryz.prog 146 [ruV r] σ (Bo (ruIs r)) σ:=by
 obtain⟨src,y0,any,lo,hi,eq⟩:=r;have d4:decide ((4:Int)<eq.length)=decide (4<eq.length):=decNN 4 _;refine Ans.of_run t146 ?_;unfold ruIs ruV;simp only
 cases h1:(((src.length:Nat):Int)==0) with
 |true =>
  simp -implicitDefEqProofs only[c146,r146,go_sem,z0v,h1];exact Fini.ret rfl
 |false =>
 cases h2:(((y0.length:Nat):Int)==0) with
 |true =>
  simp -implicitDefEqProofs only[c146,r146,go_sem,z0v,h1,h2];exact Fini.ret rfl
 |false =>
 simp -implicitDefEqProofs only[c146,r146,go_sem,z0v,h1,h2];refine CO.intro (z1R σ src) ?_
 cases h3:listB src with
 |false =>
  simp -implicitDefEqProofs only[go_sem];exact Fini.ret rfl
 |true =>
 simp -implicitDefEqProofs only[go_sem];refine CO.intro (z1R σ y0) ?_
 cases h4:listB y0 with
 |false =>
  simp -implicitDefEqProofs only[go_sem];exact Fini.ret rfl
 |true =>
 simp -implicitDefEqProofs only[go_sem];refine CO.intro (z22 σ any lo hi) ?_
 cases h5:mayB any lo hi with
 |false =>
  simp -implicitDefEqProofs only[go_sem];exact Fini.ret rfl
 |true =>
 unfold eqB;by_cases h6:eq.length≤4
 · have x4:decide (4<eq.length)=false:=decide_eq_false (by omega)
   rw[decide_eq_true h6];simp -implicitDefEqProofs only[go_sem,z0M,d4,x4];refine Go.Ab.L.scan eq.length (eqOk eq) (fun i=>mkE 65 [(1,.rp [.sl 3 (mvs3 src),.sl 3 (mvs3 y0),Bo any,Fl lo,Fl hi,.sl 1 (txs eq)]),(40,.sl 1 (txs eq)),(41,I eq.length),(42,I i)]) (fun _=>σ) ?_ ?_ rfl rfl
   · intro i hi hp J hJ;have hx:=txs_D eq i hi;have hF:eqOk eq i=false→(List.range eq.length).all (eqOk eq)=false:=fun h=>List.all_eq_false.2 ⟨i,List.mem_range.2 hi,by rw[h];decide⟩
     have k0:=wrap_succ (i:=i) (by omega)
     have d0:decide ((0:Int)<i)=decide (0<i):=by rw[Bool.eq_iff_iff];simp
     have hO:eqOk eq i=(nameB (eq.getD i ⟨#[]⟩)&& !(decide (0<i)&&leS (eq.getD i ⟨#[]⟩) (eq.getD (i-1) ⟨#[]⟩))):=rfl;rw[hO]at hJ hF;simp -implicitDefEqProofs only[mkE,go_sem,z0M,z0e hi,dec_lt hi,hx];refine CO.intro (z5Y σ _) ?_;generalize eq.getD i ⟨#[]⟩=s at hJ hF hx
     cases hb:nameB s with
     |false =>
      rw[hb]at hF;rw[hF rfl];simp -implicitDefEqProofs only[go_sem];exact Fini.ret rfl
     |true =>
      rw[hb]at hJ hF;by_cases hz:i=0
      · subst hz;have j0:=hJ rfl;simp -implicitDefEqProofs only[go_sem,d0,k0];exact j0
      · have u0:decide (0<i)=true:=decide_eq_true (by omega)
        have hx1:=txs_D eq (i-1) (by omega)
        have w1:IntKind.i64.wrap ((i:Int)-1)=((i-1:Nat):Int):=by rw[wrapN (by omega) (by omega)];omega
        have q0:(((i-1:Nat):Int)<eq.length)=True:=by simp;omega
        rw[u0]at hJ hF;generalize eq.getD (i-1) ⟨#[]⟩=s1 at hJ hF hx1;have hle:(Op.bytesLess s.toList s1.toList||s.toList==s1.toList)=leS s s1:=rfl;simp -implicitDefEqProofs only[go_sem,d0,u0,w1,z0M,q0,hx1,hle]
        cases h7:leS s s1 with
        |true =>
         rw[h7]at hF;rw[hF rfl];simp -implicitDefEqProofs only[go_sem];exact Fini.ret rfl
        |false =>
         rw[h7]at hJ;have j0:=hJ rfl;simp -implicitDefEqProofs only[go_sem,k0];exact j0
   · intro hp J;have hd:decide ((eq.length:Int)<eq.length)=false:=by simp
     simp -implicitDefEqProofs only[mkE,go_sem,z0M,hd];refine Fini.ret' rfl (z16 ?_);exact(List.all_eq_true.2 fun i hi=>hp i (List.mem_range.1 hi)).symm
 · have x4:decide (4<eq.length)=true:=decide_eq_true (by omega)
   rw[decide_eq_false h6];simp -implicitDefEqProofs only[go_sem,z0M,d4,x4];exact Fini.ret rfl
end
def mkM (x:UInt8×ByteArray×ByteArray):Mtr:=((x.1.toNat:Int),x.2.1,x.2.2)
def mtrR:Rd Mtr:=z1K (seqR byteR (seqR (textR 12) (textR 40))) mkM
def listR:Rd (List Mtr):=onlyR (rowR 5 mtrR) listB
def putM (x:Mtr):Byt:=x.1.toNat.toUInt8::(txtB x.2.1++txtB x.2.2)
def putL (M:List Mtr):Byt:=z2x putM M
theorem zaI:EndsR mtrR:=z1l (z1s ends_byte (z1s (z1X 12) (z1X 40))) _
theorem ends_list:EndsR listR:=z8p (zf5 zaI 5) _
theorem zfo:Fits mtrR putM (fun x=>0≤x.1∧x.1<256∧x.2.1.size≤12∧x.2.2.size≤40):=by
 refine dress_fits (z0N byte_fits (z0N (z1w (by decide)) (z1w (by decide)))) (g:=fun x=>(x.1.toNat.toUInt8,x.2.1,x.2.2)) ?_ ?_
 · rintro⟨c,n,v⟩ ⟨_,h1,h2⟩;have:=c.toNat_lt;refine⟨⟨by simp only[mkM];omega,by simp only[mkM];omega,h1,h2⟩,?_⟩
   simp only[putM,mkM,Int.toNat_natCast,toUInt8_toNat];rfl
 · rintro⟨k,n,v⟩ ⟨h0,h1,h2,h3⟩;refine⟨⟨trivial,h2,h3⟩,?_⟩;simp only at h0 h1;have:(k.toNat.toUInt8.toNat:Int)=k:=by rw[toNat_toUInt8 (by omega)];omega
   simp only[mkM,this]
theorem z9I {s:ByteArray} (h:(z2B s).2=true):s.size≤40:=by
 unfold z2B at h;rcases Nat.lt_or_ge 40 s.size with h40|h40
 · exfalso
   have:=(zaw s 8 0 true).2 rfl;simp[h40,this]at h
 · exact h40
theorem zaJ {k:Int} {nm v:ByteArray} (h:isB k nm v=true):(1≤k∧k≤4)∧nm.size≤12∧v.size≤40:=by
 unfold isB nameB at h;simp only[Bool.and_eq_true,decide_eq_true_eq]at h;obtain⟨⟨⟨⟨_,hn⟩,_⟩,_⟩,h2⟩:=h;split at h2
 · rename_i hl;unfold likeB at hl;simp only[Bool.or_eq_true,beq_iff_eq]at hl;exact⟨by omega,hn,z9I h2⟩
 · simp only[Bool.and_eq_true,Bool.or_eq_true,beq_iff_eq,decide_eq_true_eq]at h2;exact⟨by omega,hn,by omega⟩
theorem z3c:Fits listR putL (fun M=>listB M=true):=by
 refine(z3F (z7m (by decide) zfo) listB).weaken fun M=>⟨fun h=>h.2,fun h=>⟨?_,h⟩⟩
 unfold listB at h;simp only[Bool.and_eq_true,decide_eq_true_eq]at h;refine⟨h.1,fun x hx=>?_⟩
 obtain⟨i,hi,rfl⟩:=List.getElem_of_mem hx;have h2:=List.all_eq_true.1 h.2 i (List.mem_range.2 hi);unfold okL isM at h2;simp only[Bool.and_eq_true]at h2;have e:M.getD i noM3=M[i]:=by rw[List.getD_eq_getElem?_getD,List.getElem?_eq_getElem hi];rfl
 rw[e]at h2;have:=zaJ h2.1;omega
def mtrS (b:Byt) (q:Nat×Bool):Mtr×(Nat×Bool):=z1W (seqSt (runR byteR 0 b) (seqSt (runR (textR 12) ⟨#[]⟩ b) (runR (textR 40) ⟨#[]⟩ b))) mkM q
theorem z6c (b:Byt):StepsR b mtrR (mtrS b):=z0W (z0C (z0i b byteR 0) (z0C (z0i b _ _) (z0i b _ _) (z1X 12)) ends_byte) _
def listS (b:Byt):Nat×Bool→List Mtr×(Nat×Bool):=z0P (rowSt 5 b (mtrS b)) listB
theorem zbN (b:Byt):StepsR b listR (listS b):=z1d (z5P (z6c b) zaI 5) _
def readV {α:Type} (r:Option (α×Byt)) (b:Byt) (enc:α→AV) (none_:AV):AV:=match r with
 |some p=>.tup [enc p.1,I (b.length-p.2.length:Nat),Bo true]
 |none=>.tup [none_,I 0,Bo false]
theorem z2F {most:Nat} (b:Byt) (q:Nat×Bool):(runR (numR most) 0 b q).1≤most:=by
 unfold runR;split
 · exact Nat.zero_le _
 · split
   · exact Nat.zero_le _
   · rename_i p h;simp only[numR]at h
     cases hg:getN 0 (b.drop q.1) with
     |none=>simp[hg]at h
     |some x =>
      simp only[hg,Option.bind_some]at h;split at h
      · simp only[Option.some.injEq]at h;rw[←h];assumption
      · cases h
theorem zdk (M:List Mtr) (x:Mtr):mvs3 M++[mv3 x]=mvs3 (M++[x]):=by simp[mvs3]
theorem z1u {n:Nat} {x:AV} {i:Int} {c:Bool} (h:Bel n x):Bel n (.tup [x,I i,Bo c]):=.tup _ fun j hj=>by
 have:∀y∈([x,I i,Bo c]:List AV),Bel n y:=by
  intro y hy;simp only[List.mem_cons,List.not_mem_nil,or_false]at hy;rcases hy with rfl|rfl|rfl
  · exact h
  · exact .pl _
  · exact .pl _
 exact this _ (List.getElem_mem hj)
theorem zbO (σ:St) (b:Byt) (hb:b.length≤50000):Ans Tryz.prog 122 [.sl 1 (byv b)] σ (readV (listR b) b (fun M=>.sl 3 (mvs3 M)) .nils) σ:=by
 have hS:=(zbN b).top;refine Ans.of_run' t122 (fun k0 _=>?_)
 simp -implicitDefEqProofs only[c122,r122,go_sem];refine CO.intro (new_ans σ b) ?_;simp -implicitDefEqProofs only[go_sem,List.append_assoc,List.length_append];generalize m0:runR (numR 5) 0 b (0,false)=q1;have q0:Inb b (0,false):=Nat.zero_le _;have hn:=z21 (σ++[rob b (0,false),.row 3 []]) σ.length b (0,false) 5 (by decide) (g0 _ _ _) q0 hb
 rw[m0,s0]at hn;refine CO.intro hn ?_;have hn5:q1.1≤5:=by rw[←m0];exact z2F b _
 have j0:Inb b q1.2:=by rw[←m0];exact z0h _ _ _ _ q0
 simp -implicitDefEqProofs only[go_sem];refine Go.Ab.L.count q1.1 (fun i=>mkE 40 [(5,.ptr σ.length 0),(6,.osl (σ.length+1) i),(12,UN q1.1),(13,UN i)]) (fun i=>σ++[rob b (itSt (mtrS b) q1.2 i).2,.row 3 (mvs3 (itSt (mtrS b) q1.2 i).1)]) ?_ ?_ rfl rfl
 · intro i hi J hJ;have u0:=z2n (z6c b).inb q1.2 j0 i;have hlen:=z3j (mtrS b) q1.2 i;simp only[itSt]at hJ;generalize itSt (mtrS b) q1.2 i=c at hJ u0 hlen⊢;obtain⟨l,q⟩:=c;simp only at hJ u0 hlen⊢;have d0:decide ((i:Int)<q1.1)=true:=dec_lt hi;have w0:=z1q (n:=i+1) (by omega)
   have e0:((i:Int)+1)=((i+1:Nat):Int):=rfl;unfold mtrS z1W seqSt at hJ;simp only at hJ;simp -implicitDefEqProofs only[mkE,go_sem,d0];have h1:=z1e (σ++[rob b q,.row 3 (mvs3 l)]) σ.length b q (g0 _ _ _) u0 hb;have n0:=z0h byteR 0 b q u0;generalize runR byteR 0 b q=r1 at h1 n0 hJ;rw[s0]at h1;refine CO.intro h1 ?_;have h2:=z2L (σ++[rob b r1.2,.row 3 (mvs3 l)]) σ.length b r1.2 12 (by decide) (g0 _ _ _) n0 hb
   have r0:=z0h (textR 12) ⟨#[]⟩ b r1.2 n0;generalize runR (textR 12) ⟨#[]⟩ b r1.2=r2 at h2 r0 hJ;rw[s0]at h2;simp -implicitDefEqProofs only[go_sem,bc];refine CO.intro h2 ?_;have h3:=z2L (σ++[rob b r2.2,.row 3 (mvs3 l)]) σ.length b r2.2 40 (by decide) (g0 _ _ _) r0 hb
   generalize runR (textR 40) ⟨#[]⟩ b r2.2=r3 at h3 hJ;rw[s0]at h3;simp -implicitDefEqProofs only[go_sem];refine CO.intro h3 ?_;have hl:(mvs3 l).length=i:=by rw[z0v,hlen]
   have hw:IntKind.i64.wrap (r1.1.toNat:Int)=(r1.1.toNat:Int):=wrapI (by have:=r1.1.toNat_lt;omega)
   have hle:i+1≤4294967296:=by omega
   have f0:=zdk l (mkM (r1.1,r2.1,r3.1));simp -implicitDefEqProofs only[go_sem,hw,g1,s1,hl,hle,List.length_singleton,e0,w0];rw[←f0]at hJ;exact hJ
 · intro J;have u0:=z2n (z6c b).inb q1.2 j0 q1.1;have hlen:=z3j (mtrS b) q1.2 q1.1
   have hL:listS b (0,false)=((itSt (mtrS b) q1.2 q1.1).1,took (itSt (mtrS b) q1.2 q1.1).2 0 (listB (itSt (mtrS b) q1.2 q1.1).1)):=by
    unfold listS z0P rowSt;rw[m0]
   rw[hL]at hS;generalize itSt (mtrS b) q1.2 q1.1=c at hS u0 hlen⊢;obtain⟨l,q⟩:=c;simp only at hS u0 hlen⊢;have hl:(mvs3 l).length=q1.1:=by rw[z0v,hlen]
   have d0:decide ((q1.1:Int)<q1.1)=false:=by simp
   simp -implicitDefEqProofs only[mkE,go_sem,d0,g1,s1,hl];refine CO.intro (z1R _ l) ?_;have h2:=z0d (σ++[rob b q,.dead]) σ.length b q (listB l) (g0 _ _ _) u0 hb;rw[s0]at h2;simp -implicitDefEqProofs only[go_sem];refine CO.intro h2 ?_;have h3:=z2z (σ++[rob b (took q 0 (listB l)),.dead]) σ.length b (took q 0 (listB l)) (g0 _ _ _);simp -implicitDefEqProofs only[go_sem];refine CO.intro h3 ?_;have t0:Bel σ.length (.sl 3 (mvs3 l)):=z0u _ _
   cases hr:listR b with
   |none =>
    have y0:=hS.2 hr;rw[y0];simp -implicitDefEqProofs only[go_sem];exact Fini.trim2 (σ':=σ) rfl rfl (Nat.le_refl _) (by unfold readV;exact z1u .nils) k0
   |some p =>
    obtain⟨M,t⟩:=p;have y0:=hS.1 M t hr;simp only[Prod.mk.injEq]at y0;obtain⟨rfl,y0⟩:=y0;rw[y0];simp -implicitDefEqProofs only[go_sem];refine Fini.trim2 (σ':=σ) rfl rfl (Nat.le_refl _) ?_ k0;unfold readV;exact z1u t0
theorem z8D (σ:St) (b:Byt) (hb:b.length≤50000):Ans Tryz.prog 122 [.sl 1 (byv b)] σ (readV (listR b) b (fun M=>.sl 3 (mvs3 M)) (.sl 3 [])) σ:=by
 refine(zbO σ b hb).subR ?_;unfold readV
 cases listR b with
 |none=>exact .tup (.cons (.nils 3) (.refl _))
 |some p=>exact .refl _
theorem zhB (n:Nat):((n:Int).tmod 128)=((n%128:Nat):Int):=rfl
theorem zhC (n:Nat):((n:Int).tdiv 128)=((n/128:Nat):Int):=rfl
theorem ziV (n:Nat):IntKind.u8.wrap (((n%128%256:Nat):Int)+128)=((n%128+128:Nat):Int):=by
 have:(((n%128%256:Nat):Int)+128)=((n%128%256+128:Nat):Int):=by push_cast;rfl
 rw[this,z5L];congr 1;omega
section
variable (σ:St)
theorem z5l (n:Nat) (hn:n<18446744073709551616):Ans Tryz.prog 52 [UN n] σ (.osl σ.length (putN n).length) (σ++[.row 1 (byv (putN n))]):=by
 have y0:=z0n hn;refine Ans.of_run t52 ?_;simp -implicitDefEqProofs only[c52,r52,go_sem];refine Go.Ab.L.intro (α:={ p:Nat×Byt // p.1<18446744073709551616∧p.2++putN p.1=putN n }) (fun p=>p.1.1) (fun p=>mkE 20 [(0,UN p.1.1),(3,.osl σ.length p.1.2.length)]) (fun p=>σ++[.row 1 (byv p.1.2)]) ?_ ⟨(n,[]),hn,rfl⟩ rfl rfl
 rintro⟨⟨m,pre⟩,hm,hp⟩ J hJ;have hl:pre.length+(putN m).length≤10:=by rw[←List.length_append,hp];exact y0
 have hw:=z1q hm;have hle:pre.length+1≤2^32:=by omega
 by_cases h:m<128
 · have d1:decide ((128:Int)≤m)=false:=by simp;omega
   have d2:IntKind.u8.wrap (m:Int)=m:=by rw[z5L];congr 1;omega
   simp -implicitDefEqProofs only[mkE,go_sem,d1,row1,z05,List.length_singleton,hle,d2];refine Fini.ret3 (n:=0) rfl ?_ ?_
   · show AV.osl σ.length (pre.length+1)=AV.osl σ.length (putN n).length;rw[←hp,z2w h];simp
   · rw[List.set_append_right _ _ (Nat.le_refl _)];simp only[Nat.sub_self,List.set_cons_zero];rw[←hp,z0t,z2w h,bc_of (show m<256 by omega)]
     rfl
 · have d1:decide ((128:Int)≤m)=true:=by simp;omega
   simp -implicitDefEqProofs only[mkE,go_sem,d1,row1,z05,List.length_singleton,hle,zhB,z5L (n:=m%128),ziV,zhC,z1q (show m/128<18446744073709551616 by omega)]
   rw[List.set_append_right _ _ (Nat.le_refl _)];simp only[Nat.sub_self,List.set_cons_zero]
   have u0:=hJ ⟨(m/128,pre++[(m%128+128).toUInt8]),by simp only;omega,by
    rw[←hp];simp only[List.append_assoc,List.singleton_append];rw[z4L h]⟩ (by simp only;omega)
   simp only[z0t,List.length_append,List.length_singleton]at u0;rw[bc_of (show m%128+128<256 by omega)]
   exact u0
theorem z1S (s:ByteArray) (hs:s.size≤4294967280):Ans Tryz.prog 53 [Sx s] σ (.sl 1 (byv (txtB s))) σ:=by
 have h10:=z0n (n:=s.size) (by omega)
 have hsz:=z1k s;have hw:=z1q (n:=s.size) (by omega)
 have hle:(putN s.size).length+s.size≤2^32:=by omega
 refine Ans.of_run' t53 (fun u0 _=>?_)
 simp -implicitDefEqProofs only[c53,r53,go_sem,hw];refine CO.intro (z5l σ s.size (by omega)) ?_
 simp -implicitDefEqProofs only[go_sem,zap,row1,z05,hsz,hle];simp -implicitDefEqProofs only[go_sem,g0,s0,z05,hsz,←z0t,List.length_append];exact Fini.trim2 (σ':=σ) (by show _=some (AV.sl 1 (byv (txtB s)));rfl) rfl (Nat.le_refl _) (z1j _ _) u0
end
theorem z1B (s:ByteArray) (h:s.size≤1000000):(txtB s).length≤10+s.size:=by
 have h10:=z0n (n:=s.size) (by omega)
 rw[txtB,List.length_append,z1k];omega
theorem z3p {M:List Mtr} (h:listB M=true):M.length≤5∧∀x∈M,(1≤x.1∧x.1≤4)∧x.2.1.size≤12∧x.2.2.size≤40:=by
 unfold listB at h;simp only[Bool.and_eq_true,decide_eq_true_eq]at h;refine⟨h.1,fun x hx=>?_⟩
 obtain⟨i,hi,rfl⟩:=List.getElem_of_mem hx;have h2:=List.all_eq_true.1 h.2 i (List.mem_range.2 hi);unfold okL isM at h2;simp only[Bool.and_eq_true]at h2;have e:M.getD i noM3=M[i]:=by rw[List.getD_eq_getElem?_getD,List.getElem?_eq_getElem hi];rfl
 rw[e]at h2;exact zaJ h2.1
def preL (M:List Mtr) (i:Nat):Byt:=putN M.length++z17 putM (M.take i)
theorem z8E (M:List Mtr) (i:Nat) (h:i<M.length):preL M (i+1)=preL M i++putM M[i]:=by
 unfold preL z17;rw[List.take_succ_eq_append_getElem h,List.flatMap_append,List.append_assoc];simp
theorem z7x (M:List Mtr):preL M M.length=putL M:=by unfold preL putL z2x;rw[List.take_length]
theorem z7y {M:List Mtr} (h:listB M=true):∀i,i≤M.length→(preL M i).length≤10+100*i
 |0,_=>by
  have:=(z3p h).1;unfold preL z17;simp only[List.take_zero,List.flatMap_nil,List.append_nil];have:=z0n (n:=M.length) (by omega)
  omega
 |i+1,hi=>by
  have ih:=z7y h i (by omega)
  have hx:=(z3p h).2 M[i] (List.getElem_mem (by omega))
  have h1:=z1B (M[i]).2.1 (by omega)
  have h2:=z1B (M[i]).2.2 (by omega)
  rw[z8E M i (by omega),List.length_append]
  unfold putM;simp only[List.length_cons,List.length_append];omega
def z0Y (M:List Mtr):Byt:=if listB M then putL M else[]
theorem zhD {k:Int} (h:1≤k∧k≤4):IntKind.u8.wrap k=((k.toNat.toUInt8.toNat:Nat):Int):=by
 obtain⟨n,rfl⟩:=Int.eq_ofNat_of_zero_le (show 0≤k by omega)
 have:n<256:=by omega
 rw[z5L,Nat.mod_eq_of_lt this,Int.toNat_natCast,toNat_toUInt8 this]
section
variable (σ:St)
theorem z73 (M:List Mtr) (hs:∀x∈M,x.2.1.size≤100000) (hL:listB M=true):Ans Tryz.prog 78 [.sl 3 (mvs3 M)] σ (.osl σ.length (putL M).length) (σ++[.row 1 (byv (putL M))]):=by
 obtain⟨h5,hM⟩:=z3p hL;have q0:=z7y hL;have hw:=z1q (n:=M.length) (by omega)
 have y0:preL M 0=putN M.length:=by simp[preL,z17]
 refine Ans.of_run' t78 (fun m0 _=>?_)
 simp -implicitDefEqProofs only[c78,r78,go_sem];refine CO.intro (z1g σ M hs) ?_;rw[hL];simp -implicitDefEqProofs only[go_sem,z0v,hw];refine CO.intro (z5l σ M.length (by omega)) ?_
 simp -implicitDefEqProofs only[go_sem,z0v];refine Go.Ab.L.count M.length (fun i=>mkE 43 [(0,.sl 3 (mvs3 M)),(3,.osl σ.length (preL M i).length),(4,I i)]) (fun i=>σ++[.row 1 (byv (preL M i))]) ?_ ?_ (by rw[y0];rfl) (by rw[y0])
 · intro i hi J hJ;have hx:=zaE M i hi;have u0:=hM M[i] (List.getElem_mem hi);have hp:=q0 (i+1) (by omega)
   rw[z8E M i hi]at hJ hp;generalize M[i]=x at hx u0 hJ hp;obtain⟨k,nm,v⟩:=x;simp only at u0;generalize preL M i=pre at hJ hp⊢;have k0:=zhD u0.1;have j0:=wrap_succ (i:=i) (by omega)
   have h1:=z1B nm (by omega)
   have h2:=z1B v (by omega)
   unfold putM at hJ hp;simp only[List.length_append,List.length_cons]at hp;have l1:pre.length+1≤4294967296:=by omega
   have l2:pre.length+1+(txtB nm).length≤4294967296:=by omega
   have l3:pre.length+1+(txtB nm).length+(txtB v).length≤4294967296:=by omega
   simp -implicitDefEqProofs only[mkE,go_sem,z0v,z0e hi,dec_lt hi,hx,mv3,k0,g0,s0,z05,l1,List.length_singleton];refine CD.intro (z1S _ nm (by omega)) ?_
   simp -implicitDefEqProofs only[go_sem,z0v,z0e hi,hx,mv3,g0,s0,z05,z0q,bc,l1,l2,List.length_append,List.length_singleton];refine CD.intro (z1S _ v (by omega)) ?_
   simp -implicitDefEqProofs only[go_sem,g0,s0,z05,z0q,bc,l1,l2,l3,List.length_append,List.length_singleton,j0];have e:pre++k.toNat.toUInt8::(txtB nm++txtB v)=pre++[k.toNat.toUInt8]++txtB nm++txtB v:=by simp
   simp only at hJ;rw[e]at hJ;simp only[z0t,List.length_append,List.length_singleton]at hJ;exact hJ
 · intro J;have d0:decide ((M.length:Int)<M.length)=false:=by simp
   simp -implicitDefEqProofs only[mkE,go_sem,d0,z0v,g0,s0,z05];exact Fini.ret3 (n:=0) rfl (by rw[z7x];rfl) (by rw[z7x])
theorem z74 (M:List Mtr) (hs:∀x∈M,x.2.1.size≤100000):Ans Tryz.prog 78 [.sl 3 (mvs3 M)] σ (.sl 1 (byv (z0Y M))) σ:=by
 unfold z0Y
 cases hL:listB M with
 |false =>
  have:Ans Tryz.prog 78 [.sl 3 (mvs3 M)] σ .nils σ:=by
   refine Ans.of_run t78 ?_;simp -implicitDefEqProofs only[c78,r78,go_sem];refine CO.intro (z1g σ M hs) ?_;rw[hL];simp -implicitDefEqProofs only[go_sem];exact Fini.ret rfl
  exact this.subR (.nils 1)
 |true=>exact(z73 σ M hs hL).shut (by rw[z05]) (z1j _ _)
end
end Go.Proofs.YteakobbdgehlgaaGreatDoor
