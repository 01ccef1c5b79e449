/- Any lists of matchers: how two are compared. No condition. -/
import Derived.Test.YteakobbdgehlgaaDoorVKXCmpV
import Derived.Laws.Strings
import Derived.Test.YteakobbdgehlgaaDoorVMRunV
import Derived.Test.YteakobbdgehlgaaDoorVMCode1V
import Derived.Test.YteakobbdgehlgaaDoorRows
import Derived.Test.YteakobbdgehlgaaDoorAbArgV
set_option linter.unusedSimpArgs false
set_option linter.unusedVariables false
set_option linter.unusedSectionVars false
set_option maxRecDepth 100000
set_option maxHeartbeats 4000000
namespace Go.Proofs.YteakobbdgehlgaaDoor
open Go Go.Ab
def cmpS (a b:ByteArray):Int:=Extern.BytealgCompare.cmp a b
def cmpI (a b:Int):Int:=if a<b then -1 else if b<a then 1 else 0
def or3 (a b c:Int):Int:=if a != 0 then a else if b != 0 then b else c
def cmp3 (x y:Mtr):Int:=or3 (cmpS x.2.1 y.2.1) (cmpI x.1 y.1) (cmpS x.2.2 y.2.2)
section
variable (σ:St)
theorem z4z (a b:ByteArray):Ans Tryd.prog 76 [Sx a,Sx b] σ (I (cmpS a b)) σ:=by
 have y0:Ans Tryd.prog 84 [Sx a,Sx b] σ (I (cmpS a b)) σ:=zc9 _ _ _ _ rfl
 have u0:Ans Tryd.prog 80 [Sx a,Sx b] σ (I (cmpS a b)) σ:=by
  refine Ans.of_run t80 ?_;simp -implicitDefEqProofs only[c80,r80,go_sem];refine CO.intro y0 ?_;simp -implicitDefEqProofs only[go_sem];exact Fini.ret rfl
 refine Ans.of_run t76 ?_;simp -implicitDefEqProofs only[c76,r76,go_sem];refine CO.intro u0 ?_;simp -implicitDefEqProofs only[go_sem];exact Fini.ret rfl
theorem z8u (a:Int):Ans Tryd.prog 81 [I a] σ (Bo false) σ:=by
 have h:(a != a)=false:=by simp
 refine Ans.of_run t81 ?_;simp -implicitDefEqProofs only[c81,r81,go_sem,h];exact Fini.ret rfl
theorem z7t (a b:Int):Ans Tryd.prog 77 [I a,I b] σ (I (cmpI a b)) σ:=by
 unfold cmpI;refine Ans.of_run t77 ?_;simp -implicitDefEqProofs only[c77,r77,go_sem];refine CO.intro (z8u σ a) ?_;simp -implicitDefEqProofs only[go_sem];refine CO.intro (z8u σ b) ?_;simp -implicitDefEqProofs only[go_sem];by_cases h1:a<b
 · have y0:decide (a<b)=true:=by simpa using h1
   simp -implicitDefEqProofs only[go_sem,y0];rw[if_pos h1];exact Fini.ret rfl
 · have y0:decide (a<b)=false:=by simpa using h1
   simp -implicitDefEqProofs only[go_sem,y0];rw[if_neg h1];by_cases h2:b<a
   · have u0:decide (b<a)=true:=by simpa using h2
     simp -implicitDefEqProofs only[go_sem,u0];rw[if_pos h2];exact Fini.ret rfl
   · have u0:decide (b<a)=false:=by simpa using h2
     simp -implicitDefEqProofs only[go_sem,u0];rw[if_neg h2];exact Fini.ret rfl
def orF (a b c:Int):Nat→Int
 |0=>or3 a b c
 |1=>if b != 0 then b else c
 |2=>c
 |_=>0
theorem zcg (a b c:Int):Ans Tryd.prog 75 [.sl 1 [I a,I b,I c]] σ (I (or3 a b c)) σ:=by
 refine Ans.of_run t75 ?_;simp -implicitDefEqProofs only[c75,r75,go_sem];generalize y0:or3 a b c=res
 refine Go.Ab.L.intro (α:={ i:Nat // i≤3∧orF a b c i=res }) (fun x=>3-x.1)
  (fun x=>mkE 18 [(3,I 0),(6,.sl 1 [I a,I b,I c]),(7,I ((3:Nat):Int)),(8,I x.1)]) (fun _=>σ) (fun x J hJ=>?_) ⟨0,Nat.zero_le _,y0⟩ rfl rfl
 obtain⟨i,hi,hg⟩:=x;simp only at hJ⊢;have i4:i=0∨i=1∨i=2∨i=3:=by omega
 have w0:IntKind.i64.wrap (((0:Nat):Int)+1)=((1:Nat):Int):=by decide
 have w1:IntKind.i64.wrap (((1:Nat):Int)+1)=((2:Nat):Int):=by decide
 have w2:IntKind.i64.wrap (((2:Nat):Int)+1)=((3:Nat):Int):=by decide
 rcases i4 with rfl|rfl|rfl|rfl
 · have d1:decide (((0:Nat):Int)<((3:Nat):Int))=true:=by decide
   have d2:(((0:Nat):Int)<((3:Nat):Int))=True:=by simp
   simp only[orF,or3]at hg;simp -implicitDefEqProofs only[mkE,go_sem,d1,d2];cases h:a != 0
   · rw[h,if_neg Bool.false_ne_true]at hg;have u0:=hJ ⟨1,by omega,hg⟩ (by simp only;omega)
     simp only at u0;simp -implicitDefEqProofs only[go_sem,w0];exact u0
   · rw[h,if_pos rfl]at hg;simp -implicitDefEqProofs only[go_sem];rw[←hg];exact Fini.ret rfl
 · have d1:decide (((1:Nat):Int)<((3:Nat):Int))=true:=by decide
   have d2:(((1:Nat):Int)<((3:Nat):Int))=True:=by simp
   simp only[orF]at hg;simp -implicitDefEqProofs only[mkE,go_sem,d1,d2];cases h:b != 0
   · rw[h,if_neg Bool.false_ne_true]at hg;have u0:=hJ ⟨2,by omega,hg⟩ (by simp only;omega)
     simp only at u0;simp -implicitDefEqProofs only[go_sem,w1];exact u0
   · rw[h,if_pos rfl]at hg;simp -implicitDefEqProofs only[go_sem];rw[←hg];exact Fini.ret rfl
 · have d1:decide (((2:Nat):Int)<((3:Nat):Int))=true:=by decide
   have d2:(((2:Nat):Int)<((3:Nat):Int))=True:=by simp
   simp only[orF]at hg;simp -implicitDefEqProofs only[mkE,go_sem,d1,d2];cases h:c != 0
   · have hc:c=0:=by simpa using h
     have u0:=hJ ⟨3,by omega,by rw[←hg,hc];rfl⟩ (by simp only;omega)
     simp only at u0;simp -implicitDefEqProofs only[go_sem,w2];exact u0
   · simp -implicitDefEqProofs only[go_sem];rw[←hg];exact Fini.ret rfl
 · have d1:decide (((3:Nat):Int)<((3:Nat):Int))=false:=by decide
   have d2:(((3:Nat):Int)<((3:Nat):Int))=False:=by simp
   simp only[orF]at hg;simp -implicitDefEqProofs only[mkE,go_sem,d1,d2];rw[←hg];exact Fini.ret rfl
theorem z6b (x y:Mtr):Ans Tryd.prog 64 [mv3 x,mv3 y] σ (I (cmp3 x y)) σ:=by
 have h1:=fun s=>z4z s x.2.1 y.2.1
 have h2:=fun s=>z7t s x.1 y.1
 have h3:=fun s=>z4z s x.2.2 y.2.2
 have h4:=fun s=>zcg s (cmpS x.2.1 y.2.1) (cmpI x.1 y.1) (cmpS x.2.2 y.2.2)
 unfold cmp3;refine Ans.of_run t64 ?_;simp -implicitDefEqProofs only[c64,r64,go_sem,z14,mv3]
 first|refine CD.intro (h1 _) ?_|refine CS.intro h1 ?_
 simp -implicitDefEqProofs only[go_sem,z14]
 first|refine CD.intro (h2 _) ?_|refine CS.intro h2 ?_
 simp -implicitDefEqProofs only[go_sem,z14]
 first|refine CD.intro (h3 _) ?_|refine CS.intro h3 ?_
 simp -implicitDefEqProofs only[go_sem,z14]
 first|refine CD.intro (h4 _) ?_|refine CS.intro h4 ?_
 simp -implicitDefEqProofs only[go_sem];exact Fini.ret rfl
end
theorem z8v (a b:ByteArray):cmpS a b=(if a.toList==b.toList then 0 else if Op.bytesLess a.toList b.toList then -1 else 1):=by
 rw[cmpS,z9F,z5y,ByteArray.toList_eq,ByteArray.toList_eq]
def z5z (x y:Mtr):Bool :=
 if !(x.2.1.toList==y.2.1.toList) then Op.bytesLess x.2.1.toList y.2.1.toList
 else if !(x.1==y.1) then decide (x.1<y.1)
 else Op.bytesLess x.2.2.toList y.2.2.toList
theorem z49:∀x:List UInt8,Op.bytesLess x x=false
 |[]=>rfl
 |a::x=>by rw[Op.bytesLess,z49 x];simp
theorem z6c (x y:Mtr):decide (0≤cmp3 x y)= !z5z x y:=by
 unfold cmp3 or3 z5z;rw[z8v,z8v]
 cases h1:(x.2.1.toList==y.2.1.toList) with
 |false =>
  cases h2:Op.bytesLess x.2.1.toList y.2.1.toList<;>simp
 |true =>
  simp only[Bool.not_true,Bool.false_eq_true,if_false,if_true];unfold cmpI;by_cases h3:x.1<y.1
  · have:(x.1==y.1)=false:=by simp;omega
    simp[h3,this]
  · by_cases h4:y.1<x.1
    · have:(x.1==y.1)=false:=by simp;omega
      simp[h3,h4,this]
    · have h5:(x.1==y.1)=true:=by simp;omega
      simp only[h3,h4,h5,if_false,Bool.not_true,Bool.false_eq_true]
      cases h6:(x.2.2.toList==y.2.2.toList) with
      |true =>
       have:x.2.2.toList=y.2.2.toList:=by simpa using h6
       rw[this,z49];rfl
      |false=>cases h7:Op.bytesLess x.2.2.toList y.2.2.toList<;>simp
def epsTo (ys:List Stp) (p q:Nat):Prop:=∃s,ys[p]?=some s∧((s.op=2∧(q=s.x.toNat∨q=s.y.toNat))∨(s.op=3∧q=s.x.toNat))
inductive Eps (ys:List Stp):Nat→Nat→Prop where
 |refl (p:Nat):Eps ys p p
 |step {p q r:Nat}:epsTo ys p q→Eps ys q r→Eps ys p r
theorem z4X {ys:List Stp} {p:Nat} {s:Stp} (h:ys[p]?=some s):stpAt ys p=s:=by
 rw[stpAt,List.getD_eq_getElem?_getD,h];rfl
theorem Eps.snoc {ys:List Stp} {p q r:Nat} (h:Eps ys p q) (h':epsTo ys q r):Eps ys p r:=by
 induction h with
 |refl p=>exact .step h' (.refl _)
 |step h1 _ ih=>exact .step h1 (ih h')
section
variable {ys:List Stp} (hc:zc8 ys=true)
include hc
end
inductive Reach (ys:List Stp) (s:ByteArray):Nat→Nat→Prop where
 |zero:Reach ys s 0 0
 |eps {p q i:Nat}:Reach ys s p i→epsTo ys p q→Reach ys s q i
 |byte {p i:Nat}:Reach ys s p i→p<ys.length→i<s.size→z42 (stpAt ys p) (byteAt s i)=true→Reach ys s (p+1) (i+1)
theorem Reach.last {ys:List Stp} {s:ByteArray} {q i:Nat} (h:Reach ys s q i):(i=0∧Eps ys 0 q)∨∃j p,i=j+1∧j<s.size∧p<ys.length∧Reach ys s p j∧z42 (stpAt ys p) (byteAt s j)=true∧Eps ys (p+1) q:=by
 induction h with
 |zero=>exact .inl ⟨rfl,.refl _⟩
 |eps _ h1 ih =>
  rcases ih with⟨h,h'⟩|⟨j,p,h⟩
  · exact .inl ⟨h,h'.snoc h1⟩
  · exact .inr ⟨j,p,h.1,h.2.1,h.2.2.1,h.2.2.2.1,h.2.2.2.2.1,h.2.2.2.2.2.snoc h1⟩
 |byte h hp hi ht _=>exact .inr ⟨_,_,rfl,hi,hp,h,ht,.refl _⟩
inductive Star (R:Nat→Nat→Prop):Nat→Nat→Prop where
 |refl (i:Nat):Star R i i
 |step {i m j:Nat}:R i m→Star R m j→Star R i j
section
variable (s:ByteArray)
mutual
def Mt:Rex→Nat→Nat→Prop
 |.mk op a b c d ks=>fun i j =>
  if op==1 then i<s.size∧j=i+1∧z42 ⟨1,a,b,c,d,0,0⟩ (byteAt s i)=true
  else if op==2 then MtL ks i j
  else if op==3 then MtA ks i j
  else if op==4 then Star (MtH ks) i j
  else if op==5 then ∃m,MtH ks i m∧Star (MtH ks) m j
  else if op==6 then i=j∨MtH ks i j
  else False
def MtL:List Rex→Nat→Nat→Prop
 |[]=>fun i j=>i=j
 |x::xs=>fun i j=>∃m,Mt x i m∧MtL xs m j
def MtA:List Rex→Nat→Nat→Prop
 |[]=>fun _ _=>False
 |x::xs=>fun i j=>Mt x i j∨MtA xs i j
def MtH:List Rex→Nat→Nat→Prop
 |[]=>fun _ _=>False
 |x::_=>fun i j=>Mt x i j
end
inductive Ed (ys:List Stp):Nat×Nat→Nat×Nat→Prop where
 |eps {p q i:Nat}:epsTo ys p q→Ed ys (p,i) (q,i)
 |byte {p i:Nat}:p<ys.length→i<s.size→z42 (stpAt ys p) (byteAt s i)=true→Ed ys (p,i) (p+1,i+1)
def Run (ys:List Stp) (lo hi:Nat):Nat→Nat×Nat→Nat×Nat→Prop
 |0,c,d=>c=d∧¬(lo≤c.1∧c.1<hi)
 |k+1,c,d=>(lo≤c.1∧c.1<hi)∧∃e,Ed s ys c e∧Run ys lo hi k e d
def Path (ys:List Stp):Nat→Nat×Nat→Nat×Nat→Prop
 |0,c,d=>c=d
 |k+1,c,d=>∃e,Ed s ys c e∧Path ys k e d
variable {s} {ys:List Stp}
theorem Run.split {lo hi lo' hi':Nat} (h1:lo≤lo') (h2:hi'≤hi):∀(k:Nat) (c d:Nat×Nat),Run s ys lo hi k c d→∃k1 k2 m,k1+k2=k∧Run s ys lo' hi' k1 c m∧Run s ys lo hi k2 m d
 |0,c,d,h=>⟨0,0,c,rfl,⟨rfl,fun hc=>h.2 ⟨by omega,by omega⟩⟩,h⟩
 |k+1,c,d,h=>by
  by_cases hc:lo'≤c.1∧c.1<hi'
  · obtain⟨_,e,he,hr⟩:=h;obtain⟨k1,k2,m,hk,h3,h4⟩:=Run.split h1 h2 k e d hr;exact⟨k1+1,k2,m,by omega,⟨hc,e,he,h3⟩,h4⟩
  · exact⟨0,k+1,c,by omega,⟨rfl,hc⟩,h⟩
theorem Path.run {lo hi:Nat}:∀(k:Nat) (c d:Nat×Nat),Path s ys k c d→¬(lo≤d.1∧d.1<hi)→∃k1 k2 m,Run s ys lo hi k1 c m∧Path s ys k2 m d
 |0,c,d,h,hd=>⟨0,0,c,⟨rfl,by rw[show c=d from h];exact hd⟩,h⟩
 |k+1,c,d,h,hd=>by
  by_cases hc:lo≤c.1∧c.1<hi
  · obtain⟨e,he,hr⟩:=h;obtain⟨k1,k2,m,h3,h4⟩:=Path.run k e d hr hd;exact⟨k1+1,k2,m,⟨hc,e,he,h3⟩,h4⟩
  · exact⟨0,k+1,c,⟨rfl,hc⟩,h⟩
theorem Path.snoc:∀(k:Nat) (c d e:Nat×Nat),Path s ys k c d→Ed s ys d e→Path s ys (k+1) c e
 |0,c,d,e,h,he=>by rw[show c=d from h];exact⟨e,he,rfl⟩
 |k+1,c,d,e,h,he=>by
  obtain⟨f,hf,hr⟩:=h;exact⟨f,hf,Path.snoc k f d e hr he⟩
theorem Run.out {lo hi k:Nat} {c d:Nat×Nat} (h:Run s ys lo hi k c d) (hc:¬(lo≤c.1∧c.1<hi)):k=0∧c=d:=by
 cases k with
 |zero=>exact⟨rfl,h.1⟩
 |succ k=>exact absurd h.1 hc
theorem Run.move {lo hi k:Nat} {c d:Nat×Nat} (h:Run s ys lo hi k c d) (hc:lo≤c.1∧c.1<hi):∃k' e,k=k'+1∧Ed s ys c e∧Run s ys lo hi k' e d:=by
 cases k with
 |zero=>exact absurd hc h.2
 |succ k=>obtain⟨_,e,h1,h2⟩:=h;exact⟨k,e,rfl,h1,h2⟩
theorem Ed.two {p i:Nat} {e:Nat×Nat} {st:Stp} (h:Ed s ys (p,i) e) (hs:ys[p]?=some st) (ho:st.op=2):e=(st.x.toNat,i)∨e=(st.y.toNat,i):=by
 cases h with
 |eps h =>
  obtain⟨s',h1,h2⟩:=h;rw[hs]at h1;cases h1;rcases h2 with⟨_,rfl|rfl⟩|⟨h3,_⟩
  · exact .inl rfl
  · exact .inr rfl
  · omega
 |byte h1 h2 h3 =>
  rw[z4X hs]at h3;simp[z42,ho]at h3
theorem Ed.one {p i:Nat} {e:Nat×Nat} {st:Stp} (h:Ed s ys (p,i) e) (hs:ys[p]?=some st) (ho:st.op=1):e=(p+1,i+1)∧i<s.size∧z42 st (byteAt s i)=true:=by
 cases h with
 |eps h =>
  obtain⟨s',h1,h2⟩:=h;rw[hs]at h1;cases h1;rcases h2 with⟨h3,_⟩|⟨h3,_⟩<;>omega
 |byte h1 h2 h3 =>
  rw[z4X hs]at h3;exact⟨rfl,h2,h3⟩
theorem Ed.four {p i:Nat} {e:Nat×Nat} {st:Stp} (h:Ed s ys (p,i) e) (hs:ys[p]?=some st) (ho:st.op=4):False:=by
 cases h with
 |eps h =>
  obtain⟨s',h1,h2⟩:=h;rw[hs]at h1;cases h1;rcases h2 with⟨h3,_⟩|⟨h3,_⟩<;>omega
 |byte h1 h2 h3 =>
  rw[z4X hs]at h3;simp[z42,ho]at h3
def Frag (ys:List Stp) (n:Nat) (l:List Stp):Prop:=∀k,k<l.length→ys[n+k]?=l[k]?
theorem Frag.left {n:Nat} {a b:List Stp} (h:Frag ys n (a++b)):Frag ys n a:=fun k hk=>by
 rw[h k (by simp;omega),List.getElem?_append_left hk]
theorem Frag.right {n:Nat} {a b:List Stp} (h:Frag ys n (a++b)):Frag ys (n+a.length) b:=fun k hk=>by
 rw[show n+a.length+k=n+(a.length+k) by omega,h _ (by simp;omega),List.getElem?_append_right (by omega)]
 congr 1;omega
theorem Frag.head {n:Nat} {a:Stp} {b:List Stp} (h:Frag ys n (a::b)):ys[n]?=some a:=by
 have:=h 0 (by simp);simpa using this
theorem Frag.tail {n:Nat} {a:Stp} {b:List Stp} (h:Frag ys n (a::b)):Frag ys (n+1) b:=fun k hk=>by
 have:=h (k+1) (by simp;omega)
 rw[show n+1+k=n+(k+1) by omega,this];simp
end
open Rex
section
variable (s:ByteArray)
end
theorem Star.one {R:Nat→Nat→Prop} {i m j:Nat} (h:R i m) (h':Star R m j):Star R i j:=.step h h'
section
variable {s:ByteArray} {ys:List Stp}
def Comp (s:ByteArray) (ys:List Stp) (x:Rex):Prop:=∀n i j,Frag ys n (lay n x)→Mt s x i j→Reach ys s n i→Reach ys s (n+(lay n x).length) j
theorem compL (l:List Rex):∀n i j,(∀k∈l,Comp s ys k)→Frag ys n (layL n l)→MtL s l i j→Reach ys s n i→Reach ys s (n+(layL n l).length) j:=by
 induction l with
 |nil=>intro n i j _ _ h hr;rw[show i=j from h]at hr;exact hr
 |cons x xs ih =>
  intro n i j hk hf h hr;rw[layL]at hf⊢;obtain⟨m,h1,h2⟩:=h;have a1:=hk x List.mem_cons_self n i m hf.left h1 hr;have a2:=ih _ m j (fun k u0=>hk k (List.mem_cons_of_mem _ u0)) hf.right h2 a1
  rw[List.length_append,←Nat.add_assoc];exact a2
end
abbrev dob (s:ByteArray) (a d:Nat) (b:Bool):Ob:=.box [Sx s,I a,I d,Bo b]
section
variable (σ:St) (p:Nat) (s:ByteArray) (a d:Nat)
end
abbrev DF:=Nat→Rex×Nat×Nat×Bool
def DAns (f:FuncId) (g:Bool) (s:ByteArray) (d:Nat) (F:DF):Prop :=
 ∀(σ:St) (p a:Nat),p<σ.length→s.size≤40→(g=true→a<s.size) →
  Ans Tryd.prog f [.ptr p 0] (σ.set p (dob s a d false)) (F a).1.rv (σ.set p (dob s (F a).2.1 (F a).2.2.1 (F a).2.2.2))
section
variable {σ:St} {p:Nat} {s:ByteArray}
theorem DAns.ex {f:FuncId} {g:Bool} {d:Nat} {F:DF} (h:DAns f g s d F) (hp:p<σ.length) (a:Nat) (hs:s.size≤40) (hg:g=true→a<s.size) (ex:St) :
  Ans Tryd.prog f [.ptr p 0] (σ.set p (dob s a d false)++ex) (F a).1.rv (σ.set p (dob s (F a).2.1 (F a).2.2.1 (F a).2.2.2)++ex):=by
 have:=h (σ.set p (dob s a d false)++ex) p a (by simp;omega) hs hg
 rwa [sA hp,sA hp]at this
end
section
variable (s:ByteArray)
end
theorem z9G (M:List Mtr) (i:Nat) (h:i<M.length):(mvs3 M)[i]?=some (mv3 M[i]):=by simp[mvs3,h]
theorem z0D (M:List Mtr):(mvs3 M).length=M.length:=List.length_map ..
abbrev noM3:Mtr:=(0,⟨#[]⟩,⟨#[]⟩)
def isM (x:Mtr):Bool:=isB x.1 x.2.1 x.2.2
def okL (M:List Mtr) (i:Nat):Bool:=isM (M.getD i noM3)&&(i==0||z5z (M.getD (i-1) noM3) (M.getD i noM3))
def listB (M:List Mtr):Bool:=decide (M.length≤5)&&(List.range M.length).all (okL M)
theorem zaz (M:List Mtr) (i:Nat) (h:i<M.length):(mvs3 M)[i]?=some (mv3 (M.getD i noM3)):=by
 rw[z9G M i h,List.getD_eq_getElem?_getD,List.getElem?_eq_getElem h];rfl
theorem z0K (n:Nat) (M:List Mtr):Bel n (.sl 3 (mvs3 M)):=by
 refine .sl 3 _ fun i hi=>?_
 have:∀y∈mvs3 M,Bel n y:=by
  intro y hy;simp only[mvs3,List.mem_map]at hy;obtain⟨x,_,rfl⟩:=hy;refine .agg _ fun i hi=>?_
  have:∀y∈([I x.1,Sx x.2.1,Sx x.2.2]:List AV),Bel n y:=by
   intro y hy;simp only[List.mem_cons,List.not_mem_nil,or_false]at hy;rcases hy with rfl|rfl|rfl<;>exact .pl _
  exact this _ (List.getElem_mem hi)
 exact this _ (List.getElem_mem hi)
theorem zaA (n:Nat) (M:List Mtr):Bel n (.sl 3 (mvs3 M))=True:=eq_true (z0K n M)
theorem memM (n:Nat) (k:Int) (a b:ByteArray):∀y∈([I k,Sx a,Sx b]:List AV),Bel n y:=by
 intro y hy;simp only[List.mem_cons,List.not_mem_nil,or_false]at hy;rcases hy with rfl|rfl|rfl<;>exact .pl _
theorem zaB (n:Nat) (k:Int) (a b:ByteArray):Bel n (.agg [I k,Sx a,Sx b])=True:=eq_true (.agg _ fun i hi=>memM n k a b _ (List.getElem_mem hi))
theorem BL_rp (n:Nat) (k:Int) (a b:ByteArray):Bel n (.rp [I k,Sx a,Sx b])=True:=eq_true (.rp _ fun i hi=>memM n k a b _ (List.getElem_mem hi))
theorem z0U (σ:St) (M:List Mtr):Ans Tryd.prog 53 [.sl 3 (mvs3 M)] σ (Bo (listB M)) σ:=by
 refine Ans.of_run' t53 (fun u0 _=>?_)
 have d5:decide ((5:Int)<M.length)=decide (5<M.length):=decN 5 _;have n0:(∀o∈σ,BelO σ.length o)=True:=eq_true u0;unfold listB;simp -implicitDefEqProofs only[c53,r53,go_sem,z0D,d5];by_cases hl:M.length≤5
 · rw[decide_eq_true hl,Bool.true_and];have h5:decide (5<M.length)=false:=decide_eq_false (by omega)
   simp -implicitDefEqProofs only[go_sem,h5,z0D];refine Go.Ab.L.scan M.length (okL M) (fun i=>mkE 33 [(0,.sl 3 (mvs3 M)),(8,.sl 3 (mvs3 M)),(9,I M.length),(10,I i)]) (fun _=>σ) ?_ ?_ rfl rfl
   · intro i hi hp J hJ;have k0:∀x:Ob,(σ++[x]).take σ.length=σ:=fun x=>List.take_left' rfl
     have hF:okL M i=false→(List.range M.length).all (okL M)=false:=fun h=>List.all_eq_false.2 ⟨i,List.mem_range.2 hi,by simp[h]⟩
     have hx:=zaz M i hi;have m0:=z3B (n:=i) (by omega)
     have hI:=fun σ=>zcf σ (M.getD i noM3).1 (M.getD i noM3).2.1 (M.getD i noM3).2.2
     have hO:okL M i=(isB (M.getD i noM3).1 (M.getD i noM3).2.1 (M.getD i noM3).2.2&&(i==0||z5z (M.getD (i-1) noM3) (M.getD i noM3))):=rfl;have d0:decide ((0:Int)<i)=decide (0<i):=decN 0 i;rw[hO]at hJ hF;simp -implicitDefEqProofs only[mkE,go_sem,z0D,z1p hi,dec_lt hi,hx,mv3,z14,g0,s0,List.drop_nil]
     first|refine CD.intro (hI _) ?_|refine CS.intro hI ?_
     generalize isB (M.getD i noM3).1 (M.getD i noM3).2.1 (M.getD i noM3).2.2=b1 at hJ hF
     cases b1 with
     |false =>
      simp -implicitDefEqProofs only[go_sem,z14,g0,s0];rw[hF rfl];exact Fini.trim2 (σ':=σ) rfl rfl (Nat.le_refl _) (.pl _) u0
     |true =>
      by_cases hz:i=0
      · subst hz;have j0:=hJ rfl;simp -implicitDefEqProofs only[go_sem,m0,z14,g0,s0,Int.natCast_zero,B_pl,B_any,z4q,B_tup,B_osl,B_ptr,B_sl0,zaA,zaB,BL_rp,k0,Nat.add_zero,n0,List.length_append];exact⟨by omega,j0⟩
      · have q0:decide (0<i)=true:=by simp;omega
        have hx1:=zaz M (i-1) (by omega)
        have hB:=fun σ=>z6b σ (M.getD (i-1) noM3) (M.getD i noM3)
        have hc:=z6c (M.getD (i-1) noM3) (M.getD i noM3);have w1:IntKind.i64.wrap ((i:Int)-1)=((i-1:Nat):Int):=by rw[wrapN (by omega) (by omega)];omega
        have y0:(((i-1:Nat):Int)<M.length)=True:=by simp;omega
        have r0:(i==0)=false:=by simpa using hz
        rw[r0]at hJ hF;simp -implicitDefEqProofs only[go_sem,d0,q0,w1,z0D,z1p hi,dec_lt hi,y0,hx,hx1,z14,mv3,g0,s0]
        first|refine CD.intro (hB _) ?_|refine CS.intro hB ?_
        generalize z5z (M.getD (i-1) noM3) (M.getD i noM3)=b2 at hJ hF hc;generalize cmp3 (M.getD (i-1) noM3) (M.getD i noM3)=cc at hc
        cases b2 with
        |true =>
         have j0:=hJ rfl;simp -implicitDefEqProofs only[go_sem,hc,m0,g0,s0,B_pl,B_any,z4q,B_tup,B_osl,B_ptr,B_sl0,zaA,zaB,BL_rp,k0,Nat.add_zero,n0,List.length_append,Bool.not_true];exact⟨by omega,j0⟩
        |false =>
         simp -implicitDefEqProofs only[go_sem,hc,Bool.not_false,g0,s0];rw[hF rfl];exact Fini.trim2 (σ':=σ) rfl rfl (Nat.le_refl _) (.pl _) u0
   · intro hp J;have hd:decide ((M.length:Int)<M.length)=false:=by simp
     simp -implicitDefEqProofs only[mkE,go_sem,z0D,hd];refine Fini.ret' rfl (z1r ?_);exact(List.all_eq_true.2 fun i hi=>hp i (List.mem_range.1 hi)).symm
 · rw[decide_eq_false hl,Bool.false_and];have h5:decide (5<M.length)=true:=decide_eq_true (by omega)
   simp -implicitDefEqProofs only[go_sem,h5];exact Fini.ret rfl
open Go.Cod
abbrev Fl (n:Nat):AV:=.pl (.float .f64 n)
structure RuM where
 src:List Mtr
 tgt:List Mtr
 any:Bool
 lo:Nat
 hi:Nat
 eq:List ByteArray
def txs (l:List ByteArray):List AV:=l.map fun s=>Sx s
def ruV (r:RuM):AV:=.agg [.sl 3 (mvs3 r.src),.sl 3 (mvs3 r.tgt),Bo r.any,Fl r.lo,Fl r.hi,.sl 1 (txs r.eq)]
theorem z1P (l:List ByteArray):(txs l).length=l.length:=List.length_map ..
theorem zbo (l:List ByteArray) (i:Nat) (h:i<l.length):(txs l)[i]?=some (Sx l[i]):=by simp[txs,h]
theorem txs_D (l:List ByteArray) (i:Nat) (h:i<l.length):(txs l)[i]?=some (Sx (l.getD i ⟨#[]⟩)):=by
 rw[zbo l i h,List.getD_eq_getElem?_getD,List.getElem?_eq_getElem h];rfl
def leF (a b:Nat):Bool:=FloatKind.f64.format.order a b==some .lt||FloatKind.f64.format.order a b==some .eq
theorem zbp (a b:Nat):(FloatKind.f64.format.order a b==some .lt||FloatKind.f64.format.order a b==some .eq)=leF a b:=rfl
def nanF (a:Nat):Bool:=FloatKind.f64.format.order a a != some .eq
theorem z9I (a:Nat):(FloatKind.f64.format.order a a != some .eq)=nanF a:=rfl
def bitsF (a:Nat):Nat:=if nanF a then 9221120237041090561 else a
def mayB (any:Bool) (lo hi:Nat):Bool:=if any then(((bitsF lo:Nat):Int)==0)&&(((bitsF hi:Nat):Int)==0) else leF lo hi
def eqOk (e:List ByteArray) (i:Nat):Bool:=nameB (e.getD i ⟨#[]⟩)&& !(decide (0<i)&&leS (e.getD i ⟨#[]⟩) (e.getD (i-1) ⟨#[]⟩))
def eqB (e:List ByteArray):Bool:=decide (e.length≤4)&&(List.range e.length).all (eqOk e)
def ruIs (r:RuM):Bool:=!(((r.src.length:Nat):Int)==0)&&(!(((r.tgt.length:Nat):Int)==0)&&(listB r.src&&(listB r.tgt&&(mayB r.any r.lo r.hi&&eqB r.eq))))
section
variable (σ:St)
theorem zch (a:Nat):Ans Tryd.prog 67 [Fl a] σ (Bo (nanF a)) σ:=by
 refine Ans.of_run t67 ?_;simp -implicitDefEqProofs only[c67,r67,go_sem,z9I];exact Fini.ret rfl
theorem z6d (a:Nat):Ans Tryd.prog 68 [Fl a] σ (UN a) σ:=ext_bits.ok _ _ _ _ rfl
theorem z3G (a:Nat):Ans Tryd.prog 59 [Fl a] σ (UN (bitsF a)) σ:=by
 refine Ans.of_run t59 ?_;simp -implicitDefEqProofs only[c59,r59,go_sem];refine CO.intro (zch σ a) ?_;unfold bitsF
 cases nanF a with
 |true =>
  simp -implicitDefEqProofs only[go_sem];exact Fini.ret rfl
 |false =>
  simp -implicitDefEqProofs only[go_sem];refine CO.intro (z6d σ a) ?_;simp -implicitDefEqProofs only[go_sem];exact Fini.ret rfl
theorem z1h (any:Bool) (lo hi:Nat):Ans Tryd.prog 55 [.agg [Bo any,Fl lo,Fl hi]] σ (Bo (mayB any lo hi)) σ:=by
 refine Ans.of_run t55 ?_;unfold mayB
 cases any with
 |true =>
  simp -implicitDefEqProofs only[c55,r55,go_sem];refine CO.intro (z3G σ lo) ?_
  cases h:(((bitsF lo:Nat):Int)==0) with
  |false =>
   simp -implicitDefEqProofs only[go_sem,h];exact Fini.ret rfl
  |true =>
   simp -implicitDefEqProofs only[go_sem,h];refine CO.intro (z3G σ hi) ?_;simp -implicitDefEqProofs only[go_sem,h];exact Fini.ret rfl
 |false =>
  simp -implicitDefEqProofs only[c55,r55,go_sem,zbp];exact Fini.ret rfl
theorem z1l (r:RuM):Ans Tryd.prog 56 [ruV r] σ (Bo (ruIs r)) σ:=by
 obtain⟨src,y0,any,lo,hi,eq⟩:=r;have d4:decide ((4:Int)<eq.length)=decide (4<eq.length):=decNN 4 _;refine Ans.of_run t56 ?_;unfold ruIs ruV;simp only
 cases h1:(((src.length:Nat):Int)==0) with
 |true =>
  simp -implicitDefEqProofs only[c56,r56,go_sem,z0D,h1];exact Fini.ret rfl
 |false =>
 cases h2:(((y0.length:Nat):Int)==0) with
 |true =>
  simp -implicitDefEqProofs only[c56,r56,go_sem,z0D,h1,h2];exact Fini.ret rfl
 |false =>
 simp -implicitDefEqProofs only[c56,r56,go_sem,z0D,h1,h2];refine CO.intro (z0U σ src) ?_
 cases h3:listB src with
 |false =>
  simp -implicitDefEqProofs only[go_sem];exact Fini.ret rfl
 |true =>
 simp -implicitDefEqProofs only[go_sem];refine CO.intro (z0U σ y0) ?_
 cases h4:listB y0 with
 |false =>
  simp -implicitDefEqProofs only[go_sem];exact Fini.ret rfl
 |true =>
 simp -implicitDefEqProofs only[go_sem];refine CO.intro (z1h σ any lo hi) ?_
 cases h5:mayB any lo hi with
 |false =>
  simp -implicitDefEqProofs only[go_sem];exact Fini.ret rfl
 |true =>
 unfold eqB;by_cases h6:eq.length≤4
 · have x4:decide (4<eq.length)=false:=decide_eq_false (by omega)
   rw[decide_eq_true h6];simp -implicitDefEqProofs only[go_sem,z1P,d4,x4];refine Go.Ab.L.scan eq.length (eqOk eq) (fun i=>mkE 65 [(1,.rp [.sl 3 (mvs3 src),.sl 3 (mvs3 y0),Bo any,Fl lo,Fl hi,.sl 1 (txs eq)]),(40,.sl 1 (txs eq)),(41,I eq.length),(42,I i)]) (fun _=>σ) ?_ ?_ rfl rfl
   · intro i hi hp J hJ;have hx:=txs_D eq i hi;have hF:eqOk eq i=false→(List.range eq.length).all (eqOk eq)=false:=fun h=>List.all_eq_false.2 ⟨i,List.mem_range.2 hi,by rw[h];decide⟩
     have k0:=wrap_succ (i:=i) (by omega)
     have d0:decide ((0:Int)<i)=decide (0<i):=by rw[Bool.eq_iff_iff];simp
     have hO:eqOk eq i=(nameB (eq.getD i ⟨#[]⟩)&& !(decide (0<i)&&leS (eq.getD i ⟨#[]⟩) (eq.getD (i-1) ⟨#[]⟩))):=rfl;rw[hO]at hJ hF;simp -implicitDefEqProofs only[mkE,go_sem,z1P,z1p hi,dec_lt hi,hx];refine CO.intro (z48 σ _) ?_;generalize eq.getD i ⟨#[]⟩=s at hJ hF hx
     cases hb:nameB s with
     |false =>
      rw[hb]at hF;rw[hF rfl];simp -implicitDefEqProofs only[go_sem];exact Fini.ret rfl
     |true =>
      rw[hb]at hJ hF;by_cases hz:i=0
      · subst hz;have j0:=hJ rfl;simp -implicitDefEqProofs only[go_sem,d0,k0];exact j0
      · have u0:decide (0<i)=true:=decide_eq_true (by omega)
        have hx1:=txs_D eq (i-1) (by omega)
        have w1:IntKind.i64.wrap ((i:Int)-1)=((i-1:Nat):Int):=by rw[wrapN (by omega) (by omega)];omega
        have q0:(((i-1:Nat):Int)<eq.length)=True:=by simp;omega
        rw[u0]at hJ hF;generalize eq.getD (i-1) ⟨#[]⟩=s1 at hJ hF hx1;have hle:(Op.bytesLess s.toList s1.toList||s.toList==s1.toList)=leS s s1:=rfl;simp -implicitDefEqProofs only[go_sem,d0,u0,w1,z1P,q0,hx1,hle]
        cases h7:leS s s1 with
        |true =>
         rw[h7]at hF;rw[hF rfl];simp -implicitDefEqProofs only[go_sem];exact Fini.ret rfl
        |false =>
         rw[h7]at hJ;have j0:=hJ rfl;simp -implicitDefEqProofs only[go_sem,k0];exact j0
   · intro hp J;have hd:decide ((eq.length:Int)<eq.length)=false:=by simp
     simp -implicitDefEqProofs only[mkE,go_sem,z1P,hd];refine Fini.ret' rfl (z1r ?_);exact(List.all_eq_true.2 fun i hi=>hp i (List.mem_range.1 hi)).symm
 · have x4:decide (4<eq.length)=true:=decide_eq_true (by omega)
   rw[decide_eq_false h6];simp -implicitDefEqProofs only[go_sem,z1P,d4,x4];exact Fini.ret rfl
end
def mkM (x:UInt8×ByteArray×ByteArray):Mtr:=((x.1.toNat:Int),x.2.1,x.2.2)
def mtrR:Rd Mtr:=z0W (seqR byteR (seqR (textR 12) (textR 40))) mkM
def listR:Rd (List Mtr):=onlyR (rowR 5 mtrR) listB
def putM (x:Mtr):Byt:=x.1.toNat.toUInt8::(txtB x.2.1++txtB x.2.2)
def putL (M:List Mtr):Byt:=z3g putM M
theorem z6R:EndsR mtrR:=z0E (z0J ends_byte (z0J (z1a 12) (z1a 40))) _
theorem ends_list:EndsR listR:=z5o (z9v z6R 5) _
theorem z9J:Fits mtrR putM (fun x=>0≤x.1∧x.1<256∧x.2.1.size≤12∧x.2.2.size≤40):=by
 refine dress_fits (z17 byte_fits (z17 (z0S (by decide)) (z0S (by decide)))) (g:=fun x=>(x.1.toNat.toUInt8,x.2.1,x.2.2)) ?_ ?_
 · rintro⟨c,n,v⟩ ⟨_,h1,h2⟩;have:=c.toNat_lt;refine⟨⟨by simp only[mkM];omega,by simp only[mkM];omega,h1,h2⟩,?_⟩
   simp only[putM,mkM,Int.toNat_natCast,toUInt8_toNat];rfl
 · rintro⟨k,n,v⟩ ⟨h0,h1,h2,h3⟩;refine⟨⟨trivial,h2,h3⟩,?_⟩;simp only at h0 h1;have:(k.toNat.toUInt8.toNat:Int)=k:=by rw[toNat_toUInt8 (by omega)];omega
   simp only[mkM,this]
theorem z6e {s:ByteArray} (h:(z2Z s).2=true):s.size≤40:=by
 unfold z2Z at h;rcases Nat.lt_or_ge 40 s.size with h40|h40
 · exfalso
   have:=(z8q s 8 0 true).2 rfl;simp[h40,this]at h
 · exact h40
theorem z9K {k:Int} {nm v:ByteArray} (h:isB k nm v=true):(1≤k∧k≤4)∧nm.size≤12∧v.size≤40:=by
 unfold isB nameB at h;simp only[Bool.and_eq_true,decide_eq_true_eq]at h;obtain⟨⟨⟨⟨_,hn⟩,_⟩,_⟩,h2⟩:=h;split at h2
 · rename_i hl;unfold likeB at hl;simp only[Bool.or_eq_true,beq_iff_eq]at hl;exact⟨by omega,hn,z6e h2⟩
 · simp only[Bool.and_eq_true,Bool.or_eq_true,beq_iff_eq,decide_eq_true_eq]at h2;exact⟨by omega,hn,by omega⟩
theorem z4A:Fits listR putL (fun M=>listB M=true):=by
 refine(z2b (z4P (by decide) z9J) listB).weaken fun M=>⟨fun h=>h.2,fun h=>⟨?_,h⟩⟩
 unfold listB at h;simp only[Bool.and_eq_true,decide_eq_true_eq]at h;refine⟨h.1,fun x hx=>?_⟩
 obtain⟨i,hi,rfl⟩:=List.getElem_of_mem hx;have h2:=List.all_eq_true.1 h.2 i (List.mem_range.2 hi);unfold okL isM at h2;simp only[Bool.and_eq_true]at h2;have e:M.getD i noM3=M[i]:=by rw[List.getD_eq_getElem?_getD,List.getElem?_eq_getElem hi];rfl
 rw[e]at h2;have:=z9K h2.1;omega
def mtrS (b:Byt) (q:Nat×Bool):Mtr×(Nat×Bool):=z19 (seqSt (runR byteR 0 b) (seqSt (runR (textR 12) ⟨#[]⟩ b) (runR (textR 40) ⟨#[]⟩ b))) mkM q
theorem z4b (b:Byt):StepsR b mtrR (mtrS b):=z0q (z0i (z0a b byteR 0) (z0i (z0a b _ _) (z0a b _ _) (z1a 12)) ends_byte) _
def listS (b:Byt):Nat×Bool→List Mtr×(Nat×Bool):=z0m (rowSt 5 b (mtrS b)) listB
theorem z7u (b:Byt):StepsR b listR (listS b):=z0A (z3Z (z4b b) z6R 5) _
def readV {α:Type} (r:Option (α×Byt)) (b:Byt) (enc:α→AV) (none_:AV):AV:=match r with
 |some p=>.tup [enc p.1,I (b.length-p.2.length:Nat),Bo true]
 |none=>.tup [none_,I 0,Bo false]
theorem z1A {most:Nat} (b:Byt) (q:Nat×Bool):(runR (numR most) 0 b q).1≤most:=by
 unfold runR;split
 · exact Nat.zero_le _
 · split
   · exact Nat.zero_le _
   · rename_i p h;simp only[numR]at h
     cases hg:getN 0 (b.drop q.1) with
     |none=>simp[hg]at h
     |some x =>
      simp only[hg,Option.bind_some]at h;split at h
      · simp only[Option.some.injEq]at h;rw[←h];assumption
      · cases h
theorem z8w (M:List Mtr) (x:Mtr):mvs3 M++[mv3 x]=mvs3 (M++[x]):=by simp[mvs3]
theorem z0L {n:Nat} {x:AV} {i:Int} {c:Bool} (h:Bel n x):Bel n (.tup [x,I i,Bo c]):=.tup _ fun j hj=>by
 have:∀y∈([x,I i,Bo c]:List AV),Bel n y:=by
  intro y hy;simp only[List.mem_cons,List.not_mem_nil,or_false]at hy;rcases hy with rfl|rfl|rfl
  · exact h
  · exact .pl _
  · exact .pl _
 exact this _ (List.getElem_mem hj)
theorem z7v (σ:St) (b:Byt) (hb:b.length≤50000):Ans Tryd.prog 43 [.sl 1 (byv b)] σ (readV (listR b) b (fun M=>.sl 3 (mvs3 M)) .nils) σ:=by
 have hS:=(z7u b).top;refine Ans.of_run' t43 (fun q0 _=>?_)
 simp -implicitDefEqProofs only[c43,r43,go_sem];refine CO.intro (z2E σ b) ?_;simp -implicitDefEqProofs only[go_sem,List.append_assoc,List.length_append];generalize m0:runR (numR 5) 0 b (0,false)=q1;have k0:Inb b (0,false):=Nat.zero_le _;have hn:=z1g (σ++[rob b (0,false),.row 3 []]) σ.length b (0,false) 5 (by decide) (g0 _ _ _) k0 hb
 rw[m0,s0]at hn;refine CO.intro hn ?_;have hn5:q1.1≤5:=by rw[←m0];exact z1A b _
 have j0:Inb b q1.2:=by rw[←m0];exact z09 _ _ _ _ k0
 simp -implicitDefEqProofs only[go_sem];refine Go.Ab.L.count q1.1 (fun i=>mkE 40 [(5,.ptr σ.length 0),(6,.osl (σ.length+1) i),(12,UN q1.1),(13,UN i)]) (fun i=>σ++[rob b (itSt (mtrS b) q1.2 i).2,.row 3 (mvs3 (itSt (mtrS b) q1.2 i).1)]) ?_ ?_ rfl rfl
 · intro i hi J hJ;have u0:=z1t (z4b b).inb q1.2 j0 i;have hlen:=z21 (mtrS b) q1.2 i;simp only[itSt]at hJ;generalize itSt (mtrS b) q1.2 i=c at hJ u0 hlen⊢;obtain⟨l,q⟩:=c;simp only at hJ u0 hlen⊢;have d0:decide ((i:Int)<q1.1)=true:=dec_lt hi;have w0:=z1U (n:=i+1) (by omega)
   have e0:((i:Int)+1)=((i+1:Nat):Int):=rfl;unfold mtrS z19 seqSt at hJ;simp only at hJ;simp -implicitDefEqProofs only[mkE,go_sem,d0];have h1:=z0B (σ++[rob b q,.row 3 (mvs3 l)]) σ.length b q (g0 _ _ _) u0 hb;have n0:=z09 byteR 0 b q u0;generalize runR byteR 0 b q=r1 at h1 n0 hJ;rw[s0]at h1;refine CO.intro h1 ?_;have h2:=z1I (σ++[rob b r1.2,.row 3 (mvs3 l)]) σ.length b r1.2 12 (by decide) (g0 _ _ _) n0 hb
   have r0:=z09 (textR 12) ⟨#[]⟩ b r1.2 n0;generalize runR (textR 12) ⟨#[]⟩ b r1.2=r2 at h2 r0 hJ;rw[s0]at h2;simp -implicitDefEqProofs only[go_sem,bc];refine CO.intro h2 ?_;have h3:=z1I (σ++[rob b r2.2,.row 3 (mvs3 l)]) σ.length b r2.2 40 (by decide) (g0 _ _ _) r0 hb
   generalize runR (textR 40) ⟨#[]⟩ b r2.2=r3 at h3 hJ;rw[s0]at h3;simp -implicitDefEqProofs only[go_sem];refine CO.intro h3 ?_;have hl:(mvs3 l).length=i:=by rw[z0D,hlen]
   have hw:IntKind.i64.wrap (r1.1.toNat:Int)=(r1.1.toNat:Int):=wrapI (by have:=r1.1.toNat_lt;omega)
   have hle:i+1≤4294967296:=by omega
   have t0:=z8w l (mkM (r1.1,r2.1,r3.1));simp -implicitDefEqProofs only[go_sem,hw,g1,s1,hl,hle,List.length_singleton,e0,w0];rw[←t0]at hJ;exact hJ
 · intro J;have u0:=z1t (z4b b).inb q1.2 j0 q1.1;have hlen:=z21 (mtrS b) q1.2 q1.1
   have hL:listS b (0,false)=((itSt (mtrS b) q1.2 q1.1).1,took (itSt (mtrS b) q1.2 q1.1).2 0 (listB (itSt (mtrS b) q1.2 q1.1).1)):=by
    unfold listS z0m rowSt;rw[m0]
   rw[hL]at hS;generalize itSt (mtrS b) q1.2 q1.1=c at hS u0 hlen⊢;obtain⟨l,q⟩:=c;simp only at hS u0 hlen⊢;have hl:(mvs3 l).length=q1.1:=by rw[z0D,hlen]
   have d0:decide ((q1.1:Int)<q1.1)=false:=by simp
   simp -implicitDefEqProofs only[mkE,go_sem,d0,g1,s1,hl];refine CO.intro (z0U _ l) ?_;have h2:=z08 (σ++[rob b q,.dead]) σ.length b q (listB l) (g0 _ _ _) u0 hb;rw[s0]at h2;simp -implicitDefEqProofs only[go_sem];refine CO.intro h2 ?_;have h3:=z1z (σ++[rob b (took q 0 (listB l)),.dead]) σ.length b (took q 0 (listB l)) (g0 _ _ _);simp -implicitDefEqProofs only[go_sem];refine CO.intro h3 ?_;have f0:Bel σ.length (.sl 3 (mvs3 l)):=z0K _ _
   cases hr:listR b with
   |none =>
    have y0:=hS.2 hr;rw[y0];simp -implicitDefEqProofs only[go_sem];exact Fini.trim2 (σ':=σ) rfl rfl (Nat.le_refl _) (by unfold readV;exact z0L .nils) q0
   |some p =>
    obtain⟨M,t⟩:=p;have y0:=hS.1 M t hr;simp only[Prod.mk.injEq]at y0;obtain⟨rfl,y0⟩:=y0;rw[y0];simp -implicitDefEqProofs only[go_sem];refine Fini.trim2 (σ':=σ) rfl rfl (Nat.le_refl _) ?_ q0;unfold readV;exact z0L f0
theorem z5A (σ:St) (b:Byt) (hb:b.length≤50000):Ans Tryd.prog 43 [.sl 1 (byv b)] σ (readV (listR b) b (fun M=>.sl 3 (mvs3 M)) (.sl 3 [])) σ:=by
 refine(z7v σ b hb).subR ?_;unfold readV
 cases listR b with
 |none=>exact .tup (.cons (.nils 3) (.refl _))
 |some p=>exact .refl _
theorem z9L (s:ByteArray) (h:s.size≤1000000):(txtB s).length≤10+s.size:=by
 have h10:=z0Y (n:=s.size) (by omega)
 rw[txtB,List.length_append,z16];omega
section
variable (σ:St)
end
def okV (u:Nat):Bool:=decide (bitsF u=u)
def valR:Rd Nat:=onlyR wordR okV
def putV (u:Nat):Byt:=wrdB (bitsF u)
theorem val_fits:Fits valR putV (fun u=>u<2^64∧bitsF u=u):=by
 have h:=z2b word_fits okV;refine⟨fun a t ho=>?_,fun b a t hr=>?_⟩
 · have:=h.fwd a t ⟨ho.1,by unfold okV;exact decide_eq_true ho.2⟩
   unfold putV;rw[ho.2];exact this
 · obtain⟨⟨h1,h2⟩,h3⟩:=h.bwd b a t hr;have h2:bitsF a=a:=by unfold okV at h2;exact of_decide_eq_true h2
   exact⟨⟨h1,h2⟩,by unfold putV;rw[h2];exact h3⟩
theorem z4Y:EndsR valR:=val_fits.ends
abbrev Bnd:=Bool×Nat×Nat
def bnd0:Rd Bnd
 |[]=>none
 |c::t=>if c=0 then(seqR valR valR t).map (fun p=>((false,p.1.1,p.1.2),p.2)) else if c=1 then some ((true,0,0),t) else none
def bandR:Rd Bnd:=onlyR bnd0 (fun x=>mayB x.1 x.2.1 x.2.2)
def putBd (x:Bnd):Byt:=if x.1 then[1] else 0::(putV x.2.1++putV x.2.2)
def bndOk (x:Bnd):Prop:=if x.1 then x.2.1=0∧x.2.2=0 else(x.2.1<2^64∧bitsF x.2.1=x.2.1)∧(x.2.2<2^64∧bitsF x.2.2=x.2.2)
theorem z8x:Fits bnd0 putBd bndOk where
 fwd x t h:=by
  obtain⟨any,lo,hi⟩:=x
  cases any with
  |true =>
   obtain⟨rfl,rfl⟩:lo=0∧hi=0:=h;rfl
  |false =>
   have h:(lo<2^64∧bitsF lo=lo)∧(hi<2^64∧bitsF hi=hi):=h;have h2:=(z17 val_fits val_fits).fwd (lo,hi) t h;simp only at h2;simp only[putBd,Bool.false_eq_true,if_false,bnd0,List.cons_append,if_true,h2,Option.map_some]
 bwd b x t hr:=by
  cases b with
  |nil=>cases hr
  |cons c u =>
   simp only[bnd0]at hr;split at hr
   · rename_i hc
     cases h1:seqR valR valR u with
     |none=>simp[h1]at hr
     |some p =>
      simp only[h1,Option.map_some,Option.some.injEq,Prod.mk.injEq]at hr;obtain⟨rfl,rfl⟩:=hr;obtain⟨h2,h3⟩:=(z17 val_fits val_fits).bwd _ _ _ h1;refine⟨h2,?_⟩;rw[h3,hc];rfl
   · split at hr
     · rename_i hc;simp only[Option.some.injEq,Prod.mk.injEq]at hr;obtain⟨rfl,rfl⟩:=hr;exact⟨⟨rfl,rfl⟩,by rw[hc];rfl⟩
     · cases hr
def bMay (x:Bnd):Bool:=mayB x.1 x.2.1 x.2.2
def bSz (x:Bnd):Prop:=x.2.1<2^64∧x.2.2<2^64
theorem z7w {a b:Nat} (h:leF a b=true):nanF a=false∧nanF b=false:=by
 unfold leF Ieee.Format.order at h;unfold nanF Ieee.Format.order;generalize FloatKind.f64.format.read a=x at *;generalize FloatKind.f64.format.read b=y at *
 cases x with
 |nan s m=>simp[Ieee.Datum.order]at h
 |infinity s =>
  cases y with
  |nan t n=>simp[Ieee.Datum.order]at h
  |infinity t=>cases s<;>cases t<;>simp[Ieee.Datum.order]at h⊢
  |number t n j=>cases s<;>simp[Ieee.Datum.order]at h⊢
 |number s m i =>
  cases y with
  |nan t n=>simp[Ieee.Datum.order]at h
  |infinity t=>cases t<;>simp[Ieee.Datum.order]at h⊢
  |number t n j=>simp[Ieee.Datum.order]
theorem z5B {a:Nat} (h:nanF a=false):bitsF a=a:=by unfold bitsF;rw[h];rfl
theorem z4B {a:Nat} (h:bitsF a=0):a=0:=by
 unfold bitsF at h;split at h
 · cases h
 · exact h
theorem zci {x:Bnd} (h:bMay x=true) (w:bSz x):bndOk x:=by
 obtain⟨any,lo,hi⟩:=x;unfold bMay mayB at h
 cases any with
 |true =>
  simp only[if_true,Bool.and_eq_true,beq_iff_eq]at h;exact⟨z4B (Int.ofNat.inj h.1),z4B (Int.ofNat.inj h.2)⟩
 |false =>
  obtain⟨h1,h2⟩:=z7w h;exact⟨⟨w.1,z5B h1⟩,⟨w.2,z5B h2⟩⟩
theorem ok_sz {x:Bnd} (h:bndOk x):bSz x:=by
 obtain⟨any,lo,hi⟩:=x
 cases any with
 |true =>
  obtain⟨rfl,rfl⟩:lo=0∧hi=0:=h;exact⟨by decide,by decide⟩
 |false =>
  have h:(lo<2^64∧bitsF lo=lo)∧(hi<2^64∧bitsF hi=hi):=h;exact⟨h.1.1,h.2.1⟩
theorem band_fits:Fits bandR putBd (fun x=>bMay x=true∧bSz x) :=
 (z2b z8x bMay).weaken fun x=>⟨fun h=>⟨h.2,ok_sz h.1⟩,fun h=>⟨zci h.1 h.2,h.1⟩⟩
theorem ends_band:EndsR bandR:=band_fits.ends
def mkRu (x:List Mtr×List Mtr×Bnd×List ByteArray):RuM:=⟨x.1,x.2.1,x.2.2.1.1,x.2.2.1.2.1,x.2.2.1.2.2,x.2.2.2⟩
def ruR0:Rd RuM:=z0W (seqR listR (seqR listR (seqR bandR (rowR 4 (textR 12))))) mkRu
def ruR:Rd RuM:=onlyR ruR0 ruIs
def putR (r:RuM):Byt:=putL r.src++(putL r.tgt++(putBd (r.any,r.lo,r.hi)++z3g txtB r.eq))
def ruSz (r:RuM):Prop:=r.lo<2^64∧r.hi<2^64
theorem z9M:Fits ruR0 putR (fun r=>listB r.src=true∧listB r.tgt=true∧(mayB r.any r.lo r.hi=true∧ruSz r)∧(r.eq.length≤4∧∀a∈r.eq,a.size≤12)) :=
 dress_fits (z17 z4A (z17 z4A (z17 band_fits (z4P (by decide) (z0S (by decide)))))) (g:=fun r=>(r.src,r.tgt,(r.any,r.lo,r.hi),r.eq))
  (fun _ h=>⟨h,rfl⟩) (fun _ h=>⟨h,rfl⟩)
theorem z4C {s:ByteArray} (h:nameB s=true):s.size≤12:=by
 unfold nameB at h;simp only[Bool.and_eq_true,decide_eq_true_eq]at h;exact h.1.1.2
theorem zcj {e:List ByteArray} (h:eqB e=true):e.length≤4∧∀a∈e,a.size≤12:=by
 unfold eqB at h;simp only[Bool.and_eq_true,decide_eq_true_eq]at h;refine⟨h.1,fun a ha=>?_⟩
 obtain⟨i,hi,rfl⟩:=List.getElem_of_mem ha;have h2:=List.all_eq_true.1 h.2 i (List.mem_range.2 hi);unfold eqOk at h2;simp only[Bool.and_eq_true]at h2;have e2:e.getD i ⟨#[]⟩=e[i]:=by rw[List.getD_eq_getElem?_getD,List.getElem?_eq_getElem hi];rfl
 rw[e2]at h2;exact z4C h2.1
theorem z3H {r:RuM} (h:ruIs r=true):listB r.src=true∧listB r.tgt=true∧mayB r.any r.lo r.hi=true∧(r.eq.length≤4∧∀a∈r.eq,a.size≤12):=by
 unfold ruIs at h;simp only[Bool.and_eq_true]at h;exact⟨h.2.2.1,h.2.2.2.1,h.2.2.2.2.1,zcj h.2.2.2.2.2⟩
theorem ru_fits:Fits ruR putR (fun r=>ruIs r=true∧ruSz r) :=
 (z2b z9M ruIs).weaken fun r=>⟨fun h=>⟨h.2,h.1.2.2.1.2⟩,fun h=>⟨⟨(z3H h.1).1,(z3H h.1).2.1,⟨(z3H h.1).2.2.1,h.2⟩,(z3H h.1).2.2.2⟩,h.1⟩⟩
theorem ends_ru:EndsR ruR:=ru_fits.ends
theorem z8y {α:Type} {b:Byt} {rd:Rd α} {st st':Nat×Bool→α×(Nat×Bool)} (h:StepsR b rd st) (h2:∀q,(st' q).2=(st q).2) (h3:∀q,(st q).2.2=false→st' q=st q):StepsR b rd st' where
 some_ a x t ha hr:=by
  have:=h.some_ a x t ha hr;rw[h3 _ (by rw[this]),this]
 none_ a ha hr:=by rw[h2];exact h.none_ a ha hr
 bad a:=by rw[h2];exact h.bad a
 inb q hq:=by rw[h2];exact h.inb q hq
def valS (b:Byt) (q:Nat×Bool):Nat×(Nat×Bool):=(if okV (runR wordR 0 b q).1 then(runR wordR 0 b q).1 else 0,took (runR wordR 0 b q).2 0 (okV (runR wordR 0 b q).1))
theorem z0j (b:Byt):StepsR b valR (valS b):=by
 refine z8y (z0A (z0a b wordR 0) okV) (fun q=>rfl) fun q h=>?_
 unfold z0m took at h;unfold valS z0m;simp only at h⊢
 cases ho:okV (runR wordR 0 b q).1 with
 |true=>rfl
 |false=>rw[ho]at h;simp at h
def bnd0S (b:Byt) (q:Nat×Bool):Bnd×(Nat×Bool) :=
 if(runR byteR 0 b q).1=0 then((false,(valS b (runR byteR 0 b q).2).1,(valS b (valS b (runR byteR 0 b q).2).2).1),(valS b (valS b (runR byteR 0 b q).2).2).2)
 else if(runR byteR 0 b q).1=1 then((true,0,0),(runR byteR 0 b q).2) else((false,0,0),took (runR byteR 0 b q).2 0 false)
theorem z7x (b:Byt):StepsR b bnd0 (bnd0S b) where
 some_ a x t ha hr:=by
  cases hd:b.drop a with
  |nil=>rw[hd]at hr;cases hr
  |cons c u =>
   have h1:byteR (b.drop a)=some (c,u):=by rw[hd];rfl
   obtain⟨e1,e2,e3⟩:=ends_byte.drop ha h1;rw[hd]at hr;simp only[bnd0]at hr;unfold bnd0S;simp only[z0k h1];split at hr
   · rename_i hc;rw[if_pos hc]
     cases h2:seqR valR valR u with
     |none=>simp[h2]at hr
     |some p =>
      simp only[h2,Option.map_some,Option.some.injEq,Prod.mk.injEq]at hr;obtain⟨rfl,rfl⟩:=hr;have:=(z0i (z0j b) (z0j b) z4Y).some_ (b.length-u.length) p.1 p.2 (by omega) (by rw[e1];exact h2)
      unfold seqSt at this;simp only[Prod.ext_iff]at this⊢;simp only[this,and_self]
   · rename_i hc;rw[if_neg hc];split at hr
     · rename_i hc;rw[if_pos hc];simp only[Option.some.injEq,Prod.mk.injEq]at hr;obtain⟨rfl,rfl⟩:=hr;rfl
     · cases hr
 none_ a ha hr:=by
  cases hd:b.drop a with
  |nil =>
   have h1:byteR (b.drop a)=none:=by rw[hd];rfl
   unfold bnd0S;simp only[z0p h1,if_true];exact z20 (z0j b).bad _ ((z0j b).bad a)
  |cons c u =>
   have h1:byteR (b.drop a)=some (c,u):=by rw[hd];rfl
   obtain⟨e1,e2,e3⟩:=ends_byte.drop ha h1;rw[hd]at hr;simp only[bnd0]at hr;unfold bnd0S;simp only[z0k h1];split at hr
   · rename_i hc;rw[if_pos hc]
     cases h2:seqR valR valR u with
     |some p=>simp[h2]at hr
     |none =>
      exact(z0i (z0j b) (z0j b) z4Y).none_ (b.length-u.length) (by omega) (by rw[e1];exact h2)
   · rename_i hc;rw[if_neg hc];split at hr
     · cases hr
     · rename_i hc;rw[if_neg hc];rfl
 bad a:=by
  unfold bnd0S;simp only[z0l,if_true];exact z20 (z0j b).bad _ ((z0j b).bad a)
 inb q hq:=by
  have h1:=z09 byteR 0 b q hq;unfold bnd0S;split
  · exact(z0j b).inb _ ((z0j b).inb _ h1)
  · split
    · exact h1
    · exact z0I b _ _ h1
def bandS (b:Byt):Nat×Bool→Bnd×(Nat×Bool):=z0m (bnd0S b) bMay
theorem z7y (b:Byt):StepsR b bandR (bandS b):=z0A (z7x b) _
def ruS (b:Byt):Nat×Bool→RuM×(Nat×Bool) :=
 z0m (z19 (seqSt (runR listR [] b) (seqSt (runR listR [] b) (seqSt (runR bandR (false,0,0) b) (rowSt 4 b (runR (textR 12) ⟨#[]⟩ b))))) mkRu) ruIs
theorem z9N (b:Byt):StepsR b ruR (ruS b) :=
 z0A (z0q (z0i (z0a b listR []) (z0i (z0a b listR []) (z0i (z0a b bandR _) (z3Z (z0a b (textR 12) _) (z1a 12) 4) ends_band) ends_list) ends_list) mkRu) ruIs
end Go.Proofs.YteakobbdgehlgaaDoor
namespace Go.Ab
section
variable {P:Program} {f:FuncId} {args:List AV} {σ:St}
end
end Go.Ab
namespace Go.Proofs.YteakobbdgehlgaaDoor
open Go Go.Ab Go.Cod
abbrev Zb:AV:=.pl (.int .u8 0)
abbrev bsv (bs:List Byt):List AV:=bs.map fun b=>.sl 1 (byv b)
theorem z1i (bs:List Byt):(bsv bs).length=bs.length:=List.length_map ..
theorem z23 (bs:List Byt) (i:Nat) (h:i<bs.length):(bsv bs)[i]?=some (.sl 1 (byv bs[i])):=by simp[h]
theorem z5C (bs:List Byt) (i:Nat) (h:i<bs.length):(bs.take (i+1)).flatten=(bs.take i).flatten++bs[i]:=by
 rw[List.take_succ_eq_append_getElem h,List.flatten_append];simp
theorem z8z (bs:List Byt) (i:Nat):((bs.take i).flatten).length≤bs.flatten.length:=by
 have:bs.flatten=(bs.take i).flatten++(bs.drop i).flatten:=by rw[←List.flatten_append,List.take_append_drop]
 rw[this,List.length_append];omega
section
variable (σ:St)
theorem z9O (n:Nat) (h:0<n) (hn:n≤1000000):Ans Tryd.prog 37 [.nils,I n] σ (.osl (σ.length+1) 0) (σ++[.dead,.row 1 []]):=by
 have d0:decide ((n:Int)<0)=false:=by simp
 have w1:IntKind.i64.wrap (n:Int)=n:=wrapI (by omega)
 have d1:decide ((0:Int)<n)=true:=by simp;omega
 have hz:((n:Int)=0)=False:=eq_false (by omega)
 have hp:((0:Int)<n)=True:=eq_true (by omega)
 have hle:((n:Int)≤4294967296)=True:=eq_true (by omega)
 have hc:(chunks 1 false n (z07 [Zb] n)).length=n:=z0M _ _ _ _;have z0:Int.toNat 0=0:=rfl;refine Ans.of_run t37 ?_;simp -implicitDefEqProofs only[c37,r37,go_sem,d0];have z0:Int.toNat 0=0:=rfl;have z1:Int.toNat ((n:Nat):Int)=n:=Int.toNat_natCast n;have w0:IntKind.i64.wrap 0=0:=rfl;simp -implicitDefEqProofs only[go_sem,d0,Int.sub_zero,w1,d1,w0,hz,hp,hle,z0,z1,g0,s0,hc,List.take_zero,List.drop_zero,Int.natCast_nonneg,Int.le_refl,Nat.sub_zero,List.length_append,List.length_cons,List.length_nil,List.append_assoc,List.cons_append,List.nil_append];exact Fini.ret rfl
theorem z4D (bs:List Byt) (hl:bs.length≤100) (h0:0<bs.flatten.length) (h1:bs.flatten.length≤1000000) :
  Ans Tryd.prog 33 [.sl 1 (bsv bs)] σ (.sl 1 (byv bs.flatten)) σ:=by
 refine Ans.of_run' t33 (fun u0 _=>?_)
 simp -implicitDefEqProofs only[c33,r33,go_sem,z1i];refine Go.Ab.L.count bs.length (fun i=>mkE 36 [(0,.sl 1 (bsv bs)),(3,I ((bs.take i).flatten.length:Nat)),(9,.sl 1 (bsv bs)),(10,I bs.length),(11,I i)]) (fun _=>σ) ?_ ?_ rfl rfl
 · intro i hi J hJ;have hf:=z8z bs (i+1);rw[z5C bs i hi]at hJ hf;have hx:=z23 bs i hi;rw[List.length_append]at hJ hf;generalize bs[i]=c at hJ hf hx;generalize (bs.take i).flatten.length=t at hJ hf⊢;have ha:IntKind.i64.wrap ((t:Int)+(c.length:Int))=((t+c.length:Nat):Int):=by rw[wrapN (by omega) (by omega)];omega
   have d0:decide (((t+c.length:Nat):Int)<0)=false:=by simp;omega
   have y0:=wrap_succ (i:=i) (by omega)
   simp -implicitDefEqProofs only[mkE,go_sem,z1i,z1p hi,dec_lt hi,hx,z05,ha,d0,y0];exact hJ
 · intro J;have d0:decide ((bs.length:Int)<bs.length)=false:=by simp
   simp -implicitDefEqProofs only[mkE,go_sem,z1i,d0,List.take_length];refine CO.intro (z9O σ bs.flatten.length h0 h1) ?_;simp -implicitDefEqProofs only[go_sem,z1i];refine Go.Ab.L.count bs.length (fun i=>mkE 36 [(6,.osl (σ.length+1) (bs.take i).flatten.length),(25,.sl 1 (bsv bs)),(26,I bs.length),(27,I i)]) (fun i=>σ++[.dead,.row 1 (byv (bs.take i).flatten)]) ?_ ?_ rfl rfl
   · intro i hi J hJ;have hf:=z8z bs (i+1);rw[z5C bs i hi]at hJ hf;have hx:=z23 bs i hi;rw[List.length_append]at hJ hf;generalize bs[i]=c at hJ hf hx;generalize (bs.take i).flatten=t at hJ hf⊢;have hle:t.length+c.length≤4294967296:=by omega
     have y0:=wrap_succ (i:=i) (by omega)
     simp -implicitDefEqProofs only[mkE,go_sem,z1i,z1p hi,dec_lt hi,hx,z05,z1s,bc,y0,g1,s1,hle];simp only[z2k]at hJ;exact hJ
   · intro J;simp -implicitDefEqProofs only[mkE,go_sem,z1i,d0,List.take_length];have gg:(σ++[Ob.dead,Ob.row 1 (byv bs.flatten)])[σ.length+1]?=some (.row 1 (byv bs.flatten)):=by rw[List.getElem?_append_right (by omega)];simp
     have gs:List.set (σ++[Ob.dead,Ob.row 1 (byv bs.flatten)]) (σ.length+1) Ob.dead=σ++[.dead,.dead]:=by rw[List.set_append_right _ _ (by omega)];simp
     simp only[gg,z05,if_true,gs];exact Fini.trim2 (σ':=σ) (ex:=[_,_]) rfl rfl (Nat.le_refl _) (z1y _ _) u0
theorem z8A (bs:List Byt) (hl:bs.length≤100) (h0:0<bs.flatten.length) (h1:bs.flatten.length≤1000000) :
  Ans Tryd.prog 33 [.sl 1 (bsv bs)] σ (.sl 1 (byv bs.flatten)) σ :=
 z4D σ bs hl h0 h1
end
theorem z9P (l z:List AV) (i:Nat) (h:i<l.length) (hz:l.length=z.length):(l.take i++z.drop i).set i l[i]=l.take (i+1)++z.drop (i+1):=by
 have h1:(l.take i).length=i:=by rw[List.length_take];omega
 rw[List.set_append_right _ _ (by omega),h1,Nat.sub_self,List.drop_eq_getElem_cons (by omega),List.set_cons_zero,List.take_succ_eq_append_getElem h,List.append_assoc]
 rfl
def fillW (n i:Nat):List AV:=(byv (wrdB n)).take i++(List.replicate 8 Zb).drop i
theorem wrdB_len (n:Nat):(wrdB n).length=8:=rfl
theorem z5D (n i:Nat) (h:i≤8):(fillW n i).length=8:=by
 unfold fillW;rw[List.length_append,List.length_take,List.length_drop,z05,wrdB_len,List.length_replicate];omega
theorem z8B (n i:Nat) (h:i<8):(fillW n i).set i (bc (n/2^(56-8*i)).toUInt8)=fillW n (i+1):=by
 have e:(byv (wrdB n))[i]'(by rw[z05,wrdB_len];exact h)=bc (n/2^(56-8*i)).toUInt8:=by
  match i,h with
  |0,_=>rfl
  |1,_=>rfl
  |2,_=>rfl
  |3,_=>rfl
  |4,_=>rfl
  |5,_=>rfl
  |6,_=>rfl
  |7,_=>show bc n.toUInt8=bc (n/2^0).toUInt8;rw[Nat.pow_zero,Nat.div_one]
 have:=z9P (byv (wrdB n)) (List.replicate 8 Zb) i (by rw[z05,wrdB_len];exact h) (by rw[z05,wrdB_len,List.length_replicate])
 rw[e]at this;exact this
theorem z8C (n i:Nat) (h:i<8):(fillW n i)[i]?=some Zb:=by
 unfold fillW;have h1:((byv (wrdB n)).take i).length=i:=by rw[List.length_take,z05,wrdB_len];omega
 rw[List.getElem?_append_right (by omega),h1,Nat.sub_self,List.getElem?_drop,List.getElem?_replicate,if_pos (by omega)]
theorem mks8:(chunks 1 false (8:Int).toNat (z07 [Zb] (8:Int).toNat)).take (8:Int).toNat=List.replicate 8 Zb:=rfl
theorem shrN (n k:Nat) (h:k≤64):((n:Int).fdiv (2^min ((k:Nat):Int).toNat 64))=((n/2^k:Nat):Int):=by
 have:min ((k:Nat):Int).toNat 64=k:=by rw[Int.toNat_natCast];omega
 rw[this,Int.fdiv_eq_ediv_of_nonneg _ (Int.pow_nonneg (by decide))]
 push_cast;rfl
theorem zck (n:Nat):IntKind.u8.wrap (n:Int)=((n.toUInt8.toNat:Nat):Int):=by
 rw[z8c,toUInt8_mod]
section
variable (σ:St)
theorem z6f (n:Nat):Ans Tryd.prog 20 [UN n] σ (.sl 1 (byv (wrdB n))) σ:=by
 refine Ans.of_run' t20 (fun q0 _=>?_)
 have z8:Int.toNat 8=8:=rfl;simp -implicitDefEqProofs only[c20,r20,go_sem,mks8,z8,g0,s0,List.length_cons,List.length_nil];refine Go.Ab.L.count 8 (fun i=>mkE 22 [(0,UN n),(3,.osl σ.length 8),(7,I 8),(8,I i)]) (fun i=>σ++[.row 1 (fillW n i)]) ?_ ?_ rfl rfl
 · intro i hi J hJ;have hl:=z5D n i (by omega)
   have d0:decide ((i:Int)<8)=true:=by simp;omega
   have w1:IntKind.i64.wrap (8*(i:Int))=((8*i:Nat):Int):=by rw[wrapN (by omega) (by omega)];push_cast;rfl
   have w2:IntKind.i64.wrap (56-((8*i:Nat):Int))=((56-8*i:Nat):Int):=by rw[wrapN (by omega) (by omega)];omega
   have h3:=shrN n (56-8*i) (by omega)
   rw[Int.toNat_natCast]at h3;have j0:((i:Int)<((8:Nat):Int))=True:=eq_true (by omega)
   have y0:(fillW n i)[i]?=some Zb:=z8C n i hi;have k0:=wrap_succ (i:=i) (by omega)
   have u0:(fillW n i).set i (.pl (.int .u8 ((n/2^(56-8*i)).toUInt8.toNat:Nat)))=fillW n (i+1):=z8B n i hi;simp -implicitDefEqProofs only[mkE,go_sem,d0,w1,w2,h3,zck,g0,s0,hl,k0,u0,j0,y0];exact hJ
 · intro J;have hl:=z5D n 8 (by omega)
   have d0:decide (((8:Nat):Int)<8)=false:=by decide
   have e8:fillW n 8=byv (wrdB n):=by unfold fillW;rw[List.take_of_length_le (by rw[z05,wrdB_len];omega)];simp
   simp -implicitDefEqProofs only[mkE,go_sem,d0,g0,s0,hl,e8];exact Fini.trim2 (σ':=σ) rfl rfl (Nat.le_refl _) (z1y _ _) q0
def wN (b:Byt):Nat:=b.foldl (fun a c=>a*256+c.toNat) 0
theorem zbq (b:Byt) (c:UInt8):wN (b++[c])=wN b*256+c.toNat:=by simp[wN]
theorem zaC:∀(b:Byt) (a:Nat),b.foldl (fun a c=>a*256+c.toNat) a<(a+1)*2^(8*b.length)
 |[],a=>by simp
 |c::b,a=>by
  have ih:=zaC b (a*256+c.toNat);have hc:=c.toNat_lt;have e:8*(c::b).length=8+8*b.length:=by simp only[List.length_cons];omega
  rw[List.foldl_cons,e,Nat.pow_add,←Nat.mul_assoc];exact Nat.lt_of_lt_of_le ih (Nat.mul_le_mul_right _ (by omega))
theorem wN_lt (b:Byt):wN b<2^(8*b.length):=by have:=zaC b 0;simpa[wN] using this
theorem z6S:∀b:Byt,wordR b=if 8≤b.length then some (wN (b.take 8),b.drop 8) else none
 |a::b::c::d::e::f::g::h::t=>by
  rw[if_pos (by simp only[List.length_cons];omega)]
  simp[wordR,wN]
 |[]=>rfl
 |[_]=>rfl
 |[_,_]=>rfl
 |[_,_,_]=>rfl
 |[_,_,_,_]=>rfl
 |[_,_,_,_,_]=>rfl
 |[_,_,_,_,_,_]=>rfl
 |[_,_,_,_,_,_,_]=>rfl
theorem zcl (n c:Nat) (hc:c<256) (hn:n<2^56):IntKind.u64.wrap ((BitVec.ofInt 64 (IntKind.u64.wrap ((n:Int)*2^min 8 64)) ||| BitVec.ofInt 64 (c:Int)).toNat:Int)=((n*256+c:Nat):Int):=by
 have h:=zat c n 8 (by omega) (by decide) (by omega)
 rw[BitVec.or_comm];exact h.trans (by congr 1;omega)
def wordV (b:Byt):AV:=match wordR b with
 |none=>.tup [UN 0,Bo false]
 |some p=>.tup [UN p.1,Bo true]
theorem z6g (b:Byt) (hb:b.length≤100000):Ans Tryd.prog 60 [.sl 1 (byv b)] σ (wordV b) σ:=by
 refine Ans.of_run t60 ?_;unfold wordV;rw[z6S];by_cases h8:8≤b.length
 · have d0:decide ((b.length:Int)<8)=false:=by simp;omega
   have l8:(8:Int)≤(b.length:Nat):=by omega
   have u0:(b.take 8).length=8:=by rw[List.length_take];omega
   have z8:Int.toNat 8=8:=rfl;have z0:Int.toNat 0=0:=rfl;rw[if_pos h8];simp only;simp -implicitDefEqProofs only[c60,r60,go_sem,z05,d0,l8,z8,z0,z3z,z3A,List.drop_zero,u0];refine Go.Ab.L.count 8 (fun i=>mkE 24 [(4,UN (wN ((b.take 8).take i))),(11,.sl 1 (byv (b.take 8))),(12,I 8),(13,I i)]) (fun _=>σ) ?_ ?_ rfl rfl
   · intro i hi J hJ;have hx:=z8b (b.take 8) i (by omega)
     have hs:(b.take 8).take (i+1)=(b.take 8).take i++[(b.take 8)[i]]:=List.take_succ_eq_append_getElem (by omega)
     rw[hs,zbq]at hJ;have hl:=wN_lt ((b.take 8).take i);rw[List.length_take]at hl;have hl:wN ((b.take 8).take i)<2^56:=Nat.lt_of_lt_of_le hl (Nat.pow_le_pow_right (by decide) (by omega))
     have hc:=((b.take 8)[i]).toNat_lt;generalize (b.take 8)[i]=c at hx hJ hc;generalize wN ((b.take 8).take i)=w at hl hJ⊢;have j0:=zcl w c.toNat hc hl;have k0:=z1U (n:=c.toNat) (by omega)
     have d1:decide ((i:Int)<8)=true:=by simp;omega
     have y0:((i:Int)<((8:Nat):Int))=True:=eq_true (by omega)
     have q0:=wrap_succ (i:=i) (by omega)
     simp -implicitDefEqProofs only[mkE,go_sem,d1,z05,u0,y0,hx,bc,k0,z8,q0]
     have key:∀v:Int,v=((w*256+c.toNat:Nat):Int)→J (mkE 24 [(4,.pl (.int .u64 v)),(11,.sl 1 (byv (b.take 8))),(12,I 8),(13,I ((i+1:Nat):Int))]) σ:=by
      rintro _ rfl;exact hJ
     exact key _ j0
   · intro J;have d1:decide (((8:Nat):Int)<8)=false:=by decide
     have e8:(b.take 8).take 8=b.take 8:=List.take_of_length_le (by omega)
     simp -implicitDefEqProofs only[mkE,go_sem,d1,e8];exact Fini.ret rfl
 · have d0:decide ((b.length:Int)<8)=true:=by simp;omega
   rw[if_neg h8];simp -implicitDefEqProofs only[c60,r60,go_sem,z05,d0];exact Fini.ret rfl
theorem z5E (u:Nat):Ans Tryd.prog 58 [UN u] σ (Fl u) σ:=ext_frombits.ok _ _ _ _ rfl
theorem zaD (u:Nat):Ans Tryd.prog 50 [UN u] σ (.tup [Fl (if okV u then u else 0),Bo (okV u)]) σ:=by
 have e:(((bitsF u:Nat):Int) != (u:Nat))= !okV u:=by
  unfold okV;rw[bne];congr 1
  rw[Bool.eq_iff_iff];simp only[beq_iff_eq,decide_eq_true_eq];omega
 refine Ans.of_run t50 ?_;simp -implicitDefEqProofs only[c50,r50,go_sem];refine CO.intro (z5E σ u) ?_;simp -implicitDefEqProofs only[go_sem];refine CO.intro (z3G σ u) ?_;simp -implicitDefEqProofs only[go_sem,e]
 cases h:okV u with
 |true =>
  simp -implicitDefEqProofs only[go_sem];exact Fini.ret rfl
 |false =>
  simp -implicitDefEqProofs only[go_sem];exact Fini.ret rfl
section
variable (p:Nat) (b:Byt) (q:Nat×Bool)
theorem z6T (h:σ[p]?=some (rob b q)) (hq:Inb b q) (hb:b.length≤50000) :
  Ans Tryd.prog 51 [.ptr p 0] σ (UN (runR wordR 0 b q).1) (σ.set p (rob b (runR wordR 0 b q).2)):=by
 refine Ans.of_run t51 ?_;simp -implicitDefEqProofs only[c51,r51,go_sem];refine CO.intro (z0w σ p b q h hq) ?_;simp -implicitDefEqProofs only[go_sem];refine CO.intro (z6g σ (b.drop q.1) (by rw[List.length_drop];omega)) ?_
 obtain⟨a,bad⟩:=q;simp only at hq h⊢;have hq:a≤b.length:=hq;unfold wordV;have hw:=z6S (b.drop a);have ht:=z0x σ p b (a,bad) 8 (wordR (b.drop a)).isSome h (by simp only;omega)
 cases hg:wordR (b.drop a) with
 |none =>
  rw[hg]at ht;have e:took (a,bad) 8 (none:Option (Nat×Byt)).isSome=(a,true):=by cases bad<;>rfl
  rw[e]at ht;simp -implicitDefEqProofs only[go_sem];refine CO.intro ht ?_;simp -implicitDefEqProofs only[go_sem]
  cases bad with
  |true=>rw[z0l];exact Fini.ret rfl
  |false=>rw[z0p hg];exact Fini.ret rfl
 |some x =>
  obtain⟨n,t⟩:=x;rw[hg]at ht hw
  have hl:t.length=b.length-(a+8)∧a+8≤b.length:=by
   split at hw
   · rename_i h8;simp only[Option.some.injEq,Prod.mk.injEq]at hw;rw[hw.2,List.length_drop,List.length_drop];rw[List.length_drop]at h8;omega
   · cases hw
  simp -implicitDefEqProofs only[go_sem];refine CO.intro ht ?_
  cases bad with
  |true =>
   have e:took (a,true) 8 (some (n,t)).isSome=(a,true):=rfl;rw[e,z0l];simp -implicitDefEqProofs only[go_sem];exact Fini.ret rfl
  |false =>
   have e:took (a,false) 8 (some (n,t)).isSome=(b.length-t.length,false):=by
    simp only[took,Option.isSome_some,Bool.false_or,Bool.not_true,Bool.false_eq_true,if_false];congr 1;omega
   rw[e,z0k hg];simp -implicitDefEqProofs only[go_sem];exact Fini.ret rfl
theorem z6U (h:σ[p]?=some (rob b q)) (hq:Inb b q) (hb:b.length≤50000) :
  Ans Tryd.prog 54 [.ptr p 0] σ (Fl (valS b q).1) (σ.set p (rob b (valS b q).2)):=by
 refine Ans.of_run t54 ?_;simp -implicitDefEqProofs only[c54,r54,go_sem];refine CO.intro (z6T σ p b q h hq hb) ?_;have u0:=z09 wordR 0 b q hq;unfold valS;generalize runR wordR 0 b q=w at u0⊢;simp -implicitDefEqProofs only[go_sem];refine CO.intro (zaD _ w.1) ?_;simp -implicitDefEqProofs only[go_sem];have h2:=z08 (σ.set p (rob b w.2)) p b w.2 (okV w.1) (z40 h _) u0 hb;rw[List.set_set]at h2;refine CO.intro h2 ?_;simp -implicitDefEqProofs only[go_sem];exact Fini.ret rfl
end
end
def vals8:List ByteArray:=values++[⟨#[]⟩]
abbrev Mz:=Int×ByteArray×ByteArray
abbrev dv (d:Int×Int×Int):AV:=.agg [I d.1,I d.2.1,I d.2.2]
section
variable (σ:St)
end
def allV:List ByteArray:=vals8++pats
instance:DecidableEq ByteArray:=fun a b=>decidable_of_iff (a.data=b.data) (by cases a;cases b;simp)
structure MOK (x:Mz):Prop where
 lo:1≤x.1
 hi:x.1≤4
 nm:x.2.1∈names
 low:x.1<3→x.2.2∈vals8
 high:¬x.1<3→x.2.2∈pats
theorem MOK.val {x:Mz} (h:MOK x):x.2.2∈allV:=by
 unfold allV;by_cases h3:x.1<3
 · exact List.mem_append_left _ (h.low h3)
 · exact List.mem_append_right _ (h.high h3)
def bandV (b:Bool×Nat×Nat):AV:=.agg [Bo b.1,Fl b.2.1,Fl b.2.2]
theorem z1c (n:Nat) (b:Bool×Nat×Nat):Bel n (bandV b):=.agg _ fun i hi=>by
 have:∀y∈([Bo b.1,Fl b.2.1,Fl b.2.2]:List AV),Bel n y:=by
  intro y hy;simp only[List.mem_cons,List.not_mem_nil,or_false]at hy;rcases hy with rfl|rfl|rfl<;>exact .pl _
 exact this _ (List.getElem_mem hi)
section
variable (σ:St)
end
theorem z9Q (l:List ByteArray) (s:ByteArray):txs (l++[s])=txs l++[Sx s]:=by simp[txs]
theorem zbr:txs []=[]:=rfl
theorem z1B (n:Nat) (L:List ByteArray):Bel n (.sl 1 (txs L)):=by
 refine .sl 1 _ fun i hi=>?_
 have:∀y∈txs L,Bel n y:=by
  intro y hy;simp only[txs,List.mem_map]at hy;obtain⟨x,_,rfl⟩:=hy;exact .pl _
 exact this _ (List.getElem_mem hi)
theorem g2 (σ:St) (x y z:Ob) (ex:St):(σ++x::y::z::ex)[σ.length+2]?=some z:=by rw[List.getElem?_append_right (by simp)];simp
theorem s2 (σ:St) (x y z u:Ob) (ex:St):(σ++x::y::z::ex).set (σ.length+2) u=σ++x::y::u::ex:=by rw[List.set_append_right _ _ (by simp)];simp
section
variable (σ:St)
end
theorem Inb0 (b:Byt):Inb b (0,false):=Nat.zero_le _
section
variable (σ:St)
theorem zaE (n:Nat) (hn:n<18446744073709551616):Ans Tryd.prog 34 [UN n] σ (.sl 1 (byv (putN n))) σ:=(z8e σ n hn).shut (by rw[z05]) (z1y _ _)
theorem z3p (b:Byt) (hb:b.length≤50000):Ans Tryd.prog 45 [.sl 1 (byv b)] σ (readV (bandR b) b bandV (bandV (false,0,0))) σ:=by
 have hS:=(z7y b).top;refine Ans.of_run' t45 (fun y0 _=>?_)
 simp -implicitDefEqProofs only[c45,r45,go_sem];refine CO.intro (z2E _ b) ?_;simp -implicitDefEqProofs only[go_sem,List.append_assoc,List.length_append];generalize k0:runR byteR 0 b (0,false)=q1;have q0:Inb b q1.2:=by rw[←k0];exact z09 _ _ _ _ (Inb0 b)
 have n0:=z0B (σ++[.box [Bo false,Fl 0,Fl 0],rob b (0,false),.box [Bo false,Fl 0,Fl 0]]) (σ.length+1) b (0,false) (g1 _ _ _ _) (Inb0 b) hb;rw[k0,s1]at n0;refine CO.intro n0 ?_;obtain⟨c,q⟩:=q1;simp only at q0⊢;by_cases h0:c=0
 · subst h0;have v1:=z6U (σ++[.box [Bo false,Fl 0,Fl 0],rob b q,.box [Bo false,Fl 0,Fl 0]]) (σ.length+1) b q (g1 _ _ _ _) q0 hb;have j0:=(z0j b).inb q q0
   have hL:bandS b (0,false)=((false,(valS b q).1,(valS b (valS b q).2).1),took (valS b (valS b q).2).2 0 (mayB false (valS b q).1 (valS b (valS b q).2).1)):=by
    unfold bandS z0m bnd0S;rw[k0];rfl
   generalize valS b q=w1 at v1 j0 hL;obtain⟨lo,p1⟩:=w1;simp only at v1 j0 hL;rw[s1]at v1;have v2:=z6U (σ++[.box [Bo false,Fl 0,Fl 0],rob b p1,.box [Bo false,Fl 0,Fl 0]]) (σ.length+1) b p1 (g1 _ _ _ _) j0 hb;have m0:=(z0j b).inb p1 j0;generalize valS b p1=w2 at v2 m0 hL;obtain⟨hi,p2⟩:=w2;simp only at v2 m0 hL;rw[s1]at v2;have e0:((((0:UInt8).toNat:Nat):Int)==0)=true:=rfl;simp -implicitDefEqProofs only[go_sem,bc,e0,g0,g1,g2,s0,s1,s2];refine CO.intro v1 ?_;simp -implicitDefEqProofs only[go_sem];refine CO.intro v2 ?_;have h1:=z08 (σ++[.box [Bo false,Fl 0,Fl 0],rob b p2,.box [Bo false,Fl lo,Fl hi]]) (σ.length+1) b p2 (mayB false lo hi) (g1 _ _ _ _) m0 hb;rw[s1]at h1;have hL:bandS b (0,false)=((false,lo,hi),took p2 0 (mayB false lo hi)):=hL;rw[hL]at hS;generalize took p2 0 (mayB false lo hi)=qe at h1 hS;have h2:=z1z (σ++[.box [Bo false,Fl 0,Fl 0],rob b qe,.box [Bo false,Fl lo,Fl hi]]) (σ.length+1) b qe (g1 _ _ _ _);simp -implicitDefEqProofs only[go_sem,g0,g1,g2,s0,s1,s2];refine CO.intro (z1h _ false lo hi) ?_;simp -implicitDefEqProofs only[go_sem];refine CO.intro h1 ?_;simp -implicitDefEqProofs only[go_sem];refine CO.intro h2 ?_
   cases hr:bandR b with
   |none =>
    have u0:=hS.2 hr;obtain⟨qa,qb⟩:=qe;simp only at u0;subst u0;simp -implicitDefEqProofs only[go_sem,g0,g1,g2,s0,s1,s2];exact tr_ (σ':=σ) (ex:=[_,_,_]) rfl (by unfold readV;exact z0L (z1c _ _)) y0
   |some p =>
    obtain⟨M,t⟩:=p;have u0:=hS.1 M t hr;simp only[Prod.mk.injEq]at u0;obtain⟨rfl,rfl⟩:=u0;simp -implicitDefEqProofs only[go_sem,g0,g1,g2,s0,s1,s2];exact tr_ (σ':=σ) (ex:=[_,_,_]) rfl (by unfold readV;exact z0L (z1c _ _)) y0
 · have e0:(((c.toNat:Nat):Int)==0)=false:=by
    rw[Bool.eq_false_iff];intro h;rw[beq_iff_eq]at h;exact h0 (UInt8.toNat_inj.1 (by rw[show(0:UInt8).toNat=0 from rfl];omega))
   by_cases h1:c=1
   · subst h1
     have hL:bandS b (0,false)=((true,0,0),took q 0 (mayB true 0 0)):=by
      unfold bandS z0m bnd0S;rw[k0];rfl
     have e1:((((1:UInt8).toNat:Nat):Int)==1)=true:=rfl;simp -implicitDefEqProofs only[go_sem,bc,e0,e1,g0,g1,g2,s0,s1,s2];have h1:=z08 (σ++[.box [Bo false,Fl 0,Fl 0],rob b q,.box [Bo true,Fl 0,Fl 0]]) (σ.length+1) b q (mayB true 0 0) (g1 _ _ _ _) q0 hb;rw[s1]at h1;have hL:bandS b (0,false)=((true,0,0),took q 0 (mayB true 0 0)):=hL;rw[hL]at hS;generalize took q 0 (mayB true 0 0)=qe at h1 hS;have h2:=z1z (σ++[.box [Bo false,Fl 0,Fl 0],rob b qe,.box [Bo true,Fl 0,Fl 0]]) (σ.length+1) b qe (g1 _ _ _ _);refine CO.intro (z1h _ true 0 0) ?_;simp -implicitDefEqProofs only[go_sem];refine CO.intro h1 ?_;simp -implicitDefEqProofs only[go_sem];refine CO.intro h2 ?_
     cases hr:bandR b with
     |none =>
      have u0:=hS.2 hr;obtain⟨qa,qb⟩:=qe;simp only at u0;subst u0;simp -implicitDefEqProofs only[go_sem,g0,g1,g2,s0,s1,s2];exact tr_ (σ':=σ) (ex:=[_,_,_]) rfl (by unfold readV;exact z0L (z1c _ _)) y0
     |some p =>
      obtain⟨M,t⟩:=p;have u0:=hS.1 M t hr;simp only[Prod.mk.injEq]at u0;obtain⟨rfl,rfl⟩:=u0;simp -implicitDefEqProofs only[go_sem,g0,g1,g2,s0,s1,s2];exact tr_ (σ':=σ) (ex:=[_,_,_]) rfl (by unfold readV;exact z0L (z1c _ _)) y0
   · have hL:bandS b (0,false)=((false,0,0),took (took q 0 false) 0 (mayB false 0 0)):=by
      unfold bandS z0m bnd0S;rw[k0];simp only[h0,h1,if_false];rfl
     have e1:(((c.toNat:Nat):Int)==1)=false:=by
      rw[Bool.eq_false_iff];intro h;rw[beq_iff_eq]at h;exact h1 (UInt8.toNat_inj.1 (by rw[show(1:UInt8).toNat=1 from rfl];omega))
     have v1:=z08 (σ++[.box [Bo false,Fl 0,Fl 0],rob b q,.box [Bo false,Fl 0,Fl 0]]) (σ.length+1) b q false (g1 _ _ _ _) q0 hb;rw[s1]at v1;have j0:=z0I b q false q0;generalize took q 0 false=p1 at v1 j0 hL;simp -implicitDefEqProofs only[go_sem,bc,e0,e1,g0,g1,g2,s0,s1,s2];refine CO.intro v1 ?_;have h1:=z08 (σ++[.box [Bo false,Fl 0,Fl 0],rob b p1,.box [Bo false,Fl 0,Fl 0]]) (σ.length+1) b p1 (mayB false 0 0) (g1 _ _ _ _) j0 hb;rw[s1]at h1;have hL:bandS b (0,false)=((false,0,0),took p1 0 (mayB false 0 0)):=hL;rw[hL]at hS;generalize took p1 0 (mayB false 0 0)=qe at h1 hS;have h2:=z1z (σ++[.box [Bo false,Fl 0,Fl 0],rob b qe,.box [Bo false,Fl 0,Fl 0]]) (σ.length+1) b qe (g1 _ _ _ _);simp -implicitDefEqProofs only[go_sem,g0,g1,g2,s0,s1,s2];refine CO.intro (z1h _ false 0 0) ?_;simp -implicitDefEqProofs only[go_sem];refine CO.intro h1 ?_;simp -implicitDefEqProofs only[go_sem];refine CO.intro h2 ?_
     cases hr:bandR b with
     |none =>
      have u0:=hS.2 hr;obtain⟨qa,qb⟩:=qe;simp only at u0;subst u0;simp -implicitDefEqProofs only[go_sem,g0,g1,g2,s0,s1,s2];exact tr_ (σ':=σ) (ex:=[_,_,_]) rfl (by unfold readV;exact z0L (z1c _ _)) y0
     |some p =>
      obtain⟨M,t⟩:=p;have u0:=hS.1 M t hr;simp only[Prod.mk.injEq]at u0;obtain⟨rfl,rfl⟩:=u0;simp -implicitDefEqProofs only[go_sem,g0,g1,g2,s0,s1,s2];exact tr_ (σ':=σ) (ex:=[_,_,_]) rfl (by unfold readV;exact z0L (z1c _ _)) y0
end
theorem z2r {α:Type} {r:Option (α×Byt)} {b:Byt} {enc:α→AV} {z:AV} (h:r=none):readV r b enc z=.tup [z,I 0,Bo false]:=by subst h;rfl
theorem z2s {α:Type} {r:Option (α×Byt)} {b:Byt} {enc:α→AV} {z:AV} {x:α} {t:Byt} (h:r=some (x,t)):readV r b enc z=.tup [enc x,I (b.length-t.length:Nat),Bo true]:=by subst h;rfl
abbrev mlV (M:List Mtr):AV:=.sl 3 (mvs3 M)
section
variable (σ:St) (p:Nat) (b:Byt) (q:Nat×Bool)
theorem z5F (h:σ[p]?=some (rob b q)) (hq:Inb b q) (hb:b.length≤50000):Ans Tryd.prog 42 [.ptr p 0,.fn 43 [] []] σ (mlV (runR listR [] b q).1) (σ.set p (rob b (runR listR [] b q).2)):=by
 obtain⟨a,bad⟩:=q;have hq:a≤b.length:=hq;have hl:(b.drop a).length≤50000:=by rw[List.length_drop];omega
 cases hr:listR (b.drop a) with
 |none =>
  have u0:=z5A σ (b.drop a) hl;rw[z2r hr]at u0
  have e:runR listR [] b (a,bad)=([],(a,true)):=by
   cases bad
   · exact z0p hr
   · exact z0l _ _ _ _
  have e2:took (a,bad) 0 false=(a,true):=by cases bad<;>rfl
  have ht:=z0x σ p b (a,bad) 0 false h (by simp only;omega)
  rw[e2]at ht;rw[e]
  have:Ans Tryd.prog 42 [.ptr p 0,.fn 43 [] []] σ .nils (σ.set p (rob b (a,true))):=by
   refine Ans.of_run t42 ?_;simp -implicitDefEqProofs only[c42,r42,go_sem];refine CO.intro (z0w σ p b (a,bad) h hq) ?_;simp -implicitDefEqProofs only[go_sem];refine CO.intro u0 ?_;simp -implicitDefEqProofs only[go_sem];refine CO.intro ht ?_;simp -implicitDefEqProofs only[go_sem];exact Fini.ret rfl
  exact this.subR (.nils 3)
 |some x =>
  obtain⟨x,t⟩:=x;have u0:=z5A σ (b.drop a) hl;rw[z2s hr]at u0;have hdr:=ends_list.drop hq hr;have ht:=z0x σ p b (a,bad) ((b.drop a).length-t.length) true h (by simp only[List.length_drop];omega)
  cases bad with
  |true =>
   have e2:took (a,true) ((b.drop a).length-t.length) true=(a,true):=rfl;rw[e2]at ht;rw[z0l]
   have:Ans Tryd.prog 42 [.ptr p 0,.fn 43 [] []] σ .nils (σ.set p (rob b (a,true))):=by
    refine Ans.of_run t42 ?_;simp -implicitDefEqProofs only[c42,r42,go_sem];refine CO.intro (z0w σ p b (a,true) h hq) ?_;simp -implicitDefEqProofs only[go_sem];refine CO.intro u0 ?_;simp -implicitDefEqProofs only[go_sem];refine CO.intro ht ?_;simp -implicitDefEqProofs only[go_sem];exact Fini.ret rfl
   exact this.subR (.nils 3)
  |false =>
   have e2:took (a,false) ((b.drop a).length-t.length) true=(b.length-t.length,false):=by
    simp only[took,Bool.false_or,Bool.not_true,Bool.false_eq_true,if_false,List.length_drop];congr 1;omega
   rw[e2]at ht;rw[z0k hr];refine Ans.of_run t42 ?_;simp -implicitDefEqProofs only[c42,r42,go_sem];refine CO.intro (z0w σ p b (a,false) h hq) ?_;simp -implicitDefEqProofs only[go_sem];refine CO.intro u0 ?_;simp -implicitDefEqProofs only[go_sem];refine CO.intro ht ?_;simp -implicitDefEqProofs only[go_sem];exact Fini.ret rfl
theorem z8D (h:σ[p]?=some (rob b q)) (hq:Inb b q) (hb:b.length≤50000):Ans Tryd.prog 44 [.ptr p 0,.fn 45 [] []] σ (bandV (runR bandR (false,0,0) b q).1) (σ.set p (rob b (runR bandR (false,0,0) b q).2)):=by
 obtain⟨a,bad⟩:=q;have hq:a≤b.length:=hq;have hl:(b.drop a).length≤50000:=by rw[List.length_drop];omega
 have hp:p<σ.length:=(List.getElem?_eq_some_iff.1 h).1;have hz:∀ob,(σ++[ob])[p]?=some (rob b (a,bad)):=fun ob=>by rw[List.getElem?_append_left hp];exact h
 have k0:∀ob X,(σ++[ob]).set p X=σ.set p X++[ob]:=fun ob X=>by rw[List.set_append_left _ _ hp]
 have hlen:∀X,(σ.set p X).length=σ.length:=fun X=>List.length_set
 have gx:∀(X:Ob) (o:Ob) (ex:St),(σ.set p X++o::ex)[σ.length]?=some o:=fun X o ex=>by rw[←hlen X];exact g0 _ _ _
 have sx:∀(X:Ob) (o u:Ob) (ex:St),(σ.set p X++o::ex).set σ.length u=σ.set p X++u::ex:=fun X o u ex=>by rw[←hlen X];exact s0 _ _ _ _
 have q0:∀(X:Ob) (o o2:Ob) (ex:St),(σ.set p X++o::o2::ex)[σ.length+1]?=some o2:=fun X o o2 ex=>by rw[←hlen X];exact g1 _ _ _ _
 have j0:∀(u0:∀o∈σ,BelO σ.length o) (q:Nat×Bool),∀o∈σ.set p (rob b q),BelO (σ.set p (rob b q)).length o:=fun u0 q=>by
  rw[hlen]
  exact z1q u0 (fun c hc=>by
   simp only[List.mem_cons,List.not_mem_nil,or_false]at hc;rcases hc with rfl|rfl|rfl
   · exact z1y _ _
   · exact .pl _
   · exact .pl _)
 cases hr:bandR (b.drop a) with
 |none =>
  have y0:=fun s=>z3p s (b.drop a) hl
  simp only[z2r hr]at y0
  have e:runR bandR (false,0,0) b (a,bad)=((false,0,0),(a,true)):=by
   cases bad
   · exact z0p hr
   · exact z0l _ _ _ _
  have e2:took (a,bad) 0 false=(a,true):=by cases bad<;>rfl
  have ht:=fun ob=>z0x (σ++[ob]) p b (a,bad) 0 false (hz ob) (by simp only;omega)
  simp only[e2,k0]at ht;rw[e];refine Ans.of_run' t44 (fun u0 _=>?_)
  simp -implicitDefEqProofs only[c44,r44,go_sem];refine CO.intro (z0w _ p b (a,bad) (hz _) hq) ?_;simp -implicitDefEqProofs only[go_sem];refine CO.intro (y0 _) ?_;simp -implicitDefEqProofs only[go_sem,bandV];refine CO.intro (ht _) ?_;simp -implicitDefEqProofs only[go_sem,gx,sx,q0,List.append_assoc,List.length_append,hlen];exact Fini.trim2 (σ':=σ.set p (rob b (a,true))) (ex:=[_,_]) (by simp -implicitDefEqProofs only[go_sem,resA,z04,rvA,oneOf,gx]<;>rfl) rfl (by rw[hlen];exact Nat.le_refl _) (z1c _ (false,0,0)) (j0 u0 _)
 |some x =>
  obtain⟨x,t⟩:=x;have y0:=fun s=>z3p s (b.drop a) hl
  simp only[z2s hr]at y0;have hdr:=ends_band.drop hq hr;have ht:=fun ob=>z0x (σ++[ob]) p b (a,bad) ((b.drop a).length-t.length) true (hz ob) (by simp only[List.length_drop];omega)
  simp only[k0]at ht
  cases bad with
  |true =>
   have e2:took (a,true) ((b.drop a).length-t.length) true=(a,true):=rfl;rw[e2]at ht;rw[z0l];refine Ans.of_run' t44 (fun u0 _=>?_)
   simp -implicitDefEqProofs only[c44,r44,go_sem];refine CO.intro (z0w _ p b (a,true) (hz _) hq) ?_;simp -implicitDefEqProofs only[go_sem];refine CO.intro (y0 _) ?_;simp -implicitDefEqProofs only[go_sem,bandV];refine CO.intro (ht _) ?_;simp -implicitDefEqProofs only[go_sem,gx,sx,q0,List.append_assoc,List.length_append,hlen];exact Fini.trim2 (σ':=σ.set p (rob b (a,true))) (ex:=[_,_]) (by simp -implicitDefEqProofs only[go_sem,resA,z04,rvA,oneOf,gx]<;>rfl) rfl (by rw[hlen];exact Nat.le_refl _) (z1c _ (false,0,0)) (j0 u0 _)
  |false =>
   have e2:took (a,false) ((b.drop a).length-t.length) true=(b.length-t.length,false):=by
    simp only[took,Bool.false_or,Bool.not_true,Bool.false_eq_true,if_false,List.length_drop];congr 1;omega
   rw[e2]at ht;rw[z0k hr];refine Ans.of_run' t44 (fun u0 _=>?_)
   simp -implicitDefEqProofs only[c44,r44,go_sem];refine CO.intro (z0w _ p b (a,false) (hz _) hq) ?_;simp -implicitDefEqProofs only[go_sem];refine CO.intro (y0 _) ?_;simp -implicitDefEqProofs only[go_sem,bandV];refine CO.intro (ht _) ?_;simp -implicitDefEqProofs only[go_sem,gx,sx,q0,List.append_assoc,List.length_append,hlen];exact Fini.trim2 (σ':=σ.set p (rob b (b.length-t.length,false))) (ex:=[_]) (by simp -implicitDefEqProofs only[go_sem,resA,z04,rvA,oneOf,gx]<;>rfl) rfl (by rw[hlen];exact Nat.le_refl _) (z1c _ x) (j0 u0 _)
end
theorem g3 (σ:St) (x y z u:Ob) (ex:St):(σ++x::y::z::u::ex)[σ.length+3]?=some u:=by rw[List.getElem?_append_right (by simp)];simp
theorem s3 (σ:St) (x y z u v:Ob) (ex:St):(σ++x::y::z::u::ex).set (σ.length+3) v=σ++x::y::z::v::ex:=by rw[List.set_append_right _ _ (by simp)];simp
def txC (n:Nat) (e:List ByteArray):AV:=if e.isEmpty then .nils else .osl n e.length
def txS (e:List ByteArray):St:=if e.isEmpty then[] else[.row 1 (txs e)]
theorem z8E (n:Nat) {e:List ByteArray} (h:e.isEmpty=false):txC n e=.osl n e.length:=by unfold txC;rw[h];rfl
theorem z8F {e:List ByteArray} (h:e.isEmpty=false):txS e=[.row 1 (txs e)]:=by unfold txS;rw[h];rfl
theorem z6V (e:List ByteArray) (s:ByteArray):(e++[s]).isEmpty=false:=by cases e<;>rfl
theorem z6h (n:Nat) (r:RuM):Bel n (ruV r):=.agg _ fun i hi=>by
 have:∀y∈([.sl 3 (mvs3 r.src),.sl 3 (mvs3 r.tgt),Bo r.any,Fl r.lo,Fl r.hi,.sl 1 (txs r.eq)]:List AV),Bel n y:=by
  intro y hy;simp only[List.mem_cons,List.not_mem_nil,or_false]at hy;rcases hy with rfl|rfl|rfl|rfl|rfl|rfl
  · exact z0K _ _
  · exact z0K _ _
  · exact .pl _
  · exact .pl _
  · exact .pl _
  · exact z1B _ _
 exact this _ (List.getElem_mem hi)
def noRu:RuM:=⟨[],[],false,0,0,[]⟩
abbrev Z6:Ob:=.box [.nils,.nils,Bo false,Fl 0,Fl 0,.nils]
def noRuV:AV:=.agg [.nils,.nils,Bo false,Fl 0,Fl 0,.nils]
theorem z4Z:Sub noRuV (ruV noRu):=.agg (.cons (.nils 3) (.cons (.nils 3) (.cons (.refl _) (.cons (.refl _) (.cons (.refl _) (.cons (.nils 1) .nil))))))
theorem z35 (n:Nat):Bel n noRuV:=.agg _ fun i hi=>by
 have:∀y∈([.nils,.nils,Bo false,Fl 0,Fl 0,.nils]:List AV),Bel n y:=by
  intro y hy;simp only[List.mem_cons,List.not_mem_nil,or_false]at hy;rcases hy with rfl|rfl|rfl|rfl|rfl|rfl
  · exact .nils
  · exact .nils
  · exact .pl _
  · exact .pl _
  · exact .pl _
  · exact .nils
 exact this _ (List.getElem_mem hi)
section
variable (σ:St)
theorem z6i (b:Byt) (hb:b.length≤50000):Ans Tryd.prog 47 [.sl 1 (byv b)] σ (readV (ruR b) b ruV noRuV) σ:=by
 have hS:=(z9N b).top;refine Ans.of_run' t47 (fun y0 _=>?_)
 simp -implicitDefEqProofs only[c47,r47,go_sem];refine CO.intro (z2E _ b) ?_
 have n0:∀q,ruS b q=(mkRu ((runR listR [] b q).1,(runR listR [] b (runR listR [] b q).2).1,(runR bandR (false,0,0) b (runR listR [] b (runR listR [] b q).2).2).1,(rowSt 4 b (runR (textR 12) ⟨#[]⟩ b) (runR bandR (false,0,0) b (runR listR [] b (runR listR [] b q).2).2).2).1),
   took (rowSt 4 b (runR (textR 12) ⟨#[]⟩ b) (runR bandR (false,0,0) b (runR listR [] b (runR listR [] b q).2).2).2).2 0 (ruIs (mkRu ((runR listR [] b q).1,(runR listR [] b (runR listR [] b q).2).1,(runR bandR (false,0,0) b (runR listR [] b (runR listR [] b q).2).2).1,(rowSt 4 b (runR (textR 12) ⟨#[]⟩ b) (runR bandR (false,0,0) b (runR listR [] b (runR listR [] b q).2).2).2).1)))):=fun q=>rfl
 rw[n0]at hS;have h1:=z5F (σ++[Z6,rob b (0,false)]) (σ.length+1) b (0,false) (g1 _ _ _ _) (Inb0 b) hb;rw[s1]at h1;have i1:=z09 listR [] b (0,false) (Inb0 b);generalize runR listR [] b (0,false)=w1 at h1 i1 hS;obtain⟨m1,q1⟩:=w1;simp only at h1 i1 hS;have h2:=z5F (σ++[Z6,rob b q1]) (σ.length+1) b q1 (g1 _ _ _ _) i1 hb;rw[s1]at h2;have i2:=z09 listR [] b q1 i1;generalize runR listR [] b q1=w2 at h2 i2 hS;obtain⟨m2,q2⟩:=w2;simp only at h2 i2 hS;have h3:=z8D (σ++[Z6,rob b q2]) (σ.length+1) b q2 (g1 _ _ _ _) i2 hb;rw[s1]at h3;have i3:=z09 bandR (false,0,0) b q2 i2;generalize runR bandR (false,0,0) b q2=w3 at h3 i3 hS;obtain⟨⟨any,lo,hi⟩,q3⟩:=w3;unfold bandV at h3;simp only at h3 i3 hS;simp -implicitDefEqProofs only[go_sem,List.append_assoc,List.length_append];refine CO.intro h1 ?_;simp -implicitDefEqProofs only[go_sem];refine CO.intro h2 ?_;simp -implicitDefEqProofs only[go_sem];refine CO.intro h3 ?_;unfold rowSt at hS;have h4:=z1g (σ++[Z6,rob b q3,.box [mlV m1,mlV m2,Bo any,Fl lo,Fl hi,.nils]]) (σ.length+1) b q3 4 (by decide) (g1 _ _ _ _) i3 hb
 rw[s1]at h4;have i4:=z09 (numR 4) 0 b q3 i3;have k0:=z1A (most:=4) b q3;generalize runR (numR 4) 0 b q3=w4 at h4 i4 hS k0;obtain⟨n,q4⟩:=w4;simp only at h4 i4 hS k0;simp -implicitDefEqProofs only[go_sem,List.append_assoc,List.length_append,g0,g1,g2,s0,s1,s2];refine CO.intro h4 ?_;simp -implicitDefEqProofs only[go_sem]
 refine Go.Ab.L.count n (fun i=>mkE 44 [(2,.ptr σ.length 0),(5,.ptr (σ.length+1) 0),(6,.ptr (σ.length+2) 0),(19,UN n),(20,UN i)])
  (fun i=>σ++Z6::rob b (itSt (runR (textR 12) ⟨#[]⟩ b) q4 i).2::.box [mlV m1,mlV m2,Bo any,Fl lo,Fl hi,txC (σ.length+3) (itSt (runR (textR 12) ⟨#[]⟩ b) q4 i).1]::txS (itSt (runR (textR 12) ⟨#[]⟩ b) q4 i).1) ?_ ?_ rfl rfl
 · intro i m0 J hJ;have hit:=z1t (z09 (textR 12) ⟨#[]⟩ b) q4 i4 i;have hlen:=z21 (runR (textR 12) ⟨#[]⟩ b) q4 i;simp only[itSt]at hJ;generalize itSt (runR (textR 12) ⟨#[]⟩ b) q4 i=c at hJ hit hlen⊢;obtain⟨l,q⟩:=c;simp only at hJ hit hlen⊢;have d0:decide ((i:Int)<n)=true:=dec_lt m0;have w0:=z1U (n:=i+1) (by omega)
   have e0:((i:Int)+1)=((i+1:Nat):Int):=rfl;have h5:=z1I (σ++Z6::rob b q::.box [mlV m1,mlV m2,Bo any,Fl lo,Fl hi,txC (σ.length+3) l]::txS l) (σ.length+1) b q 12 (by decide) (g1 _ _ _ _) hit hb
   rw[s1]at h5;generalize runR (textR 12) ⟨#[]⟩ b q=w5 at h5 hJ;obtain⟨s,q5⟩:=w5;simp only at h5 hJ;rw[z8E _ (z6V l s),z8F (z6V l s),z9Q]at hJ;rw[List.length_append,List.length_singleton]at hJ
   cases hem:l.isEmpty with
   |true =>
    have hle:l=[]:=List.isEmpty_iff.1 hem;subst hle;unfold txC txS at h5⊢;simp only[List.isEmpty_nil,if_true]at h5⊢;simp -implicitDefEqProofs only[mkE,go_sem,d0,g0,g1,g2,s0,s1,s2];refine CD.intro h5 ?_;have p32:((1:Nat)≤2^32)=True:=eq_true (by decide)
    simp -implicitDefEqProofs only[go_sem,g0,g1,g2,s0,s1,s2,w0,e0,p32,List.length_append,List.append_assoc,List.length_cons,List.length_nil];exact hJ
   |false =>
    rw[z8E _ hem,z8F hem]at h5⊢;have r0:l.length+1≤4294967296:=by omega
    simp -implicitDefEqProofs only[mkE,go_sem,d0,g0,g1,g2,s0,s1,s2];refine CD.intro h5 ?_;simp -implicitDefEqProofs only[go_sem,g0,g1,g2,g3,s0,s1,s2,s3,w0,e0,z1P,r0,List.length_singleton];exact hJ
 · intro J;have hit:=z1t (z09 (textR 12) ⟨#[]⟩ b) q4 i4 n;have hlen:=z21 (runR (textR 12) ⟨#[]⟩ b) q4 n;generalize itSt (runR (textR 12) ⟨#[]⟩ b) q4 n=c at hS hit hlen⊢;obtain⟨l,q⟩:=c;simp only at hS hit hlen⊢;have d0:decide ((n:Int)<n)=false:=by simp
   have j0:=fun s=>z1l s (mkRu (m1,m2,(any,lo,hi),l))
   generalize ruIs (mkRu (m1,m2,(any,lo,hi),l))=ok at j0 hS
   cases hem:l.isEmpty with
   |true =>
    have hle:l=[]:=List.isEmpty_iff.1 hem;subst hle;unfold txC txS;simp only[List.isEmpty_nil,if_true];have h6:=z08 (σ++[Z6,rob b q,.box [mlV m1,mlV m2,Bo any,Fl lo,Fl hi,.sl 1 (txs [])]]) (σ.length+1) b q ok (g1 _ _ _ _) hit hb;rw[s1]at h6;generalize took q 0 ok=qe at h6 hS;have h7:=z1z (σ++[Z6,rob b qe,.box [mlV m1,mlV m2,Bo any,Fl lo,Fl hi,.sl 1 (txs [])]]) (σ.length+1) b qe (g1 _ _ _ _);simp -implicitDefEqProofs only[mkE,go_sem,d0,zbr,g0,g1,g2,g3,s0,s1,s2,s3];refine CO.intro (j0 _) ?_;simp -implicitDefEqProofs only[go_sem];refine CO.intro h6 ?_;simp -implicitDefEqProofs only[go_sem];refine CO.intro h7 ?_
    cases hr:ruR b with
    |none =>
     have u0:=hS.2 hr;obtain⟨qa,qb⟩:=qe;simp only at u0;subst u0;simp -implicitDefEqProofs only[go_sem,g0,g1,g2,g3,s0,s1,s2,s3];exact tr_ (σ':=σ) (ex:=[_,_,_]) rfl (by unfold readV;exact z0L (z35 _)) y0
    |some p =>
     obtain⟨M,t⟩:=p;have u0:=hS.1 M t hr;simp only[Prod.mk.injEq]at u0;obtain⟨rfl,rfl⟩:=u0;simp -implicitDefEqProofs only[go_sem,g0,g1,g2,g3,s0,s1,s2,s3];exact tr_ (σ':=σ) (ex:=[_,_,_]) rfl (by unfold readV;exact z0L (z6h _ _)) y0
   |false =>
    rw[z8E _ hem,z8F hem];have q0:(σ.length+3≠σ.length+2)=True:=eq_true (by omega)
    have h6:=z08 (σ++[Z6,rob b q,.box [mlV m1,mlV m2,Bo any,Fl lo,Fl hi,.sl 1 (txs l)],.dead]) (σ.length+1) b q ok (g1 _ _ _ _) hit hb;rw[s1]at h6;generalize took q 0 ok=qe at h6 hS;have h7:=z1z (σ++[Z6,rob b qe,.box [mlV m1,mlV m2,Bo any,Fl lo,Fl hi,.sl 1 (txs l)],.dead]) (σ.length+1) b qe (g1 _ _ _ _);simp -implicitDefEqProofs only[mkE,go_sem,d0,z1P,q0,g0,g1,g2,g3,s0,s1,s2,s3];refine CO.intro (j0 _) ?_;simp -implicitDefEqProofs only[go_sem];refine CO.intro h6 ?_;simp -implicitDefEqProofs only[go_sem];refine CO.intro h7 ?_
    cases hr:ruR b with
    |none =>
     have u0:=hS.2 hr;obtain⟨qa,qb⟩:=qe;simp only at u0;subst u0;simp -implicitDefEqProofs only[go_sem,g0,g1,g2,g3,s0,s1,s2,s3];exact tr_ (σ':=σ) (ex:=[_,_,_,_]) rfl (by unfold readV;exact z0L (z35 _)) y0
    |some p =>
     obtain⟨M,t⟩:=p;have u0:=hS.1 M t hr;simp only[Prod.mk.injEq]at u0;obtain⟨rfl,rfl⟩:=u0;simp -implicitDefEqProofs only[go_sem,g0,g1,g2,g3,s0,s1,s2,s3];exact tr_ (σ':=σ) (ex:=[_,_,_,_]) rfl (by unfold readV;exact z0L (z6h _ _)) y0
theorem z4E (b:Byt) (hb:b.length≤50000):Ans Tryd.prog 47 [.sl 1 (byv b)] σ (readV (ruR b) b ruV (ruV noRu)) σ:=by
 refine(z6i σ b hb).subR ?_;unfold readV
 cases ruR b with
 |none=>exact .tup (.cons z4Z (.refl _))
 |some p=>exact .refl _
end
end Go.Proofs.YteakobbdgehlgaaDoor
