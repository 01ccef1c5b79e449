/- Any lists of matchers: how two are compared. No condition. -/
import Derived.Test.YteakobbdgehlgaaGreatDoorKXCmpD
import Derived.Laws.Strings
import Derived.Test.YteakobbdgehlgaaGreatDoorKMRunD
set_option linter.unusedSimpArgs false
set_option linter.unusedVariables false
set_option linter.unusedSectionVars false
namespace Go.Proofs.YteakobbdgehlgaaGreatDoor
open Go Go.Ab
set_option maxRecDepth 100000
def cmpS (a b:ByteArray):Int:=Extern.BytealgCompare.cmp a b
def cmpI (a b:Int):Int:=if a<b then -1 else if b<a then 1 else 0
def or3 (a b c:Int):Int:=if a != 0 then a else if b != 0 then b else c
def cmp3 (x y:Mtr):Int:=or3 (cmpS x.2.1 y.2.1) (cmpI x.1 y.1) (cmpS x.2.2 y.2.2)
section
variable (σ:St)
theorem z6b (a b:ByteArray):Ans Tryz.prog 168 [Sx a,Sx b] σ (I (cmpS a b)) σ:=by
 have h139:Ans Tryz.prog 179 [Sx a,Sx b] σ (I (cmpS a b)) σ:=zfB _ _ _ _ rfl
 have h123:Ans Tryz.prog 174 [Sx a,Sx b] σ (I (cmpS a b)) σ:=by
  refine Ans.of_run t174 ?_;simp -implicitDefEqProofs only[c174,r174,go_sem];refine CO.intro h139 ?_;simp -implicitDefEqProofs only[go_sem];exact Fini.ret rfl
 refine Ans.of_run t168 ?_;simp -implicitDefEqProofs only[c168,r168,go_sem];refine CO.intro h123 ?_;simp -implicitDefEqProofs only[go_sem];exact Fini.ret rfl
theorem zb9 (a:Int):Ans Tryz.prog 175 [I a] σ (Bo false) σ:=by
 have h:(a != a)=false:=by simp
 refine Ans.of_run t175 ?_;simp -implicitDefEqProofs only[c175,r175,go_sem,h];exact Fini.ret rfl
theorem z9V (a b:Int):Ans Tryz.prog 169 [I a,I b] σ (I (cmpI a b)) σ:=by
 unfold cmpI;refine Ans.of_run t169 ?_;simp -implicitDefEqProofs only[c169,r169,go_sem];refine CO.intro (zb9 σ a) ?_;simp -implicitDefEqProofs only[go_sem];refine CO.intro (zb9 σ b) ?_;simp -implicitDefEqProofs only[go_sem];by_cases h1:a<b
 · have h1':decide (a<b)=true:=by simpa using h1
   simp -implicitDefEqProofs only[go_sem,h1'];rw[if_pos h1];exact Fini.ret rfl
 · have h1':decide (a<b)=false:=by simpa using h1
   simp -implicitDefEqProofs only[go_sem,h1'];rw[if_neg h1];by_cases h2:b<a
   · have h2':decide (b<a)=true:=by simpa using h2
     simp -implicitDefEqProofs only[go_sem,h2'];rw[if_pos h2];exact Fini.ret rfl
   · have h2':decide (b<a)=false:=by simpa using h2
     simp -implicitDefEqProofs only[go_sem,h2'];rw[if_neg h2];exact Fini.ret rfl
def orF (a b c:Int):Nat→Int
 |0=>or3 a b c
 |1=>if b != 0 then b else c
 |2=>c
 |_=>0
theorem zfH (a b c:Int):Ans Tryz.prog 167 [.sl 1 [I a,I b,I c]] σ (I (or3 a b c)) σ:=by
 refine Ans.of_run t167 ?_;simp -implicitDefEqProofs only[c167,r167,go_sem];generalize hres:or3 a b c=res
 refine Go.Ab.L.intro (α:={ i:Nat // i≤3∧orF a b c i=res }) (fun x=>3-x.1)
  (fun x=>mkE 18 [(3,I 0),(6,.sl 1 [I a,I b,I c]),(7,I ((3:Nat):Int)),(8,I x.1)]) (fun _=>σ) (fun x J hJ=>?_) ⟨0,Nat.zero_le _,hres⟩ rfl rfl
 obtain⟨i,hi,hg⟩:=x;simp only at hJ⊢;have i4:i=0∨i=1∨i=2∨i=3:=by omega
 have w0:IntKind.i64.wrap (((0:Nat):Int)+1)=((1:Nat):Int):=by decide
 have w1:IntKind.i64.wrap (((1:Nat):Int)+1)=((2:Nat):Int):=by decide
 have w2:IntKind.i64.wrap (((2:Nat):Int)+1)=((3:Nat):Int):=by decide
 rcases i4 with rfl|rfl|rfl|rfl
 · have d1:decide (((0:Nat):Int)<((3:Nat):Int))=true:=by decide
   have d2:(((0:Nat):Int)<((3:Nat):Int))=True:=by simp
   simp only[orF,or3]at hg;simp -implicitDefEqProofs only[mkE,go_sem,d1,d2];cases h:a != 0
   · rw[h,if_neg Bool.false_ne_true]at hg;have hJ':=hJ ⟨1,by omega,hg⟩ (by simp only;omega)
     simp only at hJ';simp -implicitDefEqProofs only[go_sem,w0];exact hJ'
   · rw[h,if_pos rfl]at hg;simp -implicitDefEqProofs only[go_sem];rw[←hg];exact Fini.ret rfl
 · have d1:decide (((1:Nat):Int)<((3:Nat):Int))=true:=by decide
   have d2:(((1:Nat):Int)<((3:Nat):Int))=True:=by simp
   simp only[orF]at hg;simp -implicitDefEqProofs only[mkE,go_sem,d1,d2];cases h:b != 0
   · rw[h,if_neg Bool.false_ne_true]at hg;have hJ':=hJ ⟨2,by omega,hg⟩ (by simp only;omega)
     simp only at hJ';simp -implicitDefEqProofs only[go_sem,w1];exact hJ'
   · rw[h,if_pos rfl]at hg;simp -implicitDefEqProofs only[go_sem];rw[←hg];exact Fini.ret rfl
 · have d1:decide (((2:Nat):Int)<((3:Nat):Int))=true:=by decide
   have d2:(((2:Nat):Int)<((3:Nat):Int))=True:=by simp
   simp only[orF]at hg;simp -implicitDefEqProofs only[mkE,go_sem,d1,d2];cases h:c != 0
   · have hc:c=0:=by simpa using h
     have hJ':=hJ ⟨3,by omega,by rw[←hg,hc];rfl⟩ (by simp only;omega)
     simp only at hJ';simp -implicitDefEqProofs only[go_sem,w2];exact hJ'
   · simp -implicitDefEqProofs only[go_sem];rw[←hg];exact Fini.ret rfl
 · have d1:decide (((3:Nat):Int)<((3:Nat):Int))=false:=by decide
   have d2:(((3:Nat):Int)<((3:Nat):Int))=False:=by simp
   simp only[orF]at hg;simp -implicitDefEqProofs only[mkE,go_sem,d1,d2];rw[←hg];exact Fini.ret rfl
theorem z8e (x y:Mtr):Ans Tryz.prog 156 [mv3 x,mv3 y] σ (I (cmp3 x y)) σ:=by
 have h1:=fun s=>z6b s x.2.1 y.2.1
 have h2:=fun s=>z9V s x.1 y.1
 have h3:=fun s=>z6b s x.2.2 y.2.2
 have h4:=fun s=>zfH s (cmpS x.2.1 y.2.1) (cmpI x.1 y.1) (cmpS x.2.2 y.2.2)
 unfold cmp3;refine Ans.of_run t156 ?_;simp -implicitDefEqProofs only[c156,r156,go_sem,z06,mv3]
 first|refine CD.intro (h1 _) ?_|refine CS.intro h1 ?_
 simp -implicitDefEqProofs only[go_sem,z06]
 first|refine CD.intro (h2 _) ?_|refine CS.intro h2 ?_
 simp -implicitDefEqProofs only[go_sem,z06]
 first|refine CD.intro (h3 _) ?_|refine CS.intro h3 ?_
 simp -implicitDefEqProofs only[go_sem,z06]
 first|refine CD.intro (h4 _) ?_|refine CS.intro h4 ?_
 simp -implicitDefEqProofs only[go_sem];exact Fini.ret rfl
end
theorem zba (a b:ByteArray):cmpS a b=(if a.toList==b.toList then 0 else if Op.bytesLess a.toList b.toList then -1 else 1):=by
 rw[cmpS,zcH,z7p,ByteArray.toList_eq,ByteArray.toList_eq]
def z40 (x y:Mtr):Bool :=
 if !(x.2.1.toList==y.2.1.toList) then Op.bytesLess x.2.1.toList y.2.1.toList
 else if !(x.1==y.1) then decide (x.1<y.1)
 else Op.bytesLess x.2.2.toList y.2.2.toList
theorem z5l:∀x:List UInt8,Op.bytesLess x x=false
 |[]=>rfl
 |a::x=>by rw[Op.bytesLess,z5l x];simp
theorem z8f (x y:Mtr):decide (0≤cmp3 x y)= !z40 x y:=by
 unfold cmp3 or3 z40;rw[zba,zba]
 cases h1:(x.2.1.toList==y.2.1.toList) with
 |false =>
  cases h2:Op.bytesLess x.2.1.toList y.2.1.toList<;>simp
 |true =>
  simp only[Bool.not_true,Bool.false_eq_true,if_false,if_true];unfold cmpI;by_cases h3:x.1<y.1
  · have:(x.1==y.1)=false:=by simp;omega
    simp[h3,this]
  · by_cases h4:y.1<x.1
    · have:(x.1==y.1)=false:=by simp;omega
      simp[h3,h4,this]
    · have h5:(x.1==y.1)=true:=by simp;omega
      simp only[h3,h4,h5,if_false,Bool.not_true,Bool.false_eq_true]
      cases h6:(x.2.2.toList==y.2.2.toList) with
      |true =>
       have:x.2.2.toList=y.2.2.toList:=by simpa using h6
       rw[this,z5l];rfl
      |false=>cases h7:Op.bytesLess x.2.2.toList y.2.2.toList<;>simp
def epsTo (ys:List Stp) (p q:Nat):Prop:=∃s,ys[p]?=some s∧((s.op=2∧(q=s.x.toNat∨q=s.y.toNat))∨(s.op=3∧q=s.x.toNat))
inductive Eps (ys:List Stp):Nat→Nat→Prop where
 |refl (p:Nat):Eps ys p p
 |step {p q r:Nat}:epsTo ys p q→Eps ys q r→Eps ys p r
theorem z6F {ys:List Stp} {p:Nat} {s:Stp} (h:ys[p]?=some s):stpAt ys p=s:=by
 rw[stpAt,List.getD_eq_getElem?_getD,h];rfl
theorem Eps.snoc {ys:List Stp} {p q r:Nat} (h:Eps ys p q) (h':epsTo ys q r):Eps ys p r:=by
 induction h with
 |refl p=>exact .step h' (.refl _)
 |step h1 _ ih=>exact .step h1 (ih h')
section
variable {ys:List Stp} (hc:zfA ys=true)
include hc
end
inductive Reach (ys:List Stp) (s:ByteArray):Nat→Nat→Prop where
 |zero:Reach ys s 0 0
 |eps {p q i:Nat}:Reach ys s p i→epsTo ys p q→Reach ys s q i
 |byte {p i:Nat}:Reach ys s p i→p<ys.length→i<s.size→z5d (stpAt ys p) (byteAt s i)=true→Reach ys s (p+1) (i+1)
theorem Reach.last {ys:List Stp} {s:ByteArray} {q i:Nat} (h:Reach ys s q i):(i=0∧Eps ys 0 q)∨∃j p,i=j+1∧j<s.size∧p<ys.length∧Reach ys s p j∧z5d (stpAt ys p) (byteAt s j)=true∧Eps ys (p+1) q:=by
 induction h with
 |zero=>exact .inl ⟨rfl,.refl _⟩
 |eps _ h1 ih =>
  rcases ih with⟨h,h'⟩|⟨j,p,h⟩
  · exact .inl ⟨h,h'.snoc h1⟩
  · exact .inr ⟨j,p,h.1,h.2.1,h.2.2.1,h.2.2.2.1,h.2.2.2.2.1,h.2.2.2.2.2.snoc h1⟩
 |byte h hp hi ht _=>exact .inr ⟨_,_,rfl,hi,hp,h,ht,.refl _⟩
end Go.Proofs.YteakobbdgehlgaaGreatDoor
namespace Go.Proofs.YteakobbdgehlgaaGreatDoor
open Go Go.Ab
set_option maxRecDepth 100000
inductive Star (R:Nat→Nat→Prop):Nat→Nat→Prop where
 |refl (i:Nat):Star R i i
 |step {i m j:Nat}:R i m→Star R m j→Star R i j
section
variable (s:ByteArray)
mutual
def Mt:Rex→Nat→Nat→Prop
 |.mk op a b c d ks=>fun i j =>
  if op==1 then i<s.size∧j=i+1∧z5d ⟨1,a,b,c,d,0,0⟩ (byteAt s i)=true
  else if op==2 then MtL ks i j
  else if op==3 then MtA ks i j
  else if op==4 then Star (MtH ks) i j
  else if op==5 then ∃m,MtH ks i m∧Star (MtH ks) m j
  else if op==6 then i=j∨MtH ks i j
  else False
def MtL:List Rex→Nat→Nat→Prop
 |[]=>fun i j=>i=j
 |x::xs=>fun i j=>∃m,Mt x i m∧MtL xs m j
def MtA:List Rex→Nat→Nat→Prop
 |[]=>fun _ _=>False
 |x::xs=>fun i j=>Mt x i j∨MtA xs i j
def MtH:List Rex→Nat→Nat→Prop
 |[]=>fun _ _=>False
 |x::_=>fun i j=>Mt x i j
end
inductive Ed (ys:List Stp):Nat×Nat→Nat×Nat→Prop where
 |eps {p q i:Nat}:epsTo ys p q→Ed ys (p,i) (q,i)
 |byte {p i:Nat}:p<ys.length→i<s.size→z5d (stpAt ys p) (byteAt s i)=true→Ed ys (p,i) (p+1,i+1)
def Run (ys:List Stp) (lo hi:Nat):Nat→Nat×Nat→Nat×Nat→Prop
 |0,c,d=>c=d∧¬(lo≤c.1∧c.1<hi)
 |k+1,c,d=>(lo≤c.1∧c.1<hi)∧∃e,Ed s ys c e∧Run ys lo hi k e d
def Path (ys:List Stp):Nat→Nat×Nat→Nat×Nat→Prop
 |0,c,d=>c=d
 |k+1,c,d=>∃e,Ed s ys c e∧Path ys k e d
variable {s} {ys:List Stp}
theorem Run.split {lo hi lo' hi':Nat} (h1:lo≤lo') (h2:hi'≤hi):∀(k:Nat) (c d:Nat×Nat),Run s ys lo hi k c d→∃k1 k2 m,k1+k2=k∧Run s ys lo' hi' k1 c m∧Run s ys lo hi k2 m d
 |0,c,d,h=>⟨0,0,c,rfl,⟨rfl,fun hc=>h.2 ⟨by omega,by omega⟩⟩,h⟩
 |k+1,c,d,h=>by
  by_cases hc:lo'≤c.1∧c.1<hi'
  · obtain⟨_,e,he,hr⟩:=h;obtain⟨k1,k2,m,hk,h3,h4⟩:=Run.split h1 h2 k e d hr;exact⟨k1+1,k2,m,by omega,⟨hc,e,he,h3⟩,h4⟩
  · exact⟨0,k+1,c,by omega,⟨rfl,hc⟩,h⟩
theorem Path.run {lo hi:Nat}:∀(k:Nat) (c d:Nat×Nat),Path s ys k c d→¬(lo≤d.1∧d.1<hi)→∃k1 k2 m,Run s ys lo hi k1 c m∧Path s ys k2 m d
 |0,c,d,h,hd=>⟨0,0,c,⟨rfl,by rw[show c=d from h];exact hd⟩,h⟩
 |k+1,c,d,h,hd=>by
  by_cases hc:lo≤c.1∧c.1<hi
  · obtain⟨e,he,hr⟩:=h;obtain⟨k1,k2,m,h3,h4⟩:=Path.run k e d hr hd;exact⟨k1+1,k2,m,⟨hc,e,he,h3⟩,h4⟩
  · exact⟨0,k+1,c,⟨rfl,hc⟩,h⟩
theorem Path.snoc:∀(k:Nat) (c d e:Nat×Nat),Path s ys k c d→Ed s ys d e→Path s ys (k+1) c e
 |0,c,d,e,h,he=>by rw[show c=d from h];exact⟨e,he,rfl⟩
 |k+1,c,d,e,h,he=>by
  obtain⟨f,hf,hr⟩:=h;exact⟨f,hf,Path.snoc k f d e hr he⟩
theorem Run.out {lo hi k:Nat} {c d:Nat×Nat} (h:Run s ys lo hi k c d) (hc:¬(lo≤c.1∧c.1<hi)):k=0∧c=d:=by
 cases k with
 |zero=>exact⟨rfl,h.1⟩
 |succ k=>exact absurd h.1 hc
theorem Run.move {lo hi k:Nat} {c d:Nat×Nat} (h:Run s ys lo hi k c d) (hc:lo≤c.1∧c.1<hi):∃k' e,k=k'+1∧Ed s ys c e∧Run s ys lo hi k' e d:=by
 cases k with
 |zero=>exact absurd hc h.2
 |succ k=>obtain⟨_,e,h1,h2⟩:=h;exact⟨k,e,rfl,h1,h2⟩
theorem Ed.two {p i:Nat} {e:Nat×Nat} {st:Stp} (h:Ed s ys (p,i) e) (hs:ys[p]?=some st) (ho:st.op=2):e=(st.x.toNat,i)∨e=(st.y.toNat,i):=by
 cases h with
 |eps h =>
  obtain⟨s',h1,h2⟩:=h;rw[hs]at h1;cases h1;rcases h2 with⟨_,rfl|rfl⟩|⟨h3,_⟩
  · exact .inl rfl
  · exact .inr rfl
  · omega
 |byte h1 h2 h3 =>
  rw[z6F hs]at h3;simp[z5d,ho]at h3
theorem Ed.one {p i:Nat} {e:Nat×Nat} {st:Stp} (h:Ed s ys (p,i) e) (hs:ys[p]?=some st) (ho:st.op=1):e=(p+1,i+1)∧i<s.size∧z5d st (byteAt s i)=true:=by
 cases h with
 |eps h =>
  obtain⟨s',h1,h2⟩:=h;rw[hs]at h1;cases h1;rcases h2 with⟨h3,_⟩|⟨h3,_⟩<;>omega
 |byte h1 h2 h3 =>
  rw[z6F hs]at h3;exact⟨rfl,h2,h3⟩
theorem Ed.four {p i:Nat} {e:Nat×Nat} {st:Stp} (h:Ed s ys (p,i) e) (hs:ys[p]?=some st) (ho:st.op=4):False:=by
 cases h with
 |eps h =>
  obtain⟨s',h1,h2⟩:=h;rw[hs]at h1;cases h1;rcases h2 with⟨h3,_⟩|⟨h3,_⟩<;>omega
 |byte h1 h2 h3 =>
  rw[z6F hs]at h3;simp[z5d,ho]at h3
def Frag (ys:List Stp) (n:Nat) (l:List Stp):Prop:=∀k,k<l.length→ys[n+k]?=l[k]?
theorem Frag.left {n:Nat} {a b:List Stp} (h:Frag ys n (a++b)):Frag ys n a:=fun k hk=>by
 rw[h k (by simp;omega),List.getElem?_append_left hk]
theorem Frag.right {n:Nat} {a b:List Stp} (h:Frag ys n (a++b)):Frag ys (n+a.length) b:=fun k hk=>by
 rw[show n+a.length+k=n+(a.length+k) by omega,h _ (by simp;omega),List.getElem?_append_right (by omega)]
 congr 1;omega
theorem Frag.head {n:Nat} {a:Stp} {b:List Stp} (h:Frag ys n (a::b)):ys[n]?=some a:=by
 have:=h 0 (by simp);simpa using this
theorem Frag.tail {n:Nat} {a:Stp} {b:List Stp} (h:Frag ys n (a::b)):Frag ys (n+1) b:=fun k hk=>by
 have:=h (k+1) (by simp;omega)
 rw[show n+1+k=n+(k+1) by omega,this];simp
end
end Go.Proofs.YteakobbdgehlgaaGreatDoor
namespace Go.Proofs.YteakobbdgehlgaaGreatDoor
open Go Go.Ab Rex
set_option maxRecDepth 100000
section
variable (s:ByteArray)
end
theorem Star.one {R:Nat→Nat→Prop} {i m j:Nat} (h:R i m) (h':Star R m j):Star R i j:=.step h h'
section
variable {s:ByteArray} {ys:List Stp}
def Comp (s:ByteArray) (ys:List Stp) (x:Rex):Prop:=∀n i j,Frag ys n (lay n x)→Mt s x i j→Reach ys s n i→Reach ys s (n+(lay n x).length) j
theorem compL (l:List Rex):∀n i j,(∀k∈l,Comp s ys k)→Frag ys n (layL n l)→MtL s l i j→Reach ys s n i→Reach ys s (n+(layL n l).length) j:=by
 induction l with
 |nil=>intro n i j _ _ h hr;rw[show i=j from h]at hr;exact hr
 |cons x xs ih =>
  intro n i j hk hf h hr;rw[layL]at hf⊢;obtain⟨m,h1,h2⟩:=h;have a1:=hk x List.mem_cons_self n i m hf.left h1 hr;have a2:=ih _ m j (fun k hk'=>hk k (List.mem_cons_of_mem _ hk')) hf.right h2 a1
  rw[List.length_append,←Nat.add_assoc];exact a2
end
abbrev dob (s:ByteArray) (a d:Nat) (b:Bool):Ob:=.box [Sx s,I a,I d,Bo b]
def specials:List Nat:=[124,42,43,63,40,41,91,93,46,92]
def oneS (c:Nat):List Int:=z4.set (c/64) (bitU (c%64))
def within2:List Nat:=[93,91,94,45]
def z0k (s:ByteArray) (a:Nat):Nat×Nat×Bool :=
 if over s a false then(0,a,true)
 else if byteAt s a==92 then
  if over s (a+1) false|| !signs.contains (byteAt s (a+1)) then(0,a+1,true) else(byteAt s (a+1),a+2,false)
 else(byteAt s a,a+1,within2.contains (byteAt s a))
theorem zcI:∀c:Nat,c<256→((specials.contains c||c==94)||c==45)=signs.contains c:=by decide +kernel
theorem z9W (c:Nat):(((c==93||c==91)||c==94)||c==45)=within2.contains c:=by
 simp only[within2,List.contains_cons,List.contains_nil,Bool.or_false,Bool.or_assoc]
section
variable (σ:St) (p:Nat) (s:ByteArray) (a d:Nat)
theorem z5m (c:Nat):Ans Tryz.prog 188 [B8 c] σ (Bo (specials.contains c)) σ:=by
 have k:∀n:Nat,((c:Int)==(n:Int))=(c==n):=fun n=>z0i c n
 have k1:((c:Int)==124)=(c==124):=k 124;have k2:((c:Int)==42)=(c==42):=k 42;have k3:((c:Int)==43)=(c==43):=k 43;have k4:((c:Int)==63)=(c==63):=k 63;have k5:((c:Int)==40)=(c==40):=k 40;have k6:((c:Int)==41)=(c==41):=k 41;have k7:((c:Int)==91)=(c==91):=k 91;have k8:((c:Int)==93)=(c==93):=k 93;have k9:((c:Int)==46)=(c==46):=k 46;have k10:((c:Int)==92)=(c==92):=k 92;simp only[specials,List.contains_cons,List.contains_nil,Bool.or_false];refine Ans.of_run t188 ?_;simp -implicitDefEqProofs only[c188,r188,go_sem,k1];cases h1:c==124
 case true=>simp -implicitDefEqProofs only[go_sem];exact Fini.ret rfl
 simp -implicitDefEqProofs only[go_sem,k2];cases h2:c==42
 case true=>simp -implicitDefEqProofs only[go_sem];exact Fini.ret rfl
 simp -implicitDefEqProofs only[go_sem,k3];cases h3:c==43
 case true=>simp -implicitDefEqProofs only[go_sem];exact Fini.ret rfl
 simp -implicitDefEqProofs only[go_sem,k4];cases h4:c==63
 case true=>simp -implicitDefEqProofs only[go_sem];exact Fini.ret rfl
 simp -implicitDefEqProofs only[go_sem,k5];cases h5:c==40
 case true=>simp -implicitDefEqProofs only[go_sem];exact Fini.ret rfl
 simp -implicitDefEqProofs only[go_sem,k6];cases h6:c==41
 case true=>simp -implicitDefEqProofs only[go_sem];exact Fini.ret rfl
 simp -implicitDefEqProofs only[go_sem,k7];cases h7:c==91
 case true=>simp -implicitDefEqProofs only[go_sem];exact Fini.ret rfl
 simp -implicitDefEqProofs only[go_sem,k8];cases h8:c==93
 case true=>simp -implicitDefEqProofs only[go_sem];exact Fini.ret rfl
 simp -implicitDefEqProofs only[go_sem,k9];cases h9:c==46
 case true=>simp -implicitDefEqProofs only[go_sem];exact Fini.ret rfl
 simp -implicitDefEqProofs only[go_sem,k10];cases h10:c==92
 case true=>simp -implicitDefEqProofs only[go_sem];exact Fini.ret rfl
 simp -implicitDefEqProofs only[go_sem];exact Fini.ret rfl
theorem z6c (c:Nat) (hc:c<256):Ans Tryz.prog 184 [B8 c] σ (Bo (signs.contains c)) σ:=by
 have k1:((c:Int)==94)=(c==94):=z0i c 94;have k2:((c:Int)==45)=(c==45):=z0i c 45;rw[←zcI c hc];refine Ans.of_run t184 ?_;simp -implicitDefEqProofs only[c184,r184,go_sem];refine CO.intro (z5m σ c) ?_;simp -implicitDefEqProofs only[go_sem,k1];cases h1:specials.contains c
 · simp -implicitDefEqProofs only[go_sem,k1];cases h2:c==94
   · simp -implicitDefEqProofs only[go_sem,k2];exact Fini.ret rfl
   · simp -implicitDefEqProofs only[go_sem,k2];exact Fini.ret rfl
 · simp -implicitDefEqProofs only[go_sem];exact Fini.ret rfl
theorem z6G (b:Bool) (h:σ[p]?=some (dob s a d b)):Ans Tryz.prog 172 [.ptr p 0] σ (Bo (!over s a b)) σ:=by
 refine Ans.of_run t172 ?_;cases b<;>simp -implicitDefEqProofs only[c172,r172,h,go_sem]
 · refine Fini.ret ?_
   have e:decide ((a:Int)<(s.size:Int))= !over s a false:=by
    simp only[over,Bool.false_or];rw[Bool.eq_iff_iff];simp
   simp -implicitDefEqProofs only[go_sem,e];rfl
 · exact Fini.ret rfl
theorem z2J (b:Bool) (h:σ[p]?=some (dob s a d b)):Ans Tryz.prog 185 [.ptr p 0] σ (.tup []) (σ.set p (dob s a d true)):=by
 refine Ans.of_run t185 ?_;simp -implicitDefEqProofs only[c185,r185,h,go_sem];exact Fini.normal2 (n:=0) rfl rfl rfl
theorem z93 (c:Nat) (hc:c<256):Ans Tryz.prog 186 [B8 c] σ (.agg ((oneS c).map U)) σ:=by
 have e1:IntKind.u8.wrap ((c:Int).tdiv 64)=((c/64:Nat):Int):=by
  rw[show(c:Int).tdiv 64=((c/64:Nat):Int) from rfl]
  simp only[IntKind.wrap,IntKind.bits,IntKind.signed];simp;omega
 have e2:(c:Int).tmod 64=((c%64:Nat):Int):=rfl;have e3:((64:Int)=0)=False:=by simp
 have e4:(((c/64:Nat):Int)<(4:Nat))=True:=by simp;omega
 have hk:c/64<4:=by omega
 have k0:∀(x y:Ob),(σ++[x,y])[σ.length]?=some x:=fun x y=>by rw[List.getElem?_append_right (by simp)];simp
 have k1:∀(x y:Ob),(σ++[x,y])[σ.length+1]?=some y:=fun x y=>by rw[List.getElem?_append_right (by simp)];simp
 have s0:∀(x y z:Ob),(σ++[x,y]).set σ.length z=σ++[z,y]:=fun x y z=>by rw[List.set_append_right _ _ (by simp)];simp
 have s1:∀(x y z:Ob),(σ++[x,y]).set (σ.length+1) z=σ++[x,z]:=fun x y z=>by rw[List.set_append_right _ _ (by simp)];simp
 refine Ans.of_run' t186 (fun hbel _=>?_)
 have hb:=z3Z σ.length (oneS c);unfold oneS at hb⊢
 have e5:IntKind.u64.wrap ((c%64:Nat):Int)=((c%64:Nat):Int):=by
  simp only[IntKind.wrap,IntKind.bits,IntKind.signed];simp;omega
 simp -implicitDefEqProofs only[c186,r186,go_sem,e1,e2,e3,e4,e5,Nat.mul_one,k0,k1,s0,s1,List.append_assoc,List.length_append];generalize hw:bitU (c%64)=w at hb⊢;have hw':IntKind.u64.wrap (1*2^min (c%64) 64)=w:=hw;rw[hw'];generalize c/64=k at hk hb⊢
 match k,hk with
 |0,_ =>
  simp -implicitDefEqProofs only[go_sem,k0,k1,s0,s1];exact Fini.trim2 (σ':=σ) (ex:=[_,_]) (by simp -implicitDefEqProofs only[go_sem,resA,z01,rvA,oneOf,k0]) rfl (Nat.le_refl _) hb hbel
 |1,_ =>
  simp -implicitDefEqProofs only[go_sem,k0,k1,s0,s1];exact Fini.trim2 (σ':=σ) (ex:=[_,_]) (by simp -implicitDefEqProofs only[go_sem,resA,z01,rvA,oneOf,k0]) rfl (Nat.le_refl _) hb hbel
 |2,_ =>
  simp -implicitDefEqProofs only[go_sem,k0,k1,s0,s1];exact Fini.trim2 (σ':=σ) (ex:=[_,_]) (by simp -implicitDefEqProofs only[go_sem,resA,z01,rvA,oneOf,k0]) rfl (Nat.le_refl _) hb hbel
 |3,_ =>
  simp -implicitDefEqProofs only[go_sem,k0,k1,s0,s1];exact Fini.trim2 (σ':=σ) (ex:=[_,_]) (by simp -implicitDefEqProofs only[go_sem,resA,z01,rvA,oneOf,k0]) rfl (Nat.le_refl _) hb hbel
theorem z8g (hs:s.size≤40) (h:σ[p]?=some (dob s a d false)):Ans Tryz.prog 190 [.ptr p 0] σ (B8 (z0k s a).1) (σ.set p (dob s (z0k s a).2.1 d (z0k s a).2.2)):=by
 have hp:p<σ.length:=(List.getElem?_eq_some_iff.1 h).1;have hg:∀o,(σ.set p o)[p]?=some o:=fun o=>by simp[hp]
 refine Ans.of_run t190 ?_;simp -implicitDefEqProofs only[c190,r190,h,go_sem];refine CO.intro (z6G σ p s a d false h) ?_;unfold z0k
 cases ho:over s a false with
 |true =>
  simp -implicitDefEqProofs only[go_sem];refine CO.intro (z2J σ p s a d false h) ?_;simp -implicitDefEqProofs only[go_sem];exact Fini.ret rfl
 |false =>
  have hlt:=z1t ho;have h1:(a:Int)<s.size:=by omega
  have k92:(((byteAt s a:Nat):Int)==92)=(byteAt s a==92):=z0i _ 92;have k93:(((byteAt s a:Nat):Int)==93)=(byteAt s a==93):=z0i _ 93;have k91:(((byteAt s a:Nat):Int)==91)=(byteAt s a==91):=z0i _ 91;have k94:(((byteAt s a:Nat):Int)==94)=(byteAt s a==94):=z0i _ 94;have k45:(((byteAt s a:Nat):Int)==45)=(byteAt s a==45):=z0i _ 45;simp -implicitDefEqProofs only[go_sem,h,h1,z09,z0P (show a≤4294967296 by omega),k92]
  cases hc:byteAt s a==92 with
  |true =>
   simp -implicitDefEqProofs only[go_sem];refine CD.intro (z6G _ p s (a+1) d false (hg _)) ?_
   cases ho2:over s (a+1) false with
   |true =>
    simp -implicitDefEqProofs only[go_sem,hg];refine CO.intro (z2J _ p s (a+1) d false (hg _)) ?_;simp -implicitDefEqProofs only[go_sem,List.set_set,Bool.true_or];exact Fini.ret rfl
   |false =>
    have hlt2:=z1t ho2;have h2:((a+1:Nat):Int)<s.size:=by omega
    simp -implicitDefEqProofs only[go_sem,hg,h2,z09];refine CD.intro (z6c _ (byteAt s (a+1)) (z1Y _ _)) ?_
    cases hq:signs.contains (byteAt s (a+1)) with
    |false =>
     simp -implicitDefEqProofs only[go_sem,hg];refine CO.intro (z2J _ p s (a+1) d false (hg _)) ?_;simp -implicitDefEqProofs only[go_sem,List.set_set,Bool.or_true];exact Fini.ret rfl
    |true =>
     have h3:IntKind.i64.wrap (((a+1+1:Nat):Int)-1)=((a+1:Nat):Int):=by
      simp only[IntKind.wrap,IntKind.bits,IntKind.signed];simp;omega
     simp -implicitDefEqProofs only[go_sem,hg,List.set_set,z0P (show a+1≤4294967296 by omega),h2,h3,z09,Bool.or_false]
     exact Fini.ret rfl
  |false =>
   rw[←z9W];simp -implicitDefEqProofs only[go_sem,k93,k91,k94,k45];cases h93:byteAt s a==93
   case true =>
    simp -implicitDefEqProofs only[go_sem];refine CO.intro (z2J _ p s (a+1) d false (hg _)) ?_;simp -implicitDefEqProofs only[go_sem,List.set_set,Bool.true_or];exact Fini.ret rfl
   simp -implicitDefEqProofs only[go_sem,k91];cases h91:byteAt s a==91
   case true =>
    simp -implicitDefEqProofs only[go_sem];refine CO.intro (z2J _ p s (a+1) d false (hg _)) ?_;simp -implicitDefEqProofs only[go_sem,List.set_set,Bool.true_or,Bool.or_true];exact Fini.ret rfl
   simp -implicitDefEqProofs only[go_sem,k94];cases h94:byteAt s a==94
   case true =>
    simp -implicitDefEqProofs only[go_sem];refine CO.intro (z2J _ p s (a+1) d false (hg _)) ?_;simp -implicitDefEqProofs only[go_sem,List.set_set,Bool.true_or,Bool.or_true];exact Fini.ret rfl
   simp -implicitDefEqProofs only[go_sem,k45];cases h45:byteAt s a==45
   case true =>
    simp -implicitDefEqProofs only[go_sem];refine CO.intro (z2J _ p s (a+1) d false (hg _)) ?_;simp -implicitDefEqProofs only[go_sem,List.set_set,Bool.true_or,Bool.or_true];exact Fini.ret rfl
   simp -implicitDefEqProofs only[go_sem,Bool.or_self];exact Fini.ret rfl
end
def dTo (s:ByteArray) (a:Nat):Nat×Nat×Bool :=
 if sees s (z0k s a).2.1 (z0k s a).2.2 45 then z0k s ((z0k s a).2.1+1) else z0k s a
def dBad (s:ByteArray) (a:Nat):Bool:=(dTo s a).2.2||decide ((dTo s a).1<(z0k s a).1)
def dGo (s:ByteArray) (a:Nat) (b:Bool):Bool:=!over s a b&& !sees s a b 93
def z0Q (s:ByteArray):Nat→List Int→Nat→Bool→Nat→List Int×Nat×Bool×Nat
 |0,S,a,b,n=>(S,a,b,n)
 |k+1,S,a,b,n=>if dGo s a b then
   z0Q s k (addR S (z0k s a).1 ((dTo s a).1+1-(z0k s a).1)) (dTo s a).2.1 (dBad s a) (n+1)
  else(S,a,b,n)
def zeroR:Rex:=.mk 0 0 0 0 0 []
def dOut (s:ByteArray) (neg:Bool) (l:List Int×Nat×Bool×Nat):Rex×Nat×Bool :=
 if over s l.2.1 l.2.2.1||l.2.2.2==0 then(zeroR,l.2.1,true)
 else(ofSet (if neg then turnS l.1 else l.1),l.2.1+1,false)
def z1J (s:ByteArray) (a:Nat):Rex×Nat×Bool :=
 dOut s (sees s a false 94) (z0Q s (s.size+3) z4 (nextA s a false 94) false 0)
def c55c:List Tmp:=[1,6,7,8,9,10,11,12,13,14,15,16,17,18,19,20,21,22,23,24,25,26,27,28,29,30,31,32,33,34,35,36,37,38,39,40,41,42,43,44,45,46,47,48,49,50,51,52,53,54,55,56,57,58,59,60,61,62,63,64,65,66,67,68,69,70,71,72,73,74,75,76,77,78,79,80,81,82,83,84,85,86,87,88,89,90,91,92,93,94,95,96,97,98,99,100,101,102,103,104,105,106,107,108,109,110,111,112,113,114,115,116,117,118,119,120,121,122,123,124,125,126,127,128]
def c55x:ACode :=
 (.seq (.seq (.draw [⟨⟨some 32,none,.prim (.mov (.tmp 0))⟩,[],false,0,0⟩,
   ⟨⟨some 33,none,.call (.func 172) [(.tmp 32)]⟩,[0],true,0,0⟩,
   ⟨⟨some 34,none,.prim (.mov (.tmp 33))⟩,[0,1],false,1,1⟩,
   ⟨⟨some 35,(some (34,true)),.prim (.mov (.tmp 0))⟩,[0,1,2],false,1,1⟩,
   ⟨⟨some 36,(some (34,true)),.prim (.nilc (.tmp 35))⟩,[0,1,2,3],false,1,1⟩,
   ⟨⟨some 37,(some (34,true)),.prim (.fadr 0 (.tmp 36))⟩,[0,1,2,3,4],false,1,1⟩,
   ⟨⟨some 38,(some (34,true)),.prim (.load 1 false (.tmp 37))⟩,(List.range 6),false,1,1⟩,
   ⟨⟨some 39,(some (34,true)),.prim (.mov (.tmp 0))⟩,[0,1,2],false,1,1⟩,
   ⟨⟨some 40,(some (34,true)),.prim (.nilc (.tmp 39))⟩,[0,1,2,7],false,1,1⟩,
   ⟨⟨some 41,(some (34,true)),.prim (.fadr 1 (.tmp 40))⟩,[0,1,2,7,8],false,1,1⟩,
   ⟨⟨some 42,(some (34,true)),.prim (.load 1 false (.tmp 41))⟩,[0,1,2,7,8,9],false,1,1⟩,
   ⟨⟨some 43,(some (34,true)),.prim (.idxs (.tmp 38) (.tmp 42))⟩,(List.range 11),false,1,1⟩,
   ⟨⟨some 44,(some (34,true)),.prim (.bin false .neq (.tmp 43) (.const (Go.Value.int Go.IntKind.u8 93)))⟩,(List.range 12),false,1,1⟩,
   ⟨⟨some 45,none,.prim (.pick (.tmp 34) (.tmp 44) (.const (Go.Value.bool Bool.false)))⟩,(List.range 13),false,1,1⟩])
  (.cond (.tmp 45)
  .skip
  (.exit 0)))
  (.block 1 (.seq (.ops [⟨some 46,none,.prim (.mov (.tmp 0))⟩,
   ⟨some 47,none,.call (.func 190) [(.tmp 46)]⟩,
   ⟨some 6,none,.prim (.mov (.tmp 47))⟩])
  (.seq (.ops [⟨some 48,none,.prim (.mov (.tmp 6))⟩,
   ⟨some 7,none,.prim (.mov (.tmp 48))⟩])
  (.seq (.seq (.draw [⟨⟨some 49,none,.prim (.mov (.tmp 0))⟩,[],false,0,0⟩,
   ⟨⟨some 50,none,.call (.func 172) [(.tmp 49)]⟩,[0],true,0,0⟩,
   ⟨⟨some 51,none,.prim (.mov (.tmp 50))⟩,[0,1],false,1,1⟩,
   ⟨⟨some 52,(some (51,true)),.prim (.mov (.tmp 0))⟩,[0,1,2],false,1,1⟩,
   ⟨⟨some 53,(some (51,true)),.prim (.nilc (.tmp 52))⟩,[0,1,2,3],false,1,1⟩,
   ⟨⟨some 54,(some (51,true)),.prim (.fadr 0 (.tmp 53))⟩,[0,1,2,3,4],false,1,1⟩,
   ⟨⟨some 55,(some (51,true)),.prim (.load 1 false (.tmp 54))⟩,(List.range 6),false,1,1⟩,
   ⟨⟨some 56,(some (51,true)),.prim (.mov (.tmp 0))⟩,[0,1,2],false,1,1⟩,
   ⟨⟨some 57,(some (51,true)),.prim (.nilc (.tmp 56))⟩,[0,1,2,7],false,1,1⟩,
   ⟨⟨some 58,(some (51,true)),.prim (.fadr 1 (.tmp 57))⟩,[0,1,2,7,8],false,1,1⟩,
   ⟨⟨some 59,(some (51,true)),.prim (.load 1 false (.tmp 58))⟩,[0,1,2,7,8,9],false,1,1⟩,
   ⟨⟨some 60,(some (51,true)),.prim (.idxs (.tmp 55) (.tmp 59))⟩,(List.range 11),false,1,1⟩,
   ⟨⟨some 61,(some (51,true)),.prim (.bin false .eql (.tmp 60) (.const (Go.Value.int Go.IntKind.u8 45)))⟩,(List.range 12),false,1,1⟩,
   ⟨⟨some 62,none,.prim (.pick (.tmp 51) (.tmp 61) (.const (Go.Value.bool Bool.false)))⟩,(List.range 13),false,1,1⟩])
  (.cond (.tmp 62)
  (.seq (.ops [⟨some 63,none,.prim (.mov (.tmp 0))⟩,
   ⟨some 64,none,.prim (.nilc (.tmp 63))⟩,
   ⟨some 65,none,.prim (.fadr 1 (.tmp 64))⟩,
   ⟨some 66,none,.prim (.load 1 false (.tmp 65))⟩,
   ⟨some 67,none,.prim (.bin false .add (.tmp 66) (.const (Go.Value.int Go.IntKind.i64 1)))⟩,
   ⟨some 68,none,.prim (.nilc (.tmp 63))⟩,
   ⟨some 69,none,.prim (.fadr 1 (.tmp 68))⟩,
   ⟨none,none,.prim (.store 1 (.tmp 69) (.tmp 67))⟩])
  (.ops [⟨some 70,none,.prim (.mov (.tmp 0))⟩,
   ⟨some 71,none,.call (.func 190) [(.tmp 70)]⟩,
   ⟨some 7,none,.prim (.mov (.tmp 71))⟩]))
  .skip))
  (.seq (.seq (.ops [⟨some 72,none,.prim (.mov (.tmp 7))⟩,
   ⟨some 73,none,.prim (.mov (.tmp 6))⟩,
   ⟨some 74,none,.prim (.bin false .lss (.tmp 72) (.tmp 73))⟩])
  (.cond (.tmp 74)
  (.ops [⟨some 75,none,.prim (.mov (.tmp 0))⟩,
   ⟨some 76,none,.call (.func 185) [(.tmp 75)]⟩])
  .skip))
  (.seq (.seq (.ops [⟨some 77,none,.prim (.mov (.tmp 6))⟩,
   ⟨some 78,none,.prim (.convi .i64 (.tmp 77))⟩,
   ⟨some 8,none,.prim (.mov (.tmp 78))⟩])
  (.block 2 (.loop [1,6,9,10,11,12,13,14,15,16,17,18,19,20,21,22,23,24,25,26,27,28,29,30,31,32,33,34,35,36,37,38,39,40,41,42,43,44,45,46,47,48,49,50,51,52,53,54,55,56,57,58,59,60,61,62,63,64,65,66,67,68,69,70,71,72,73,74,75,76,77,78,79,80,81,82,83,84,85,86,87,88,89,90,91,92,93,94,95,96,97,98,99,100,101,102,103,104,105,106,107,108,109,110,111,112,113,114,115,116,117,118,119,120,121,122,123,124,125,126,127,128] (.seq (.seq (.ops [⟨some 79,none,.prim (.mov (.tmp 8))⟩,
   ⟨some 80,none,.prim (.mov (.tmp 7))⟩,
   ⟨some 81,none,.prim (.convi .i64 (.tmp 80))⟩,
   ⟨some 82,none,.prim (.bin false .leq (.tmp 79) (.tmp 81))⟩])
  (.cond (.tmp 82)
  .skip
  (.exit 2)))
  (.seq (.block 3 (.ops [⟨some 85,none,.prim (.mov (.tmp 8))⟩,
   ⟨some 86,none,.prim (.bin false .quo (.tmp 85) (.const (Go.Value.int Go.IntKind.i64 64)))⟩,
   ⟨some 87,none,.prim (.mov (.tmp 8))⟩,
   ⟨some 88,none,.prim (.bin false .quo (.tmp 87) (.const (Go.Value.int Go.IntKind.i64 64)))⟩,
   ⟨some 89,none,.prim (.iadra 1 4 (.tmp 4) (.tmp 88))⟩,
   ⟨some 90,none,.prim (.load 1 false (.tmp 89))⟩,
   ⟨some 91,none,.prim (.mov (.tmp 8))⟩,
   ⟨some 92,none,.prim (.bin false .rem (.tmp 91) (.const (Go.Value.int Go.IntKind.i64 64)))⟩,
   ⟨some 93,none,.prim (.convi .u64 (.tmp 92))⟩,
   ⟨some 94,none,.prim (.bin false .shl (.const (Go.Value.int Go.IntKind.u64 1)) (.tmp 93))⟩,
   ⟨some 95,none,.prim (.bin false .or (.tmp 90) (.tmp 94))⟩,
   ⟨some 96,none,.prim (.iadra 1 4 (.tmp 4) (.tmp 86))⟩,
   ⟨none,none,.prim (.store 1 (.tmp 96) (.tmp 95))⟩]))
  (.ops [⟨some 83,none,.prim (.mov (.tmp 8))⟩,
   ⟨some 84,none,.prim (.bin false .add (.tmp 83) (.const (Go.Value.int Go.IntKind.i64 1)))⟩,
   ⟨some 8,none,.prim (.mov (.tmp 84))⟩]))))))
  (.ops [⟨some 97,none,.prim (.mov (.tmp 5))⟩,
   ⟨some 98,none,.prim (.bin false .add (.tmp 97) (.const (Go.Value.int Go.IntKind.i64 1)))⟩,
   ⟨some 5,none,.prim (.mov (.tmp 98))⟩]))))))))
def c55k:ACode :=
 (.seq (.seq (.ops [⟨some 99,none,.prim (.mov (.tmp 0))⟩,
   ⟨some 100,none,.call (.func 172) [(.tmp 99)]⟩,
   ⟨some 101,none,.prim (.un .not (.tmp 100))⟩,
   ⟨some 102,none,.prim (.mov (.tmp 101))⟩,
   ⟨some 103,(some (102,false)),.prim (.mov (.tmp 5))⟩,
   ⟨some 104,(some (102,false)),.prim (.bin false .eql (.tmp 103) (.const (Go.Value.int Go.IntKind.i64 0)))⟩,
   ⟨some 105,none,.prim (.pick (.tmp 102) (.const (Go.Value.bool Bool.true)) (.tmp 104))⟩])
  (.cond (.tmp 105)
  (.seq (.ops [⟨some 106,none,.prim (.mov (.tmp 0))⟩,
   ⟨some 107,none,.call (.func 185) [(.tmp 106)]⟩])
  (.seq (.ops [⟨some 108,none,.prim (.build [.pl (.int .i64 0),.pl (.int .u64 0),.pl (.int .u64 0),.pl (.int .u64 0),.pl (.int .u64 0),.nils] [])⟩,
   ⟨none,none,.prim (.store 6 (.tmp 2) (.tmp 108))⟩])
  .ret))
  .skip))
  (.seq (.ops [⟨some 109,none,.prim (.mov (.tmp 0))⟩,
   ⟨some 110,none,.prim (.nilc (.tmp 109))⟩,
   ⟨some 111,none,.prim (.fadr 1 (.tmp 110))⟩,
   ⟨some 112,none,.prim (.load 1 false (.tmp 111))⟩,
   ⟨some 113,none,.prim (.bin false .add (.tmp 112) (.const (Go.Value.int Go.IntKind.i64 1)))⟩,
   ⟨some 114,none,.prim (.nilc (.tmp 109))⟩,
   ⟨some 115,none,.prim (.fadr 1 (.tmp 114))⟩,
   ⟨none,none,.prim (.store 1 (.tmp 115) (.tmp 113))⟩])
  (.seq (.seq (.ops [⟨some 116,none,.prim (.mov (.tmp 3))⟩])
  (.cond (.tmp 116)
  (.seq (.ops [⟨some 9,none,.prim (.mov (.const (Go.Value.int Go.IntKind.i64 0)))⟩])
  (.block 4 (.loop [0,1,3,5,6,7,8,10,11,12,13,14,15,16,17,18,19,20,21,22,23,24,25,26,27,28,29,30,31,32,33,34,35,36,37,38,39,40,41,42,43,44,45,46,47,48,49,50,51,52,53,54,55,56,57,58,59,60,61,62,63,64,65,66,67,68,69,70,71,72,73,74,75,76,77,78,79,80,81,82,83,84,85,86,87,88,89,90,91,92,93,94,95,96,97,98,99,100,101,102,103,104,105,106,107,108,109,110,111,112,113,114,115,116,117,118,119,120,121,122,123,124,125,126,127,128] (.seq (.seq (.ops [⟨some 117,none,.prim (.mov (.tmp 9))⟩,
   ⟨some 118,none,.prim (.bin false .lss (.tmp 117) (.const (Go.Value.int Go.IntKind.i64 4)))⟩])
  (.cond (.tmp 118)
  .skip
  (.exit 4)))
  (.seq (.block 5 (.ops [⟨some 121,none,.prim (.mov (.tmp 9))⟩,
   ⟨some 122,none,.prim (.mov (.tmp 9))⟩,
   ⟨some 123,none,.prim (.iadra 1 4 (.tmp 4) (.tmp 122))⟩,
   ⟨some 124,none,.prim (.load 1 false (.tmp 123))⟩,
   ⟨some 125,none,.prim (.un .xor (.tmp 124))⟩,
   ⟨some 126,none,.prim (.iadra 1 4 (.tmp 4) (.tmp 121))⟩,
   ⟨none,none,.prim (.store 1 (.tmp 126) (.tmp 125))⟩]))
  (.ops [⟨some 119,none,.prim (.mov (.tmp 9))⟩,
   ⟨some 120,none,.prim (.bin false .add (.tmp 119) (.const (Go.Value.int Go.IntKind.i64 1)))⟩,
   ⟨some 9,none,.prim (.mov (.tmp 120))⟩]))))))
  .skip))
  (.seq (.ops [⟨some 127,none,.prim (.load 4 true (.tmp 4))⟩,
   ⟨some 128,none,.prim (.build [.pl (.int .i64 0),.pl (.int .u64 0),.pl (.int .u64 0),.pl (.int .u64 0),.pl (.int .u64 0),.nils] [(0,1,(.const (Go.Value.int Go.IntKind.i64 1))),(1,4,(.tmp 127))])⟩,
   ⟨none,none,.prim (.store 6 (.tmp 2) (.tmp 128))⟩])
  .ret))))
def c55d:List Tmp:=[1,6,9,10,11,12,13,14,15,16,17,18,19,20,21,22,23,24,25,26,27,28,29,30,31,32,33,34,35,36,37,38,39,40,41,42,43,44,45,46,47,48,49,50,51,52,53,54,55,56,57,58,59,60,61,62,63,64,65,66,67,68,69,70,71,72,73,74,75,76,77,78,79,80,81,82,83,84,85,86,87,88,89,90,91,92,93,94,95,96,97,98,99,100,101,102,103,104,105,106,107,108,109,110,111,112,113,114,115,116,117,118,119,120,121,122,123,124,125,126,127,128]
def c55y:ACode :=
 (.seq (.seq (.ops [⟨some 79,none,.prim (.mov (.tmp 8))⟩,
   ⟨some 80,none,.prim (.mov (.tmp 7))⟩,
   ⟨some 81,none,.prim (.convi .i64 (.tmp 80))⟩,
   ⟨some 82,none,.prim (.bin false .leq (.tmp 79) (.tmp 81))⟩])
  (.cond (.tmp 82)
  .skip
  (.exit 2)))
  (.seq (.block 3 (.ops [⟨some 85,none,.prim (.mov (.tmp 8))⟩,
   ⟨some 86,none,.prim (.bin false .quo (.tmp 85) (.const (Go.Value.int Go.IntKind.i64 64)))⟩,
   ⟨some 87,none,.prim (.mov (.tmp 8))⟩,
   ⟨some 88,none,.prim (.bin false .quo (.tmp 87) (.const (Go.Value.int Go.IntKind.i64 64)))⟩,
   ⟨some 89,none,.prim (.iadra 1 4 (.tmp 4) (.tmp 88))⟩,
   ⟨some 90,none,.prim (.load 1 false (.tmp 89))⟩,
   ⟨some 91,none,.prim (.mov (.tmp 8))⟩,
   ⟨some 92,none,.prim (.bin false .rem (.tmp 91) (.const (Go.Value.int Go.IntKind.i64 64)))⟩,
   ⟨some 93,none,.prim (.convi .u64 (.tmp 92))⟩,
   ⟨some 94,none,.prim (.bin false .shl (.const (Go.Value.int Go.IntKind.u64 1)) (.tmp 93))⟩,
   ⟨some 95,none,.prim (.bin false .or (.tmp 90) (.tmp 94))⟩,
   ⟨some 96,none,.prim (.iadra 1 4 (.tmp 4) (.tmp 86))⟩,
   ⟨none,none,.prim (.store 1 (.tmp 96) (.tmp 95))⟩]))
  (.ops [⟨some 83,none,.prim (.mov (.tmp 8))⟩,
   ⟨some 84,none,.prim (.bin false .add (.tmp 83) (.const (Go.Value.int Go.IntKind.i64 1)))⟩,
   ⟨some 8,none,.prim (.mov (.tmp 84))⟩])))
theorem z6d (s:ByteArray) (a:Nat):a≤(z0k s a).2.1:=by
 unfold z0k
 repeat' split
 all_goals simp only
 all_goals omega
theorem z6e (s:ByteArray) (a:Nat) (h:over s a false=false):a+1≤(z0k s a).2.1:=by
 unfold z0k;rw[h];simp only[Bool.false_eq_true,if_false]
 repeat' split
 all_goals simp only
 all_goals omega
theorem z6f (s:ByteArray) (a:Nat):(z0k s a).1<256:=by
 unfold z0k
 repeat' split
 all_goals first
 |exact z1Y _ _
 |(show 0<256;decide)
theorem zbb (s:ByteArray) (a:Nat):(z0k s a).2.1≤(dTo s a).2.1:=by
 unfold dTo;split
 · exact Nat.le_trans (Nat.le_succ _) (z6d _ _)
 · exact Nat.le_refl _
theorem zfI (s:ByteArray) (a:Nat):(dTo s a).1<256:=by
 unfold dTo;split<;>exact z6f _ _
section
variable {σ:St} {p:Nat} {s:ByteArray}
theorem z1G (hp:p<σ.length) (a d:Nat) (b:Bool) (ex:St):Ans Tryz.prog 172 [.ptr p 0] (σ.set p (dob s a d b)++ex) (Bo (!over s a b)) (σ.set p (dob s a d b)++ex) :=
 z6G _ p s a d b (gA hp _ _)
theorem z2v (hp:p<σ.length) (a d:Nat) (b:Bool) (ex:St):Ans Tryz.prog 185 [.ptr p 0] (σ.set p (dob s a d b)++ex) (.tup []) (σ.set p (dob s a d true)++ex):=by
 have:=z2J _ p s a d b (gA hp (dob s a d b) ex)
 rwa [sA hp]at this
theorem z6g (hp:p<σ.length) (a d:Nat) (hs:s.size≤40) (ex:St):Ans Tryz.prog 190 [.ptr p 0] (σ.set p (dob s a d false)++ex) (B8 (z0k s a).1) (σ.set p (dob s (z0k s a).2.1 d (z0k s a).2.2)++ex):=by
 have:=z8g _ p s a d hs (gA hp (dob s a d false) ex)
 rwa [sA hp]at this
end
theorem zeG (n:Nat) (s:ByteArray) (a d:Nat) (b:Bool):BelO n (dob s a d b):=by
 intro x hx;simp only[List.mem_cons,List.not_mem_nil,or_false]at hx;rcases hx with rfl|rfl|rfl|rfl<;>exact .pl _
theorem z5n {σ:St} {p:Nat} {s:ByteArray} {a d:Nat} {b:Bool} (h:∀o∈σ.set p (dob s a d b),BelO (σ.set p (dob s a d b)).length o) (a' d':Nat) (b':Bool) :
  ∀o∈σ.set p (dob s a' d' b'),BelO (σ.set p (dob s a' d' b')).length o:=by
 have e:σ.set p (dob s a' d' b')=(σ.set p (dob s a d b)).set p (dob s a' d' b'):=by rw[List.set_set]
 have el:(σ.set p (dob s a' d' b')).length=(σ.set p (dob s a d b)).length:=by simp
 rw[el,e];exact z21 h (zeG _ _ _ _ _)
theorem z0B {s:ByteArray} {a:Nat} (h:over s a false=false) (c:Nat):sees s a false c=(byteAt s a==c):=by simp[sees,h]
section
variable (σ:St) (p:Nat) (s:ByteArray) (a d:Nat)
theorem z2X (hp:p<σ.length) (neg:Bool) (n f t aT:Nat) (bT:Bool) (S:List Int) (h3:S.length=4) (hf:f<256) (ht:t<256) (k:List Fr) (B:Bs)
  (h:N Tryz.prog σ.length k B (mkE 129 [(0,.ptr p 0),(2,.ptr σ.length 0),(3,Bo neg),(4,.ptr (σ.length+1) 0),(5,I n),(7,B8 t),(8,I ((f+(t+1-f):Nat):Int)),(79,I ((f+(t+1-f):Nat):Int)),(80,B8 t),(81,I t),(82,Bo false)])
   (σ.set p (dob s aT d bT)++[box0,.box ((addR S f (t+1-f)).map U)])) :
  L Tryz.prog σ.length c55d c55y (Fr.block 2::k) B (mkE 129 [(0,.ptr p 0),(2,.ptr σ.length 0),(3,Bo neg),(4,.ptr (σ.length+1) 0),(5,I n),(7,B8 t),(8,I f)])
    (σ.set p (dob s aT d bT)++[box0,.box (S.map U)]):=by
 have d3:IntKind.i64.wrap (t:Int)=(t:Int):=wrap64 (by omega)
 refine L.count (t+1-f) (fun i=>mkE 129 [(0,.ptr p 0),(2,.ptr σ.length 0),(3,Bo neg),(4,.ptr (σ.length+1) 0),(5,I n),(7,B8 t),(8,I ((f+i:Nat):Int))])
  (fun i=>σ.set p (dob s aT d bT)++[box0,.box ((addR S f i).map U)]) ?_ ?_ rfl rfl
 · intro i hi Q hQ;have c1:(((f+i:Nat):Int)≤(t:Int))=True:=by simp;omega
   have c3:IntKind.i64.wrap (((f+i:Nat):Int)+1)=((f+(i+1):Nat):Int):=by rw[wrapN (by omega) (by omega)];omega
   have e1:IntKind.i64.wrap (((f+i:Nat):Int).tdiv 64)=(((f+i)/64:Nat):Int):=by
    rw[show((f+i:Nat):Int).tdiv 64=(((f+i)/64:Nat):Int) from rfl];exact wrapN (by omega) (by omega)
   have e2:((f+i:Nat):Int).tmod 64=(((f+i)%64:Nat):Int):=rfl;have e3:((64:Int)=0)=False:=by simp
   have e4:((((f+i)/64:Nat):Int)<(4:Nat))=True:=by simp;omega
   have e5:IntKind.u64.wrap (((f+i)%64:Nat):Int)=(((f+i)%64:Nat):Int):=by
    simp only[IntKind.wrap,IntKind.bits,IntKind.signed];simp;omega
   have hT:(addR S f i).length=4:=by rw[z2H];exact h3
   have hv:=z5f hT (c:=f+i) (by omega)
   have hset:=z2V (addR S f i) (f+i);rw[addR]at hQ;rw[←hset]at hQ;clear hset;generalize hw:(addR S f i).getD ((f+i)/64) 0=v at hv hQ;have hl:((addR S f i).map U).length=4:=by simpa using hT
   generalize (addR S f i).map U=cs at hv hQ hl⊢;have hk:(f+i)/64<cs.length:=by rw[hl];omega
   rw[Nat.zero_add]at hv hQ
   have e6:cs.drop ((f+i)/64)=U v::cs.drop ((f+i)/64+1):=by
    rw[List.drop_eq_getElem_cons hk];have:=(List.getElem?_eq_some_iff.1 hv).2;rw[this]
   have e7:((f+i)/64+1≤cs.length)=True:=by simp;omega
   have e8:(1≤(cs.drop ((f+i)/64+1)).length+1)=True:=by simp
   have hsa:∀y:AV,cs.set ((f+i)/64) y=cs.take ((f+i)/64)++[y]++cs.drop ((f+i)/64+1):=fun y=>by rw[List.set_eq_take_append_cons_drop,if_pos hk];simp
   rw[hsa]at hQ;simp -implicitDefEqProofs only[c55y,c55d,mkE,go_sem,d3,c1,e1,e2,e3,e4,e5,Nat.mul_one,gA hp,sA hp,gL0,sL0,gL1,sL1,e6,e7,e8,c3];exact hQ
 · intro Q;have c1:(((f+(t+1-f):Nat):Int)≤(t:Int))=False:=by simp;omega
   have c2:decide (((f+(t+1-f):Nat):Int)≤(t:Int))=false:=by simp;omega
   simp -implicitDefEqProofs only[c55y,c55d,mkE,go_sem,d3,c1,c2];simp -implicitDefEqProofs only[mkE,go_sem]at h;exact h
set_option maxHeartbeats 800000 in
theorem z5o (hp:p<σ.length) (hs:s.size≤40) (neg:Bool) (a0:Nat) (r:List RV) (hr:r=r187)
  (hb2:∀(a' d':Nat) (b':Bool) (o:Ob),o∈σ.set p (dob s a' d' b')→BelO (σ.set p (dob s a' d' b')).length o)
  (res:List Int×Nat×Bool×Nat) (hres:z0Q s (s.size+3) z4 a0 false 0=res) :
  L Tryz.prog σ.length c55c c55x [Fr.block 0,Fr.seq c55k] (Fini σ.length r (dOut s neg res).1.rv (σ.set p (dob s (dOut s neg res).2.1 d (dOut s neg res).2.2)))
    (mkE 129 [(0,.ptr p 0),(2,.ptr σ.length 0),(3,Bo neg),(4,.ptr (σ.length+1) 0),(5,I 0)])
    (σ.set p (dob s a0 d false)++[box0,.box (z4.map U)]):=by
 subst hr;have q1:IntKind.i64.wrap (0+1)=1:=by decide
 have q2:IntKind.i64.wrap (1+1)=2:=by decide
 have q3:IntKind.i64.wrap (2+1)=3:=by decide
 have q4:IntKind.i64.wrap (3+1)=4:=by decide
 have n1:Int.toNat 1=1:=rfl;have n2:Int.toNat 2=2:=rfl;have n3:Int.toNat 3=3:=rfl;have c4:((4:Nat):Int)=4:=rfl;unfold dOut
 refine L.intro (α:={ x:Nat×List Int×Nat×Bool×Nat // z0Q s x.1 x.2.1 x.2.2.1 x.2.2.2.1 x.2.2.2.2=res∧s.size-x.2.2.1<x.1∧x.2.1.length=4∧x.2.2.2.2≤x.2.2.1 })
  (fun x=>x.1.1)
  (fun x=>mkE 129 [(0,.ptr p 0),(2,.ptr σ.length 0),(3,Bo neg),(4,.ptr (σ.length+1) 0),(5,I x.1.2.2.2.2)])
  (fun x=>σ.set p (dob s x.1.2.2.1 d x.1.2.2.2.1)++[box0,.box (x.1.2.1.map U)])
  (fun x J hJ=>?_) ⟨(s.size+3,z4,a0,false,0),hres,by simp only;omega,rfl,Nat.zero_le _⟩ rfl rfl
 obtain⟨⟨k,S,a1,b1,n⟩,h1,h2,h3,h4⟩:=x;simp only at h1 h2 h3 h4 hJ⊢;rcases k with _|k
 · omega
 rw[z0Q]at h1;have k93:(((byteAt s a1:Nat):Int)==93)=(byteAt s a1==93):=z0i _ 93;have n93:(((byteAt s a1:Nat):Int) != 93)= !(byteAt s a1==93):=by rw[bne,k93]
 cases hgo:dGo s a1 b1
 · rw[hgo,if_neg Bool.false_ne_true]at h1;subst h1;clear hJ h2;obtain⟨x0,x1,x2,x3,rfl⟩:=four h3;cases ho:over s a1 b1
   · have hb1:b1=false:=by cases b1<;>simp[over]at ho⊢
     subst hb1;have hlt:=z1t ho;have hlt':(a1:Int)<s.size:=by omega
     have h93:(byteAt s a1==93)=true:=by rw[←z0B ho];simpa[dGo,ho] using hgo
     have kn:((n:Int)==0)=(n==0):=z0i n 0;simp -implicitDefEqProofs only[c55x,c55c,c55k,mkE,go_sem];refine CD.intro (z1G hp a1 d false _) ?_;simp -implicitDefEqProofs only[go_sem,ho,gA hp,sA hp,gL0,sL0,gL1,sL1,hlt',z09,k93,n93,h93];refine CO.intro (z1G hp a1 d false _) ?_;simp -implicitDefEqProofs only[go_sem,ho,kn];cases hn:n==0
     · simp -implicitDefEqProofs only[go_sem,gA hp,sA hp,gL0,sL0,gL1,sL1,z0P (show a1≤4294967296 by omega),Bool.or_self]
       cases neg
       · simp -implicitDefEqProofs only[go_sem,gA hp,sA hp,gL0,sL0,gL1,sL1];refine Fini.trim2 (ex:=[_,_]) ?_ rfl ?_ (z0c _ _) (hb2 _ _ _)
         · simp -implicitDefEqProofs only[go_sem,r187,resA,z01,rvA,oneOf,gL0];rfl
         · simp
       · simp -implicitDefEqProofs only[go_sem,gA hp,sA hp,gL0,sL0,gL1,sL1]
         refine L.count 4 (fun i=>mkE 129 [(2,.ptr σ.length 0),(4,.ptr (σ.length+1) 0),(9,I i)])
          (fun i=>σ.set p (dob s (a1+1) d false)++[box0,.box (match i with|0=>[U x0,U x1,U x2,U x3]|1=>[U (notU x0),U x1,U x2,U x3]|2=>[U (notU x0),U (notU x1),U x2,U x3]|3=>[U (notU x0),U (notU x1),U (notU x2),U x3]|_=>[U (notU x0),U (notU x1),U (notU x2),U (notU x3)])]) ?_ ?_ rfl rfl
         · intro i hi Q hQ
           match i,hi,hQ with
           |0,_,hQ=>simp -implicitDefEqProofs only[mkE,go_sem,gA hp,sA hp,gL0,sL0,gL1,sL1,q1,q2,q3,q4,n1,n2,n3,c4,Int.toNat_zero,Int.cast_ofNat_Int,Int.natCast_one,Int.natCast_zero];exact hQ
           |1,_,hQ=>simp -implicitDefEqProofs only[mkE,go_sem,gA hp,sA hp,gL0,sL0,gL1,sL1,q1,q2,q3,q4,n1,n2,n3,c4,Int.toNat_zero,Int.cast_ofNat_Int,Int.natCast_one,Int.natCast_zero];exact hQ
           |2,_,hQ=>simp -implicitDefEqProofs only[mkE,go_sem,gA hp,sA hp,gL0,sL0,gL1,sL1,q1,q2,q3,q4,n1,n2,n3,c4,Int.toNat_zero,Int.cast_ofNat_Int,Int.natCast_one,Int.natCast_zero];exact hQ
           |3,_,hQ=>simp -implicitDefEqProofs only[mkE,go_sem,gA hp,sA hp,gL0,sL0,gL1,sL1,q1,q2,q3,q4,n1,n2,n3,c4,Int.toNat_zero,Int.cast_ofNat_Int,Int.natCast_one,Int.natCast_zero];exact hQ
         · intro Q;simp -implicitDefEqProofs only[mkE,go_sem,gA hp,sA hp,gL0,sL0,gL1,sL1,q1,q2,q3,q4,n1,n2,n3,c4,Int.toNat_zero,Int.cast_ofNat_Int,Int.natCast_one,Int.natCast_zero];refine Fini.trim2 (ex:=[_,_]) ?_ rfl ?_ (z0c _ _) (hb2 _ _ _)
           · simp -implicitDefEqProofs only[go_sem,r187,resA,z01,rvA,oneOf,gL0];rfl
           · simp
     · simp -implicitDefEqProofs only[go_sem];refine CO.intro (z2v hp a1 d false _) ?_;simp -implicitDefEqProofs only[go_sem,gA hp,sA hp,gL0,sL0,gL1,sL1,Bool.or_true];refine Fini.trim2 (ex:=[_,_]) ?_ rfl ?_ (z0c _ zeroR) (hb2 _ _ _)
       · simp -implicitDefEqProofs only[go_sem,r187,resA,z01,rvA,oneOf,gL0];rfl
       · simp
   · simp -implicitDefEqProofs only[c55x,c55c,c55k,mkE,go_sem];refine CD.intro (z1G hp a1 d b1 _) ?_;simp -implicitDefEqProofs only[go_sem,ho];refine CO.intro (z1G hp a1 d b1 _) ?_;simp -implicitDefEqProofs only[go_sem,ho];refine CO.intro (z2v hp a1 d b1 _) ?_;simp -implicitDefEqProofs only[go_sem,gA hp,sA hp,gL0,sL0,gL1,sL1,Bool.true_or];refine Fini.trim2 (ex:=[_,_]) ?_ rfl ?_ (z0c _ zeroR) (hb2 _ _ _)
     · simp -implicitDefEqProofs only[go_sem,r187,resA,z01,rvA,oneOf,gL0];rfl
     · simp
 · rw[hgo,if_pos rfl]at h1
   have ho:over s a1 b1=false:=by
    cases h:over s a1 b1
    · rfl
    · simp[dGo,h]at hgo
   have hb1:b1=false:=by cases b1<;>simp[over]at ho⊢
   subst hb1;have hlt:=z1t ho;have hlt':(a1:Int)<s.size:=by omega
   have h93:(byteAt s a1==93)=false:=by rw[←z0B ho];simpa[dGo,ho] using hgo
   have hgt:=z6e s a1 ho;have hge:=zbb s a1;have hJ':=hJ ⟨(k,addR S (z0k s a1).1 ((dTo s a1).1+1-(z0k s a1).1),(dTo s a1).2.1,dBad s a1,n+1),h1,by simp only;omega,by rw[z2H];exact h3,by simp only;omega⟩ (Nat.lt_succ_self k)
   simp only at hJ';have hm2:=zfI s a1;have hm1:=z6f s a1;have hbd:dBad s a1=((dTo s a1).2.2||decide ((dTo s a1).1<(z0k s a1).1)):=rfl;have hto:dTo s a1=if sees s (z0k s a1).2.1 (z0k s a1).2.2 45 then z0k s ((z0k s a1).2.1+1) else z0k s a1:=rfl
   rw[hbd]at hJ';clear hJ h1 hbd hgo;simp -implicitDefEqProofs only[c55x,c55c,c55d,mkE,go_sem];refine CD.intro (z1G hp a1 d false _) ?_;simp -implicitDefEqProofs only[go_sem,ho,gA hp,sA hp,gL0,sL0,gL1,sL1,hlt',z09,k93,n93,h93];refine CO.intro (z6g hp a1 d hs _) ?_;generalize z0k s a1=m at hgt hge hJ' hm1 hto⊢;obtain⟨f,am,bm⟩:=m;simp only at hgt hge hJ' hm1 hto⊢;simp -implicitDefEqProofs only[go_sem];refine CD.intro (z1G hp am d bm _) ?_;cases ho2:over s am bm
   · have hbm:bm=false:=by cases bm<;>simp[over]at ho2⊢
     subst hbm;have hlt2:=z1t ho2;have hlt2':(am:Int)<s.size:=by omega
     have k45:(((byteAt s am:Nat):Int)==45)=(byteAt s am==45):=z0i _ 45;rw[z0B ho2]at hto;simp -implicitDefEqProofs only[go_sem,gA hp,sA hp,gL0,sL0,gL1,sL1,hlt2',z09,k45];cases h45:byteAt s am==45
     · rw[h45,if_neg Bool.false_ne_true]at hto;rw[hto]at hJ' hm2;simp only at hJ' hm2;simp -implicitDefEqProofs only[go_sem];have d1:decide ((f:Int)<(f:Int))=decide (f<f):=by rw[Bool.eq_iff_iff];simp
       have d2:IntKind.i64.wrap (f:Int)=(f:Int):=wrap64 (by omega)
       have c5:IntKind.i64.wrap ((n:Int)+1)=((n+1:Nat):Int):=by rw[wrapN (by omega) (by omega)];rfl
       simp -implicitDefEqProofs only[go_sem,d1];cases hlt:decide (f<f)
       · rw[hlt,Bool.or_false]at hJ';simp -implicitDefEqProofs only[go_sem,d2];refine z2X σ p s d hp neg n f f am false S h3 hm1 hm2 _ _ ?_;simp -implicitDefEqProofs only[mkE,go_sem,c5,c55c,c55d]at hJ'⊢;exact hJ'
       · rw[hlt,Bool.or_true]at hJ';simp -implicitDefEqProofs only[go_sem];refine CO.intro (z2v hp am d false _) ?_;simp -implicitDefEqProofs only[go_sem,d2];refine z2X σ p s d hp neg n f f am true S h3 hm1 hm2 _ _ ?_;simp -implicitDefEqProofs only[mkE,go_sem,c5,c55c,c55d]at hJ'⊢;exact hJ'
     · rw[h45,if_pos rfl]at hto;simp -implicitDefEqProofs only[go_sem,gA hp,sA hp,gL0,sL0,gL1,sL1,z0P (show am≤4294967296 by omega)]
       refine CO.intro (z6g hp (am+1) d hs _) ?_;rw[←hto];clear hto;generalize dTo s a1=q at hJ' hm2 hge⊢;obtain⟨t,aT,bT⟩:=q;simp only at hJ' hm2 hge⊢;simp -implicitDefEqProofs only[go_sem];have d1:decide ((t:Int)<(f:Int))=decide (t<f):=by rw[Bool.eq_iff_iff];simp
       have d2:IntKind.i64.wrap (f:Int)=(f:Int):=wrap64 (by omega)
       have c5:IntKind.i64.wrap ((n:Int)+1)=((n+1:Nat):Int):=by rw[wrapN (by omega) (by omega)];rfl
       simp -implicitDefEqProofs only[go_sem,d1];cases hlt:decide (t<f)
       · rw[hlt,Bool.or_false]at hJ';simp -implicitDefEqProofs only[go_sem,d2];refine z2X σ p s d hp neg n f t aT bT S h3 hm1 hm2 _ _ ?_;simp -implicitDefEqProofs only[mkE,go_sem,c5,c55c,c55d]at hJ'⊢;exact hJ'
       · rw[hlt,Bool.or_true]at hJ';simp -implicitDefEqProofs only[go_sem];refine CO.intro (z2v hp aT d bT _) ?_;simp -implicitDefEqProofs only[go_sem,d2];refine z2X σ p s d hp neg n f t aT true S h3 hm1 hm2 _ _ ?_;simp -implicitDefEqProofs only[mkE,go_sem,c5,c55c,c55d]at hJ'⊢;exact hJ'
   · rw[show sees s am bm 45=false by simp[sees,ho2],if_neg Bool.false_ne_true]at hto
     rw[hto]at hJ' hm2;simp only at hJ' hm2;simp -implicitDefEqProofs only[go_sem];have d1:decide ((f:Int)<(f:Int))=decide (f<f):=by rw[Bool.eq_iff_iff];simp
     have d2:IntKind.i64.wrap (f:Int)=(f:Int):=wrap64 (by omega)
     have c5:IntKind.i64.wrap ((n:Int)+1)=((n+1:Nat):Int):=by rw[wrapN (by omega) (by omega)];rfl
     simp -implicitDefEqProofs only[go_sem,d1];cases hlt:decide (f<f)
     · rw[hlt,Bool.or_false]at hJ';simp -implicitDefEqProofs only[go_sem,d2];refine z2X σ p s d hp neg n f f am bm S h3 hm1 hm2 _ _ ?_;simp -implicitDefEqProofs only[mkE,go_sem,c5,c55c,c55d]at hJ'⊢;exact hJ'
     · rw[hlt,Bool.or_true]at hJ';simp -implicitDefEqProofs only[go_sem];refine CO.intro (z2v hp am d bm _) ?_;simp -implicitDefEqProofs only[go_sem,d2];refine z2X σ p s d hp neg n f f am true S h3 hm1 hm2 _ _ ?_;simp -implicitDefEqProofs only[mkE,go_sem,c5,c55c,c55d]at hJ'⊢;exact hJ'
set_option maxHeartbeats 800000 in
theorem z9X (hp:p<σ.length) (hs:s.size≤40):Ans Tryz.prog 187 [.ptr p 0] (σ.set p (dob s a d false)) (z1J s a).1.rv (σ.set p (dob s (z1J s a).2.1 d (z1J s a).2.2)):=by
 refine Ans.of_run' t187 (fun hbel _=>?_)
 have hb2:=z5n hbel;simp -implicitDefEqProofs only[c187,go_sem,List.append_assoc,List.length_append,List.length_set];refine CD.intro (z1G hp a d false _) ?_;unfold z1J;have k94:(((byteAt s a:Nat):Int)==94)=(byteAt s a==94):=z0i _ 94;cases ho:over s a false
 · have hlt:=z1t ho;have hlt':(a:Int)<s.size:=by omega
   simp -implicitDefEqProofs only[go_sem,gA hp,sA hp,gL0,sL0,gL1,sL1,hlt',z09,k94];cases h94:byteAt s a==94
   · have hneg:sees s a false 94=false:=by rw[z0B ho,h94]
     rw[show nextA s a false 94=a by simp[nextA,hneg],hneg]
     simp -implicitDefEqProofs only[go_sem,List.append_assoc,List.length_append,List.length_set];exact z5o σ p s d hp hs false a _ rfl hb2 _ rfl
   · have hneg:sees s a false 94=true:=by rw[z0B ho,h94]
     rw[show nextA s a false 94=a+1 by simp[nextA,hneg],hneg]
     simp -implicitDefEqProofs only[go_sem,gA hp,sA hp,gL0,sL0,gL1,sL1,z0P (show a≤4294967296 by omega),List.append_assoc,List.length_append,List.length_set]
     exact z5o σ p s d hp hs true (a+1) _ rfl hb2 _ rfl
 · have hneg:sees s a false 94=false:=by simp[sees,ho]
   rw[show nextA s a false 94=a by simp[nextA,hneg],hneg]
   simp -implicitDefEqProofs only[go_sem,List.append_assoc,List.length_append,List.length_set];exact z5o σ p s d hp hs false a _ rfl hb2 _ rfl
end
abbrev DF:=Nat→Rex×Nat×Nat×Bool
def fullS:List Int:=[18446744073709551615,18446744073709551615,18446744073709551615,18446744073709551615]
def datom (s:ByteArray) (F:DF) (d:Nat):DF:=fun a =>
 let c:=byteAt s a
 if c==46 then(ofSet fullS,a+1,d,false)
 else if c==92 then
  if over s (a+1) false|| !signs.contains (byteAt s (a+1)) then(zeroR,a+1,d,true) else(ofSet (oneS (byteAt s (a+1))),a+2,d,false)
 else if c==40 then
  if decide (8<d+1) then(zeroR,a+1,d+1,true)
  else if sees s (F (a+1)).2.1 (F (a+1)).2.2.2 41 then((F (a+1)).1,(F (a+1)).2.1+1,d,false)
  else(zeroR,(F (a+1)).2.1,(F (a+1)).2.2.1,true)
 else if c==91 then((z1J s (a+1)).1,(z1J s (a+1)).2.1,d,(z1J s (a+1)).2.2)
 else if specials.contains c then(zeroR,a+1,d,true)
 else(ofSet (oneS c),a+1,d,false)
def z39 (s:ByteArray) (F:DF):DF:=fun a =>
 let x:=F a
 if sees s x.2.1 x.2.2.2 42 then(.mk 4 0 0 0 0 [x.1],x.2.1+1,x.2.2.1,x.2.2.2)
 else if sees s x.2.1 x.2.2.2 43 then(.mk 5 0 0 0 0 [x.1],x.2.1+1,x.2.2.1,x.2.2.2)
 else if sees s x.2.1 x.2.2.2 63 then(.mk 6 0 0 0 0 [x.1],x.2.1+1,x.2.2.1,x.2.2.2)
 else x
def DAns (f:FuncId) (g:Bool) (s:ByteArray) (d:Nat) (F:DF):Prop :=
 ∀(σ:St) (p a:Nat),p<σ.length→s.size≤40→(g=true→a<s.size) →
  Ans Tryz.prog f [.ptr p 0] (σ.set p (dob s a d false)) (F a).1.rv (σ.set p (dob s (F a).2.1 (F a).2.2.1 (F a).2.2.2))
section
variable {σ:St} {p:Nat} {s:ByteArray}
theorem DAns.ex {f:FuncId} {g:Bool} {d:Nat} {F:DF} (h:DAns f g s d F) (hp:p<σ.length) (a:Nat) (hs:s.size≤40) (hg:g=true→a<s.size) (ex:St) :
  Ans Tryz.prog f [.ptr p 0] (σ.set p (dob s a d false)++ex) (F a).1.rv (σ.set p (dob s (F a).2.1 (F a).2.2.1 (F a).2.2.2)++ex):=by
 have:=h (σ.set p (dob s a d false)++ex) p a (by simp;omega) hs hg
 rwa [sA hp,sA hp]at this
theorem zbc (hp:p<σ.length) (a d:Nat) (hs:s.size≤40) (ex:St):Ans Tryz.prog 187 [.ptr p 0] (σ.set p (dob s a d false)++ex) (z1J s a).1.rv (σ.set p (dob s (z1J s a).2.1 d (z1J s a).2.2)++ex):=by
 have:=z9X (σ.set p (dob s a d false)++ex) p s a d (by simp;omega) hs
 rwa [sA hp,sA hp]at this
end
theorem z94 (c:Nat):(oneS c).length=4:=by simp[oneS]
theorem zbd (s:ByteArray) (a:Nat):(z1J s a).1.ks=[]:=by
 unfold z1J dOut;split<;>rfl
section
variable (s:ByteArray)
set_option maxHeartbeats 4000000 in
theorem z7q (F:DF) (d:Nat) (hd:d≤8) (hF:d<8→DAns 164 false s (d+1) F) (hdeep:d<8→∀a,(F a).2.2.2=false→(F a).2.2.1=d+1):DAns 180 true s d (datom s F d):=by
 intro σ p a hp hs hg;have hlt:=hg rfl;have hlt':(a:Int)<s.size:=by omega
 refine Ans.of_run' t180 (fun hbel _=>?_)
 have hb2:=z5n hbel;have k46:(((byteAt s a:Nat):Int)==46)=(byteAt s a==46):=z0i _ 46;have k92:(((byteAt s a:Nat):Int)==92)=(byteAt s a==92):=z0i _ 92;have k40:(((byteAt s a:Nat):Int)==40)=(byteAt s a==40):=z0i _ 40;have k91:(((byteAt s a:Nat):Int)==91)=(byteAt s a==91):=z0i _ 91;simp -implicitDefEqProofs only[c180,r180,go_sem,List.append_assoc,List.length_append,List.length_set,gA hp,sA hp,gL0,sL0,gL1,sL1,hlt',z09,z0P (show a≤4294967296 by omega),k46]
 unfold datom;simp only;cases h46:byteAt s a==46
 case true =>
  simp -implicitDefEqProofs only[go_sem,gA hp,sA hp,gL0,sL0,gL1,sL1]
  (refine Fini.trim2 (ex:=[_]) ?_ rfl ?_ (z0c _ _) (hb2 _ _ _);(simp -implicitDefEqProofs only[go_sem,resA,z01,rvA,oneOf,gL0];first|done|rfl);simp)
 simp -implicitDefEqProofs only[go_sem,k92];cases h92:byteAt s a==92
 case true =>
  simp -implicitDefEqProofs only[go_sem];refine CD.intro (z1G hp (a+1) d false _) ?_
  cases ho2:over s (a+1) false with
  |true =>
   simp -implicitDefEqProofs only[go_sem,gA hp,sA hp,gL0,sL0,gL1,sL1];refine CO.intro (z2v hp (a+1) d false _) ?_;simp -implicitDefEqProofs only[go_sem,gA hp,sA hp,gL0,sL0,gL1,sL1,Bool.true_or]
   (refine Fini.trim2 (ex:=[_]) ?_ rfl ?_ (z0c _ _) (hb2 _ _ _);(simp -implicitDefEqProofs only[go_sem,resA,z01,rvA,oneOf,gL0];first|done|rfl);simp)
  |false =>
   have hlt2:=z1t ho2;have h2:((a+1:Nat):Int)<s.size:=by omega
   simp -implicitDefEqProofs only[go_sem,gA hp,sA hp,gL0,sL0,gL1,sL1,h2,z09];refine CD.intro (z6c _ (byteAt s (a+1)) (z1Y _ _)) ?_
   cases hq:signs.contains (byteAt s (a+1)) with
   |false =>
    simp -implicitDefEqProofs only[go_sem,gA hp,sA hp,gL0,sL0,gL1,sL1];refine CO.intro (z2v hp (a+1) d false _) ?_;simp -implicitDefEqProofs only[go_sem,gA hp,sA hp,gL0,sL0,gL1,sL1,Bool.or_true]
    (refine Fini.trim2 (ex:=[_]) ?_ rfl ?_ (z0c _ _) (hb2 _ _ _);(simp -implicitDefEqProofs only[go_sem,resA,z01,rvA,oneOf,gL0];first|done|rfl);simp)
   |true =>
    have h3:IntKind.i64.wrap (((a+1+1:Nat):Int)-1)=((a+1:Nat):Int):=by
     simp only[IntKind.wrap,IntKind.bits,IntKind.signed];simp;omega
    simp -implicitDefEqProofs only[go_sem,gA hp,sA hp,gL0,sL0,gL1,sL1,z0P (show a+1≤4294967296 by omega),h2,h3,z09,Bool.or_false]
    refine CD.intro (z93 _ (byteAt s (a+1)) (z1Y _ _)) ?_;obtain⟨x0,x1,x2,x3,hS⟩:=four (z94 (byteAt s (a+1)));rw[hS];simp -implicitDefEqProofs only[go_sem,gA hp,sA hp,gL0,sL0,gL1,sL1]
    (refine Fini.trim2 (ex:=[_]) ?_ rfl ?_ (z0c _ _) (hb2 _ _ _);(simp -implicitDefEqProofs only[go_sem,resA,z01,rvA,oneOf,gL0];first|done|rfl);simp)
 simp -implicitDefEqProofs only[go_sem,k40];cases h40:byteAt s a==40
 case true =>
  have e8:decide ((8:Int)<((d+1:Nat):Int))=decide (8<d+1):=by rw[Bool.eq_iff_iff];simp;omega
  simp -implicitDefEqProofs only[go_sem,gA hp,sA hp,gL0,sL0,gL1,sL1,z0P (show d≤4294967296 by omega),e8]
  cases h8:decide (8<d+1) with
  |true =>
   simp -implicitDefEqProofs only[go_sem];refine CO.intro (z2v hp (a+1) (d+1) false _) ?_;simp -implicitDefEqProofs only[go_sem,gA hp,sA hp,gL0,sL0,gL1,sL1]
   (refine Fini.trim2 (ex:=[_]) ?_ rfl ?_ (z0c _ _) (hb2 _ _ _);(simp -implicitDefEqProofs only[go_sem,resA,z01,rvA,oneOf,gL0];first|done|rfl);simp)
  |false =>
   have hd7:d<8:=by
    have:¬(8<d+1):=by simpa using h8
    omega
   simp -implicitDefEqProofs only[go_sem];refine CO.intro ((hF hd7).ex hp (a+1) hs (fun h=>absurd h Bool.false_ne_true) _) ?_
   have hde:=hdeep hd7 (a+1);generalize F (a+1)=w at hde⊢;obtain⟨x,a1,d1,b1⟩:=w;simp only at hde⊢;have hbx:∀n,Bel n x.rv:=fun n=>z0c n x
   have hrx:=rv_eq x;rw[rv_eq x];rcases rvK_cases x.ks with hK|⟨l,hK⟩
   all_goals rw[hK]at hrx⊢
   all_goals simp -implicitDefEqProofs only[go_sem]
   all_goals refine CD.intro (z1G hp a1 d1 b1 _) ?_
   all_goals cases ho3:over s a1 b1
   all_goals first
   |(have hse:sees s a1 b1 41=false:=by simp[sees,ho3]
     simp -implicitDefEqProofs only[go_sem,gA hp,sA hp,gL0,sL0,gL1,sL1,hse];refine CO.intro (z2v hp a1 d1 b1 _) ?_;simp -implicitDefEqProofs only[go_sem,gA hp,sA hp,gL0,sL0,gL1,sL1]
     (refine Fini.trim2 (ex:=[_]) ?_ rfl ?_ (z0c _ _) (hb2 _ _ _);(simp -implicitDefEqProofs only[go_sem,resA,z01,rvA,oneOf,gL0];first|done|rfl);simp))
   |(have hb1:b1=false:=by cases b1<;>simp[over]at ho3⊢
     subst hb1;have hlt3:=z1t ho3;have h3:((a1:Nat):Int)<s.size:=by omega
     have k41:(((byteAt s a1:Nat):Int)==41)=(byteAt s a1==41):=z0i _ 41;have n41:(((byteAt s a1:Nat):Int) != 41)= !(byteAt s a1==41):=by rw[bne,k41]
     have hd1:=hde rfl;subst hd1
     have e9:IntKind.i64.wrap (((d+1:Nat):Int)-1)=(d:Int):=by
      simp only[IntKind.wrap,IntKind.bits,IntKind.signed];simp;omega
     rw[z0B ho3];simp -implicitDefEqProofs only[go_sem,gA hp,sA hp,gL0,sL0,gL1,sL1,h3,z09,k41,n41];cases h41:byteAt s a1==41
     · simp -implicitDefEqProofs only[go_sem];refine CO.intro (z2v hp a1 (d+1) false _) ?_;simp -implicitDefEqProofs only[go_sem,gA hp,sA hp,gL0,sL0,gL1,sL1]
       (refine Fini.trim2 (ex:=[_]) ?_ rfl ?_ (z0c _ _) (hb2 _ _ _);(simp -implicitDefEqProofs only[go_sem,resA,z01,rvA,oneOf,gL0];first|done|rfl);simp)
     · simp -implicitDefEqProofs only[go_sem,gA hp,sA hp,gL0,sL0,gL1,sL1,z0P (show a1≤4294967296 by omega),e9,hrx]
       rw[hrx]at hbx;refine Fini.trim2 (ex:=[_]) ?_ rfl ?_ (hbx _) (hb2 _ _ _)
       · simp -implicitDefEqProofs only[go_sem,resA,z01,rvA,oneOf,gL0]
       · simp)
 simp -implicitDefEqProofs only[go_sem,k91];cases h91:byteAt s a==91
 case true =>
  simp -implicitDefEqProofs only[go_sem];refine CO.intro (zbc hp (a+1) d hs _) ?_;have hK:rvK (z1J s (a+1)).1.ks=.nils:=by rw[zbd];rfl
  generalize z1J s (a+1)=w at hK⊢;obtain⟨x,a1,b1⟩:=w;simp only at hK⊢;have hbx:∀n,Bel n x.rv:=fun n=>z0c n x
  rw[rv_eq x,hK]at hbx⊢;simp -implicitDefEqProofs only[go_sem,gA hp,sA hp,gL0,sL0,gL1,sL1];refine Fini.trim2 (ex:=[_]) ?_ rfl ?_ (hbx _) (hb2 _ _ _)
  · simp -implicitDefEqProofs only[go_sem,resA,z01,rvA,oneOf,gL0]
  · simp
 simp -implicitDefEqProofs only[go_sem];refine CO.intro (z5m _ (byteAt s a)) ?_;simp -implicitDefEqProofs only[go_sem];cases hsp:specials.contains (byteAt s a)
 case true =>
  simp -implicitDefEqProofs only[go_sem];refine CO.intro (z2v hp (a+1) d false _) ?_;simp -implicitDefEqProofs only[go_sem,gA hp,sA hp,gL0,sL0,gL1,sL1]
  (refine Fini.trim2 (ex:=[_]) ?_ rfl ?_ (z0c _ _) (hb2 _ _ _);(simp -implicitDefEqProofs only[go_sem,resA,z01,rvA,oneOf,gL0];first|done|rfl);simp)
 simp -implicitDefEqProofs only[go_sem];refine CO.intro (z93 _ (byteAt s a) (z1Y _ _)) ?_;obtain⟨x0,x1,x2,x3,hS⟩:=four (z94 (byteAt s a));rw[hS];simp -implicitDefEqProofs only[go_sem,gA hp,sA hp,gL0,sL0,gL1,sL1]
 (refine Fini.trim2 (ex:=[_]) ?_ rfl ?_ (z0c _ _) (hb2 _ _ _);(simp -implicitDefEqProofs only[go_sem,resA,z01,rvA,oneOf,gL0];first|done|rfl);simp)
theorem z5p (F:DF) (d:Nat) (hF:DAns 180 true s d F):DAns 176 true s d (z39 s F):=by
 intro σ p a hp hs hg;refine Ans.of_run' t176 (fun hbel _=>?_)
 have hb2:=z5n hbel;simp -implicitDefEqProofs only[c176,r176,go_sem,List.append_assoc,List.length_append,List.length_set,gA hp,sA hp,gL0,sL0,gL1,sL1];refine CO.intro (hF.ex hp a hs hg _) ?_;unfold z39;generalize F a=w;obtain⟨x,a1,d1,b1⟩:=w;simp only;have hbx:∀n,Bel n x.rv:=fun n=>z0c n x
 have hrx:=rv_eq x;rw[rv_eq x];rcases rvK_cases x.ks with hK|⟨l,hK⟩
 all_goals rw[hK]at hrx⊢
 all_goals simp -implicitDefEqProofs only[go_sem]
 all_goals refine CO.intro (z1G hp a1 d1 b1 _) ?_
 all_goals cases ho:over s a1 b1
 all_goals first
 |(have hse:∀c,sees s a1 b1 c=false:=fun c=>by simp[sees,ho]
   simp -implicitDefEqProofs only[go_sem,gA hp,sA hp,gL0,sL0,gL1,sL1,hse,Bool.false_eq_true,if_false,hrx];rw[hrx]at hbx;refine Fini.trim2 (ex:=[_]) ?_ rfl ?_ (hbx _) (hb2 _ _ _)
   · simp -implicitDefEqProofs only[go_sem,resA,z01,rvA,oneOf,gL0]
   · simp)
 |(have hb1:b1=false:=by cases b1<;>simp[over]at ho⊢
   subst hb1;have hlt3:=z1t ho;have h3:((a1:Nat):Int)<s.size:=by omega
   have k42:(((byteAt s a1:Nat):Int)==42)=(byteAt s a1==42):=z0i _ 42;have k43:(((byteAt s a1:Nat):Int)==43)=(byteAt s a1==43):=z0i _ 43;have k63:(((byteAt s a1:Nat):Int)==63)=(byteAt s a1==63):=z0i _ 63;rw[z0B ho,z0B ho,z0B ho];have hkid:∀op,(Rex.mk op 0 0 0 0 [x]).rv=.agg [I op,U 0,U 0,U 0,U 0,.sl 6 [x.rv]]:=fun op=>rfl
   simp -implicitDefEqProofs only[go_sem,gA hp,sA hp,gL0,sL0,gL1,sL1,h3,z09,k42];cases h42:byteAt s a1==42
   · simp -implicitDefEqProofs only[go_sem,k43];cases h43:byteAt s a1==43
     · simp -implicitDefEqProofs only[go_sem,k63];cases h63:byteAt s a1==63
       · simp -implicitDefEqProofs only[go_sem,gA hp,sA hp,gL0,sL0,gL1,sL1,hrx];rw[hrx]at hbx;refine Fini.trim2 (ex:=[_]) ?_ rfl ?_ (hbx _) (hb2 _ _ _)
         · simp -implicitDefEqProofs only[go_sem,resA,z01,rvA,oneOf,gL0]
         · simp
       · simp -implicitDefEqProofs only[go_sem,gA hp,sA hp,gL0,sL0,gL1,sL1,z0P (show a1≤4294967296 by omega)]
         refine Fini.trim2 (ex:=[_]) ?_ rfl ?_ (z0c _ _) (hb2 _ _ _)
         · rw[hkid,hrx];simp -implicitDefEqProofs only[go_sem,resA,z01,rvA,oneOf,gL0]
         · simp
     · simp -implicitDefEqProofs only[go_sem,gA hp,sA hp,gL0,sL0,gL1,sL1,z0P (show a1≤4294967296 by omega)]
       refine Fini.trim2 (ex:=[_]) ?_ rfl ?_ (z0c _ _) (hb2 _ _ _)
       · rw[hkid,hrx];simp -implicitDefEqProofs only[go_sem,resA,z01,rvA,oneOf,gL0]
       · simp
   · simp -implicitDefEqProofs only[go_sem,gA hp,sA hp,gL0,sL0,gL1,sL1,z0P (show a1≤4294967296 by omega)]
     refine Fini.trim2 (ex:=[_]) ?_ rfl ?_ (z0c _ _) (hb2 _ _ _)
     · rw[hkid,hrx];simp -implicitDefEqProofs only[go_sem,resA,z01,rvA,oneOf,gL0]
     · simp)
end
end Go.Proofs.YteakobbdgehlgaaGreatDoor
