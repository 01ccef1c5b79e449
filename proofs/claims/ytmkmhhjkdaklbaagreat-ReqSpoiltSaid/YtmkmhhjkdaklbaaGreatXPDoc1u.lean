/- The parser of patterns: what the program's parser computes. No condition. -/
import Derived.Test.YtmkmhhjkdaklbaaGreatXPPar4u
import GoSem.Extern.BytealgCompare
import Derived.Laws.Strings
set_option linter.unusedSimpArgs false
set_option linter.unusedVariables false
set_option linter.unusedSectionVars false
namespace Go.Proofs.YtmkmhhjkdaklbaaGreat
open Go Go.Ab
set_option maxRecDepth 100000
namespace Rex
mutual
def rv:Rex→AV
 |.mk op a b c d ks=>.agg [I op,U a,U b,U c,U d,rvK ks]
def rvK:List Rex→AV
 |[]=>.nils
 |x::xs=>.sl 6 (rv x::rvL xs)
def rvL:List Rex→List AV
 |[]=>[]
 |x::xs=>rv x::rvL xs
end
theorem zga:∀l:List Rex,rvL l=l.map rv
 |[]=>rfl
 |x::xs=>by rw[rvL,zga xs];rfl
theorem z7m (x:Rex) (xs:List Rex):rvK (x::xs)=.sl 6 ((x::xs).map rv):=by rw[rvK,zga];rfl
theorem rv_eq (x:Rex):x.rv=.agg [I x.op,U x.a,U x.b,U x.c,U x.d,rvK x.ks]:=by
 cases x;rfl
theorem rvK_cases (ks:List Rex):rvK ks=.nils∨∃l,rvK ks=.sl 6 l:=by
 cases ks with
 |nil=>exact .inl rfl
 |cons x xs=>exact .inr ⟨_,z7m x xs⟩
mutual
theorem z0h (n:Nat):∀x:Rex,Bel n x.rv
 |.mk op a b c d ks=>by
  have hk:=zgM n ks;rw[rv];refine .agg _ fun i hi=>?_
  have:∀y∈[I op,U a,U b,U c,U d,rvK ks],Bel n y:=by
   intro y hy;simp only[List.mem_cons,List.not_mem_nil,or_false]at hy;rcases hy with rfl|rfl|rfl|rfl|rfl|rfl
   · exact .pl _
   · exact .pl _
   · exact .pl _
   · exact .pl _
   · exact .pl _
   · exact hk
  exact this _ (List.getElem_mem hi)
theorem zgM (n:Nat):∀ks:List Rex,Bel n (rvK ks)
 |[]=>.nils
 |x::xs=>by
  have h1:=z0h n x;have h2:=zcG n xs;rw[rvK];refine .sl 6 _ fun i hi=>?_
  have:∀y∈rv x::rvL xs,Bel n y:=by
   intro y hy;rcases List.mem_cons.1 hy with rfl|hy
   · exact h1
   · exact h2 y hy
  exact this _ (List.getElem_mem hi)
theorem zcG (n:Nat):∀ks:List Rex,∀y∈rvL ks,Bel n y
 |[]=>fun y hy=>absurd hy (by rw[rvL];exact List.not_mem_nil)
 |x::xs=>fun y hy=>by
  have h1:=z0h n x;have h2:=zcG n xs;rw[rvL]at hy;rcases List.mem_cons.1 hy with rfl|hy
  · exact h1
  · exact h2 y hy
end
end Rex
def ofSet (S:List Int):Rex:=.mk 1 (S.getD 0 0) (S.getD 1 0) (S.getD 2 0) (S.getD 3 0) []
abbrev z4:List Int:=[0,0,0,0]
abbrev PF:=Nat→Bool→Rex×Nat×Bool
def patom (s:ByteArray) (F:PF) (d:Nat):PF:=fun a b =>
 let q:=pbyte s a b
 if q.1==40 then
  let w:=if q.2.2||d==8 then(ofSet z4,q.2.1,q.2.2||d==8) else F q.2.1 q.2.2
  (w.1,nextA s w.2.1 w.2.2 41,!sees s w.2.1 w.2.2 41||w.2.2)
 else if q.1==91 then
  let k:=z2p s q.2.1 q.2.2
  (ofSet k.1,k.2.1,k.2.2)
 else if q.1==46 then(ofSet (turnS z4),q.2.1,q.2.2)
 else if q.1==92 then
  let k:=psign s q.2.1 q.2.2
  (ofSet (z2Q z4 k.1),k.2.1,k.2.2)
 else(ofSet (z2Q z4 q.1),q.2.1,q.2.2||stray.contains q.1)
def z32 (s:ByteArray) (F:PF):PF:=fun a b =>
 let x:=F a b
 if sees s x.2.1 x.2.2 42 then(.mk 4 0 0 0 0 [x.1],x.2.1+1,x.2.2)
 else if sees s x.2.1 x.2.2 43 then(.mk 5 0 0 0 0 [x.1],x.2.1+1,x.2.2)
 else if sees s x.2.1 x.2.2 63 then(.mk 6 0 0 0 0 [x.1],x.2.1+1,x.2.2)
 else x
def wGo (s:ByteArray) (a:Nat) (b:Bool):Bool:=!over s a b&&(!sees s a b 124&& !sees s a b 41)
def pwayL (s:ByteArray) (F:PF):Nat→List Rex→Nat→Bool→List Rex×Nat×Bool
 |0,K,a,b=>(K,a,b)
 |n+1,K,a,b=>if wGo s a b then pwayL s F n (K++[(F a b).1]) (F a b).2.1 (F a b).2.2 else(K,a,b)
def one (op:Int):List Rex→Rex
 |[x]=>x
 |K=>.mk op 0 0 0 0 K
def pway (s:ByteArray) (F:PF):PF:=fun a b =>
 (one 2 (pwayL s F (s.size+1) [] a b).1,(pwayL s F (s.size+1) [] a b).2)
def z2F (s:ByteArray) (F:PF):Nat→List Rex→Nat→Bool→List Rex×Nat×Bool
 |0,K,a,b=>(K,a,b)
 |n+1,K,a,b=>if sees s a b 124 then z2F s F n (K++[(F (a+1) b).1]) (F (a+1) b).2.1 (F (a+1) b).2.2 else(K,a,b)
def pways (s:ByteArray) (F:PF):PF:=fun a b =>
 (one 3 (z2F s F (s.size+1) [(F a b).1] (F a b).2.1 (F a b).2.2).1,(z2F s F (s.size+1) [(F a b).1] (F a b).2.1 (F a b).2.2).2)
def lvl (s:ByteArray) (W:PF) (d:Nat):PF:=pways s (pway s (z32 s (patom s W d)))
def PW (s:ByteArray):Nat→PF
 |0=>lvl s (fun a b=>(ofSet z4,a,b)) 8
 |k+1=>lvl s (PW s k) (7-k)
def Fwd (F:PF):Prop:=∀a b,a≤(F a b).2.1∧(b=true→(F a b).2.2=true)
theorem Fwd.hs {F:PF} (h:Fwd F) {s:ByteArray} {a:Nat} {b:Bool} (hs:b=true∨s.size≤40):(F a b).2.2=true∨s.size≤40:=by
 rcases hs with rfl|hs
 · exact .inl ((h a true).2 rfl)
 · exact .inr hs
theorem z3o (s:ByteArray) (a:Nat) (b:Bool) (c:Nat):a≤nextA s a b c:=by unfold nextA;split<;>omega
theorem z2q (s:ByteArray) (a c:Nat):sees s a true c=false:=by simp[sees,over]
theorem z9D {s:ByteArray} {a:Nat} {b:Bool} {c:Nat} (h:sees s a b c=true):a<s.size∧b=false:=by
 simp[sees,over]at h;exact⟨by omega,h.1.1⟩
theorem zgb {s:ByteArray} {a:Nat} {b:Bool} (h:wGo s a b=true):a<s.size∧b=false:=by
 simp[wGo,over]at h;exact⟨by omega,h.1.1⟩
theorem z8r (s:ByteArray):∀(n:Nat) (S:List Int) (a:Nat) (b first:Bool),a≤(z1i s n S a b first).2.1∧(b=true→(z1i s n S a b first).2.2=true)
 |0,S,a,b,first=>⟨Nat.le_refl _,id⟩
 |n+1,S,a,b,first=>by
  rw[z1i];split
  · have h:=z8r s n (addR S (z06 s a b).1 ((cTo s a b).1+1-(z06 s a b).1)) (cTo s a b).2.1 (cBad s a b) false;refine⟨Nat.le_trans (Nat.le_trans (z6L s a b) (zg9 s a b)) h.1,fun hb=>h.2 ?_⟩
    subst hb;exact z5M s a
  · exact⟨Nat.le_refl _,id⟩
theorem z5O (s:ByteArray) (a:Nat) (b:Bool):a≤(z2p s a b).2.1∧(b=true→(z2p s a b).2.2=true):=by
 have h:=z8r s (s.size+3) [0,0,0,0] (nextA s a b 94) b true;refine⟨Nat.le_trans (Nat.le_trans (z3o s a b 94) h.1) (z3o _ _ _ _),fun hb=>?_⟩
 show(_||_)=true;rw[h.2 hb,Bool.or_true]
theorem z3p (s:ByteArray) {F:PF} (h:Fwd F) (d:Nat):Fwd (patom s F d):=by
 intro a b;have h1:=z5m s a b;have hb:b=true→pbyte s a b=(0,a,true):=fun e=>by subst e;exact z4v s a
 unfold patom;generalize pbyte s a b=q at h1 hb⊢;obtain⟨c,a',b'⟩:=q;simp only at h1 hb⊢;split
 · rename_i hc
   have hnb:b=true→False:=fun e=>by
    have:=congrArg Prod.fst (hb e);simp only at this;subst this;simp at hc
   refine⟨?_,fun e=>(hnb e).elim⟩
   split
   · exact Nat.le_trans h1 (z3o s a' _ 41)
   · exact Nat.le_trans h1 (Nat.le_trans (h a' b').1 (z3o _ _ _ 41))
 · have hb':b=true→b'=true:=fun e=>by
    have:=hb e;simp only[Prod.mk.injEq]at this;exact this.2.2
   split
   · exact⟨Nat.le_trans h1 (z5O s a' b').1,fun e=>(z5O s a' b').2 (hb' e)⟩
   · split
     · exact⟨h1,hb'⟩
     · split
       · refine⟨Nat.le_trans h1 (z4w s a' b'),fun e=>?_⟩
         rw[hb' e];exact z6M s a'
       · refine⟨h1,fun e=>?_⟩
         show(_||_)=true;rw[hb' e,Bool.true_or]
def Eats (s:ByteArray) (F:PF):Prop:=∀a b,over s a b=false→a+1≤(F a b).2.1
theorem z8s (s:ByteArray) {F:PF} (h:Fwd F) (d:Nat):Eats s (patom s F d):=by
 intro a b ho;have h1:pbyte s a b=(byteAt s a,a+1,b):=by simp[pbyte,ho]
 unfold patom;rw[h1];simp only;split
 · split
   · exact z3o s (a+1) _ 41
   · exact Nat.le_trans (h (a+1) b).1 (z3o _ _ _ 41)
 · split
   · exact(z5O s (a+1) b).1
   · split
     · exact Nat.le_refl _
     · split
       · exact z4w s (a+1) b
       · exact Nat.le_refl _
theorem z52 (s:ByteArray) (F:PF) (a:Nat) (b:Bool):(z32 s F a b).2.2=(F a b).2.2∧(F a b).2.1≤(z32 s F a b).2.1:=by
 unfold z32;simp only;split
 · exact⟨rfl,Nat.le_succ _⟩
 · split
   · exact⟨rfl,Nat.le_succ _⟩
   · split
     · exact⟨rfl,Nat.le_succ _⟩
     · exact⟨rfl,Nat.le_refl _⟩
theorem z3g (s:ByteArray) {F:PF} (h:Fwd F):Fwd (z32 s F):=by
 intro a b;have h2:=z52 s F a b;rw[h2.1];exact⟨Nat.le_trans (h a b).1 h2.2,(h a b).2⟩
theorem z5P (s:ByteArray) {F:PF} (h:Eats s F):Eats s (z32 s F):=by
 intro a b ho;exact Nat.le_trans (h a b ho) (z52 s F a b).2
theorem zan (s:ByteArray) {F:PF} (h:Fwd F):∀n K a b,a≤(pwayL s F n K a b).2.1∧(b=true→(pwayL s F n K a b).2.2=true)
 |0,K,a,b=>⟨Nat.le_refl _,id⟩
 |n+1,K,a,b=>by
  rw[pwayL];split
  · have h1:=zan s h n (K++[(F a b).1]) (F a b).2.1 (F a b).2.2;exact⟨Nat.le_trans (h a b).1 h1.1,fun e=>h1.2 ((h a b).2 e)⟩
  · exact⟨Nat.le_refl _,id⟩
theorem z9E (s:ByteArray) {F:PF} (h:Fwd F):Fwd (pway s F):=fun a b=>zan s h (s.size+1) [] a b
theorem z8t (s:ByteArray) {F:PF} (h:Fwd F):∀n K a b,a≤(z2F s F n K a b).2.1∧(b=true→(z2F s F n K a b).2.2=true)
 |0,K,a,b=>⟨Nat.le_refl _,id⟩
 |n+1,K,a,b=>by
  rw[z2F];split
  · have h1:=z8t s h n (K++[(F (a+1) b).1]) (F (a+1) b).2.1 (F (a+1) b).2.2;exact⟨Nat.le_trans (Nat.le_trans (Nat.le_succ a) (h (a+1) b).1) h1.1,fun e=>h1.2 ((h (a+1) b).2 e)⟩
  · exact⟨Nat.le_refl _,id⟩
theorem zeF (s:ByteArray) {F:PF} (h:Fwd F):Fwd (pways s F):=fun a b=>by
 have h1:=z8t s h (s.size+1) [(F a b).1] (F a b).2.1 (F a b).2.2;exact⟨Nat.le_trans (h a b).1 h1.1,fun e=>h1.2 ((h a b).2 e)⟩
theorem zcH (s:ByteArray) {W:PF} (h:Fwd W) (d:Nat):Fwd (lvl s W d):=zeF s (z9E s (z3g s (z3p s h d)))
theorem zao (s:ByteArray):∀k,Fwd (PW s k)
 |0=>zcH s (fun a b=>⟨Nat.le_refl _,id⟩) 8
 |k+1=>zcH s (zao s k) _
end Go.Proofs.YtmkmhhjkdaklbaaGreat
namespace Go.Proofs.YtmkmhhjkdaklbaaGreat
open Go Go.Ab
set_option maxRecDepth 100000
open Rex
def FAns (f:FuncId) (args:List AV) (s:ByteArray) (F:PF):Prop :=
 ∀(σ:St) (p a:Nat) (b:Bool),p<σ.length→(b=true∨s.size≤40) →
  Ans Tryz.prog f (.ptr p 0::args) (σ.set p (pob s a b)) (F a b).1.rv (σ.set p (pob s (F a b).2.1 (F a b).2.2))
section
variable {σ:St} {p:Nat} {s:ByteArray}
theorem FAns.ex {f:FuncId} {args:List AV} {F:PF} (h:FAns f args s F) (hp:p<σ.length) (a:Nat) (b:Bool) (hs:b=true∨s.size≤40) (ex:St) :
  Ans Tryz.prog f (.ptr p 0::args) (σ.set p (pob s a b)++ex) (F a b).1.rv (σ.set p (pob s (F a b).2.1 (F a b).2.2)++ex):=by
 have:=h (σ.set p (pob s a b)++ex) p a b (by simp;omega) hs
 rwa [sA hp,sA hp]at this
theorem z4d (hp:p<σ.length) (a:Nat) (b:Bool) (c:Nat) (hs:b=true∨s.size≤40) (ex:St) :
  Ans Tryz.prog 182 [.ptr p 0,B8 c] (σ.set p (pob s a b)++ex) (Bo (sees s a b c)) (σ.set p (pob s (nextA s a b c) b)++ex):=by
 have:=z5l (σ.set p (pob s a b)++ex) p s a b c hs (gA hp _ _)
 rwa [sA hp]at this
theorem zgN (hp:p<σ.length) (a:Nat) (b:Bool) (hs:b=true∨s.size≤40) (ex:St) :
  Ans Tryz.prog 208 [.ptr p 0] (σ.set p (pob s a b)++ex) (B8 (pbyte s a b).1) (σ.set p (pob s (pbyte s a b).2.1 (pbyte s a b).2.2)++ex):=by
 have:=z7l (σ.set p (pob s a b)++ex) p s a b hs (gA hp _ _)
 rwa [sA hp]at this
theorem zgO (hp:p<σ.length) (a:Nat) (b:Bool) (hs:b=true∨s.size≤40) (ex:St) :
  Ans Tryz.prog 212 [.ptr p 0] (σ.set p (pob s a b)++ex) (B8 (psign s a b).1) (σ.set p (pob s (psign s a b).2.1 (psign s a b).2.2)++ex):=by
 have:=zak (σ.set p (pob s a b)++ex) p s a b hs (gA hp _ _)
 rwa [sA hp]at this
theorem z7n (hp:p<σ.length) (a:Nat) (b:Bool) (ex:St):Ans Tryz.prog 191 [.ptr p 0] (σ.set p (pob s a b)++ex) (Bo (over s a b)) (σ.set p (pob s a b)++ex) :=
 z4u _ p s a b (gA hp _ _)
theorem z5Q (hp:p<σ.length) (a:Nat) (b:Bool) (c:Nat) (ex:St):Ans Tryz.prog 192 [.ptr p 0,B8 c] (σ.set p (pob s a b)++ex) (Bo (sees s a b c)) (σ.set p (pob s a b)++ex) :=
 z5k _ p s a b c (gA hp _ _)
theorem zeG (hp:p<σ.length) (a:Nat) (b:Bool) (hs:b=true∨s.size≤40) (ex:St) :
  Ans Tryz.prog 209 [.ptr p 0] (σ.set p (pob s a b)++ex) (.agg ((z2p s a b).1.map U)) (σ.set p (pob s (z2p s a b).2.1 (z2p s a b).2.2)++ex):=by
 have:=zcF (σ.set p (pob s a b)++ex) p s a b (by simp;omega) hs
 rwa [sA hp,sA hp]at this
end
theorem zbr (s:ByteArray) (a:Nat) (b:Bool):(z2p s a b).1.length=4:=by
 have h:=z4S s (s.size+3) [0,0,0,0] (nextA s a b 94) b true;unfold z2p;simp only;split
 · simp only[turnS,List.length_map];exact h
 · exact h
theorem zeH {s:ByteArray} {a:Nat} {b:Bool} (h:b=true∨s.size≤40):(pbyte s a b).2.2=true∨s.size≤40:=by
 rcases h with rfl|h
 · exact .inl (by rw[z4v])
 · exact .inr h
theorem add_get {c:Nat} (hc:c<256):([I 1,U 0,U 0,U 0,U 0,.nils]:List AV)[1+c/64]?=some (U 0):=by
 have h:c/64<4:=by omega
 generalize c/64=k at h
 match k,h with
 |0,_=>rfl
 |1,_=>rfl
 |2,_=>rfl
 |3,_=>rfl
theorem z5R {c:Nat} (hc:c<256):([I 1,U 0,U 0,U 0,U 0,.nils]:List AV).set (1+c/64) (U (orU 0 (bitU (c%64)))) =
  [I 1,U ((z2Q z4 c).getD 0 0),U ((z2Q z4 c).getD 1 0),U ((z2Q z4 c).getD 2 0),U ((z2Q z4 c).getD 3 0),.nils]:=by
 have h:c/64<4:=by omega
 unfold z2Q;generalize bitU (c%64)=w;generalize c/64=k at h
 match k,h with
 |0,_=>rfl
 |1,_=>rfl
 |2,_=>rfl
 |3,_=>rfl
theorem zeI (x:Rex):AV.cells x.rv=[I x.op,U x.a,U x.b,U x.c,U x.d,rvK x.ks]:=by rw[rv_eq];rfl
section
variable (s:ByteArray)
theorem zap (F:PF) (d:Nat) (hd:d≤8) (hF:d<8→FAns 171 [I ((d+1:Nat):Int)] s F) (hfw:Fwd F):FAns 201 [I d] s (patom s F d):=by
 intro σ p a b hp hs;have hlen:∀o,(σ.set p o).length=σ.length:=fun o=>by simp
 refine Ans.of_run' t201 (fun hbel _=>?_)
 have hb2:=z51 hbel;simp -implicitDefEqProofs only[c201,r201,go_sem,List.append_assoc,List.length_append,List.length_set,gA hp,sA hp,gL0,sL0,gL1,sL1];refine CO.intro (zgN hp a b hs _) ?_;unfold patom;have hc:=z3U s a b;have hs':=zeH (a:=a) hs;have hst:=zcD _ hc;generalize pbyte s a b=q at hc hs' hst⊢;obtain⟨c,a',b'⟩:=q;simp only at hc hs' hst⊢;have k40:((c:Int)==40)=(c==40):=z0m c 40;have k8:((d:Int)==8)=(d==8):=z0m d 8;have k91:((c:Int)==91)=(c==91):=z0m c 91;have k46:((c:Int)==46)=(c==46):=z0m c 46;have k92:((c:Int)==92)=(c==92):=z0m c 92
 cases h40:c==40 with
 |true =>
  cases b' with
  |true =>
   simp -implicitDefEqProofs only[go_sem,k40,k91,k46,k92,h40,gA hp,sA hp,gL0,sL0,gL1,sL1,if_true,Bool.true_or,Bool.or_true];refine CO.intro (z4d hp _ _ 41 (.inl rfl) _) ?_;simp -implicitDefEqProofs only[go_sem,gA hp,sA hp,gL0,sL0,gL1,sL1,z2q,nextA];refine Fini.trim2 (ex:=[_,_]) ?_ rfl ?_ (z0h _ _) (hb2 _ _)
   · (simp -implicitDefEqProofs only[go_sem,resA,z02,rvA,oneOf,gL0];first|done|rfl|rw[rv_eq,hK]|(simp only[rv,rvK,rvL];rw[rv_eq,hK]))
   · simp
  |false =>
   cases hd8:d==8 with
   |true =>
    simp -implicitDefEqProofs only[go_sem,k40,k91,k46,k92,h40,gA hp,sA hp,gL0,sL0,gL1,sL1,if_true,k8,hd8,Bool.false_or,Bool.or_false,Bool.or_true,Bool.true_or];refine CO.intro (z4d hp _ _ 41 (.inl rfl) _) ?_;simp -implicitDefEqProofs only[go_sem,gA hp,sA hp,gL0,sL0,gL1,sL1,z2q,nextA];refine Fini.trim2 (ex:=[_,_]) ?_ rfl ?_ (z0h _ _) (hb2 _ _)
    · (simp -implicitDefEqProofs only[go_sem,resA,z02,rvA,oneOf,gL0];first|done|rfl|rw[rv_eq,hK]|(simp only[rv,rvK,rvL];rw[rv_eq,hK]))
    · simp
   |false =>
    have hd7:d<8:=by
     have:d≠8:=by simpa using hd8
     omega
    have e1:IntKind.i64.wrap ((d:Int)+1)=((d+1:Nat):Int):=by rw[wrapN (by omega) (by omega)];rfl
    simp -implicitDefEqProofs only[go_sem,k40,k91,k46,k92,h40,gA hp,sA hp,gL0,sL0,gL1,sL1,if_true,k8,hd8,Bool.false_or,Bool.or_false,Bool.or_true,Bool.true_or,e1];refine CO.intro ((hF hd7).ex hp _ _ hs' _) ?_;have hs2:(F a' false).2.2=true∨s.size≤40:=hfw.hs hs';generalize F a' false=w at hs2⊢;obtain⟨x,a1,b1⟩:=w;simp only at hs2⊢;have hbx:∀n,Bel n x.rv:=fun n=>z0h n x
    rw[rv_eq x]at hbx⊢;rcases rvK_cases x.ks with hK|⟨l,hK⟩
    all_goals rw[hK]at hbx⊢
    all_goals simp -implicitDefEqProofs only[go_sem,gA hp,sA hp,gL0,sL0,gL1,sL1]
    all_goals refine CO.intro (z4d hp _ _ 41 hs2 _) ?_
    all_goals cases hse:sees s a1 b1 41
    all_goals (
     first
     |(have hb1:=(z9D hse).2
       subst hb1)
     |skip
     simp -implicitDefEqProofs only[go_sem,gA hp,sA hp,gL0,sL0,gL1,sL1,hse,nextA,Bool.true_or,Bool.false_or];refine Fini.trim2 (ex:=[_,_]) ?_ rfl ?_ (hbx _) (hb2 _ _)
     · (simp -implicitDefEqProofs only[go_sem,resA,z02,rvA,oneOf,gL0];first|done|rfl|rw[rv_eq,hK]|(simp only[rv,rvK,rvL];rw[rv_eq,hK]))
     · simp)
 |false =>
  cases h91:c==91 with
  |true =>
   simp -implicitDefEqProofs only[go_sem,k40,k91,k46,k92,h40,h91,gA hp,sA hp,if_true,Bool.false_eq_true,if_false];refine CO.intro (zeG hp a' b' hs' _) ?_;have h4:=zbr s a' b';generalize z2p s a' b'=k at h4⊢;obtain⟨S,a1,b1⟩:=k;simp only at h4⊢;obtain⟨x0,x1,x2,x3,rfl⟩:=four h4;simp -implicitDefEqProofs only[go_sem,gA hp,sA hp,gL0,sL0,gL1,sL1,List.map_cons,List.map_nil];refine Fini.trim2 (ex:=[_,_]) ?_ rfl ?_ (z0h _ _) (hb2 _ _)
   · (simp -implicitDefEqProofs only[go_sem,resA,z02,rvA,oneOf,gL0];first|done|rfl|rw[rv_eq,hK]|(simp only[rv,rvK,rvL];rw[rv_eq,hK]))
   · simp
  |false =>
   cases h46:c==46 with
   |true =>
    simp -implicitDefEqProofs only[go_sem,k40,k91,k46,k92,h40,h91,h46,gA hp,sA hp,gL0,sL0,gL1,sL1,if_true,Bool.false_eq_true,if_false];refine CO.intro (z4R _ 0 0 0 0) ?_;simp -implicitDefEqProofs only[go_sem,gA hp,sA hp,gL0,sL0,gL1,sL1,List.map_cons,List.map_nil];refine Fini.trim2 (ex:=[_,_]) ?_ rfl ?_ (z0h _ _) (hb2 _ _)
    · (simp -implicitDefEqProofs only[go_sem,resA,z02,rvA,oneOf,gL0];first|done|rfl|rw[rv_eq,hK]|(simp only[rv,rvK,rvL];rw[rv_eq,hK]))
    · simp
   |false =>
    cases h92:c==92 with
    |true =>
     simp -implicitDefEqProofs only[go_sem,k40,k91,k46,k92,h40,h91,h46,h92,gA hp,sA hp,gL0,sL0,gL1,sL1,if_true,Bool.false_eq_true,if_false];refine CO.intro (zgO hp a' b' hs' _) ?_;have hk:(psign s a' b').1<256:=z3U s a' b';generalize psign s a' b'=k at hk⊢;obtain⟨x,a1,b1⟩:=k;simp only at hk⊢;simp -implicitDefEqProofs only[go_sem];refine CO.intro (z4c _ (σ.length+1) 1 _ x 0 (gL1 _ _ _ _ _ _) (add_get hk) hk) ?_;rw[sL1,z5R hk];simp -implicitDefEqProofs only[go_sem,gA hp,sA hp,gL0,sL0,gL1,sL1,List.map_cons,List.map_nil];refine Fini.trim2 (ex:=[_,_]) ?_ rfl ?_ (z0h _ _) (hb2 _ _)
     · (simp -implicitDefEqProofs only[go_sem,resA,z02,rvA,oneOf,gL0];first|done|rfl|rw[rv_eq,hK]|(simp only[rv,rvK,rvL];rw[rv_eq,hK]))
     · simp
    |false =>
     simp -implicitDefEqProofs only[go_sem,k40,k91,k46,k92,h40,h91,h46,h92,gA hp,sA hp,gL0,sL0,gL1,sL1,if_true,Bool.false_eq_true,if_false]
     cases b' with
     |true =>
      simp -implicitDefEqProofs only[go_sem,gA hp,sA hp,gL0,sL0,gL1,sL1];refine CO.intro (z4c _ (σ.length+1) 1 _ c 0 (gL1 _ _ _ _ _ _) (add_get hc) hc) ?_;rw[sL1,z5R hc];simp -implicitDefEqProofs only[go_sem,gA hp,sA hp,gL0,sL0,gL1,sL1];refine Fini.trim2 (ex:=[_,_]) ?_ rfl ?_ (z0h _ _) (hb2 _ _)
      · (simp -implicitDefEqProofs only[go_sem,resA,z02,rvA,oneOf,gL0];first|done|rfl|rw[rv_eq,hK]|(simp only[rv,rvK,rvL];rw[rv_eq,hK]))
      · simp
     |false =>
      simp -implicitDefEqProofs only[go_sem,gA hp,sA hp,gL0,sL0,gL1,sL1];refine CO.intro (z4b _ _ c) ?_;simp -implicitDefEqProofs only[go_sem,gA hp,sA hp,gL0,sL0,gL1,sL1];refine CO.intro (z4c _ (σ.length+1) 1 _ c 0 (gL1 _ _ _ _ _ _) (add_get hc) hc) ?_;rw[sL1,z5R hc];simp -implicitDefEqProofs only[go_sem,gA hp,sA hp,gL0,sL0,gL1,sL1];rw[hst];refine Fini.trim2 (ex:=[_,_]) ?_ rfl ?_ (z0h _ _) (hb2 _ _)
      · (simp -implicitDefEqProofs only[go_sem,resA,z02,rvA,oneOf,gL0];first|done|rfl|rw[rv_eq,hK]|(simp only[rv,rvK,rvL];rw[rv_eq,hK]))
      · simp
end
section
variable (s:ByteArray)
theorem z6N (F:PF) (d:Nat) (hF:FAns 201 [I d] s F) (hfw:Fwd F):FAns 193 [I d] s (z32 s F):=by
 intro σ p a b hp hs;refine Ans.of_run' t193 (fun hbel _=>?_)
 have hb2:=z51 hbel;simp -implicitDefEqProofs only[c193,r193,go_sem,List.append_assoc,List.length_append,List.length_set,gA hp,sA hp,gL0,sL0,gL1,sL1];refine CO.intro (hF.ex hp _ _ hs _) ?_;have hs2:(F a b).2.2=true∨s.size≤40:=hfw.hs hs;unfold z32;generalize F a b=w at hs2⊢;obtain⟨x,a1,b1⟩:=w;simp only at hs2⊢
 have hn:∀(ex:St) (c:Nat),sees s a1 b1 c=false→Ans Tryz.prog 182 [.ptr p 0,B8 c] (σ.set p (pob s a1 b1)++ex) (Bo false) (σ.set p (pob s a1 b1)++ex):=fun ex c h=>by
  have:=z4d hp a1 b1 c hs2 ex
  rwa [nextA,h]at this
 have hy:∀(ex:St) (c:Nat),sees s a1 b1 c=true→Ans Tryz.prog 182 [.ptr p 0,B8 c] (σ.set p (pob s a1 b1)++ex) (Bo true) (σ.set p (pob s (a1+1) b1)++ex):=fun ex c h=>by
  have:=z4d hp a1 b1 c hs2 ex
  rwa [nextA,h]at this
 have hbx:∀n,Bel n x.rv:=fun n=>z0h n x
 rw[rv_eq x]at hbx⊢;rcases rvK_cases x.ks with hK|⟨l,hK⟩
 all_goals (
  rw[hK]at hbx⊢;simp -implicitDefEqProofs only[go_sem,gA hp,sA hp,gL0,sL0,gL1,sL1];cases h42:sees s a1 b1 42
  · refine CO.intro (hn _ 42 h42) ?_;simp -implicitDefEqProofs only[go_sem,gA hp,sA hp,gL0,sL0,gL1,sL1];cases h43:sees s a1 b1 43
    · refine CO.intro (hn _ 43 h43) ?_;simp -implicitDefEqProofs only[go_sem,gA hp,sA hp,gL0,sL0,gL1,sL1];cases h63:sees s a1 b1 63
      · refine CO.intro (hn _ 63 h63) ?_;simp -implicitDefEqProofs only[go_sem,gA hp,sA hp,gL0,sL0,gL1,sL1];refine Fini.trim2 (ex:=[_]) ?_ rfl ?_ (z0h _ _) (hb2 _ _)
        · (simp -implicitDefEqProofs only[go_sem,resA,z02,rvA,oneOf,gL0];first|done|rfl|rw[rv_eq,hK]|(simp only[rv,rvK,rvL];rw[rv_eq,hK]))
        · simp
      · refine CO.intro (hy _ 63 h63) ?_;simp -implicitDefEqProofs only[go_sem,gA hp,sA hp,gL0,sL0,gL1,sL1];refine Fini.trim2 (ex:=[_]) ?_ rfl ?_ (z0h _ _) (hb2 _ _)
        · (simp -implicitDefEqProofs only[go_sem,resA,z02,rvA,oneOf,gL0];first|done|rfl|rw[rv_eq,hK]|(simp only[rv,rvK,rvL];rw[rv_eq,hK]))
        · simp
    · refine CO.intro (hy _ 43 h43) ?_;simp -implicitDefEqProofs only[go_sem,gA hp,sA hp,gL0,sL0,gL1,sL1];refine Fini.trim2 (ex:=[_]) ?_ rfl ?_ (z0h _ _) (hb2 _ _)
      · (simp -implicitDefEqProofs only[go_sem,resA,z02,rvA,oneOf,gL0];first|done|rfl|rw[rv_eq,hK]|(simp only[rv,rvK,rvL];rw[rv_eq,hK]))
      · simp
  · refine CO.intro (hy _ 42 h42) ?_;simp -implicitDefEqProofs only[go_sem,gA hp,sA hp,gL0,sL0,gL1,sL1];refine Fini.trim2 (ex:=[_]) ?_ rfl ?_ (z0h _ _) (hb2 _ _)
    · (simp -implicitDefEqProofs only[go_sem,resA,z02,rvA,oneOf,gL0];first|done|rfl|rw[rv_eq,hK]|(simp only[rv,rvK,rvL];rw[rv_eq,hK]))
    · simp)
end
abbrev box0:Ob:=.box [I 0,U 0,U 0,U 0,U 0,.nils]
def exK (K:List Rex):St:=box0::(if K.isEmpty then[] else[.row 6 (K.map rv)])
def vK (l:Nat) (K:List Rex):AV:=if K.isEmpty then .nils else .osl (l+1) K.length
theorem z0C (x:Rex) (K:List Rex):exK (x::K)=[box0,.row 6 ((x::K).map rv)]:=rfl
theorem z17 (l:Nat) (x:Rex) (K:List Rex):vK l (x::K)=.osl (l+1) (K.length+1):=rfl
theorem z3K:exK []=[box0]:=rfl
theorem z53 (l:Nat):vK l []=.nils:=rfl
theorem z5n (K:List Rex) (x:Rex):exK (K++[x])=[box0,.row 6 (K.map rv++[x.rv])]:=by
 cases K with
 |nil=>rfl
 |cons y K=>simp[exK]
theorem z7o (l:Nat) (K:List Rex) (x:Rex):vK l (K++[x])=.osl (l+1) (K.length+1):=by
 cases K with
 |nil=>rfl
 |cons y K=>simp[vK]
theorem z1x (op:Int) (y z:Rex) (K:List Rex):(one op (y::z::K)).rv=.agg [I op,U 0,U 0,U 0,U 0,.sl 6 ((y::z::K).map rv)]:=by
 show Rex.rv (.mk op 0 0 0 0 (y::z::K))=_;rw[rv,z7m]
theorem z3q {n:Nat} {x:AV} (h:Bel n x) (b:Bool):Bel n (.tup [x,Bo b]):=by
 refine .tup _ fun i hi=>?_
 have:∀y∈[x,Bo b],Bel n y:=by
  intro y hy;simp only[List.mem_cons,List.not_mem_nil,or_false]at hy;rcases hy with rfl|rfl
  · exact h
  · exact .pl _
 exact this _ (List.getElem_mem hi)
section
variable (s:ByteArray)
theorem zcI (F:PF) (d:Nat) (hF:FAns 193 [I d] s F) (hfw:Fwd F) (he:Eats s F):FAns 181 [I d] s (pway s F):=by
 intro σ p a b hp hs;refine Ans.of_run' t181 (fun hbel _=>?_)
 have hb2:=z51 hbel;simp -implicitDefEqProofs only[c181,r181,go_sem,List.append_assoc,List.length_append,List.length_set];unfold pway;simp only;have hm:s.size-a<s.size+1:=by omega
 generalize hres:pwayL s F (s.size+1) [] a b=res
 refine L.intro (α:={ x:Nat×List Rex×Nat×Bool // pwayL s F x.1 x.2.1 x.2.2.1 x.2.2.2=res∧s.size-x.2.2.1<x.1∧(x.2.2.2=true∨s.size≤40)∧x.2.1.length≤x.2.2.1 })
  (fun x=>x.1.1)
  (fun x=>mkE 33 [(0,.ptr p 0),(1,I d),(4,.ptr σ.length 0),(5,vK σ.length x.1.2.1)])
  (fun x=>σ.set p (pob s x.1.2.2.1 x.1.2.2.2)++exK x.1.2.1)
  (fun x J hJ=>?_) ⟨(s.size+1,[],a,b),hres,hm,hs,Nat.zero_le _⟩ ?_ ?_
 · obtain⟨⟨n,K,a1,b1⟩,h1,h2,h3,h4⟩:=x;simp only at h1 h2 h3 h4 hJ⊢
   cases n with
   |zero=>omega
   |succ n =>
   rw[pwayL]at h1
   cases hgo:wGo s a1 b1 with
   |true =>
    rw[hgo,if_pos rfl]at h1;obtain⟨ha,hb⟩:=zgb hgo;subst hb;have hov:over s a1 false=false:=by simp[wGo]at hgo;exact hgo.1
    have hs1:sees s a1 false 124=false:=by simp[wGo]at hgo;exact hgo.2.1
    have hs2:sees s a1 false 41=false:=by simp[wGo]at hgo;exact hgo.2.2
    have hsz:s.size≤40:=by
     rcases h3 with h|h
     · exact absurd h Bool.false_ne_true
     · exact h
    have hea:=he a1 false hov;have hJ':=hJ ⟨(n,K++[(F a1 false).1],(F a1 false).2.1,(F a1 false).2.2),h1,by simp only;omega,.inr hsz,by simp;omega⟩ (Nat.lt_succ_self n)
    simp only[z5n,z7o]at hJ';clear hJ h1 hgo;simp -implicitDefEqProofs only[mkE,go_sem];refine CO.intro (z7n hp a1 false _) ?_;simp -implicitDefEqProofs only[go_sem,hov];refine CO.intro (z5Q hp a1 false 124 _) ?_;simp -implicitDefEqProofs only[go_sem,hs1];refine CO.intro (z5Q hp a1 false 41 _) ?_;simp -implicitDefEqProofs only[go_sem,hs2];refine CO.intro (hF.ex hp a1 false (.inr hsz) _) ?_;generalize F a1 false=w at hJ' hea⊢;obtain⟨x,a2,b2⟩:=w;simp only at hJ' hea⊢;rw[rv_eq x]at hJ'⊢;rcases K with _|⟨y,K⟩
    all_goals rcases rvK_cases x.ks with hK|⟨l,hK⟩
    all_goals rw[hK]at hJ'⊢
    all_goals first
    |(simp -implicitDefEqProofs only[go_sem,z3K,z53,gA hp,sA hp,gL0,sL0,gL1,sL1]at hJ'⊢
      simpa[mkE] using hJ')
    |(have g1:(K.length+1+1≤2^32)=True:=by simp at h4;simp;omega
      simp -implicitDefEqProofs only[go_sem,z0C,z17,gA hp,sA hp,gL0,sL0,gL1,sL1,List.length_map,g1]at hJ'⊢
      simpa[mkE] using hJ')
   |false =>
    rw[hgo,if_neg Bool.false_ne_true]at h1;subst h1;clear hJ h2
    have hex:over s a1 b1=true∨(over s a1 b1=false∧sees s a1 b1 124=true)∨(over s a1 b1=false∧sees s a1 b1 124=false∧sees s a1 b1 41=true):=by
     unfold wGo at hgo;cases h1:over s a1 b1<;>cases h2:sees s a1 b1 124<;>cases h3:sees s a1 b1 41<;>simp[h1,h2,h3]at hgo⊢
    rcases hex with ho|⟨ho,h5⟩|⟨ho,h5,h6⟩
    · simp -implicitDefEqProofs only[mkE,go_sem];refine CO.intro (z7n hp a1 b1 _) ?_;simp -implicitDefEqProofs only[go_sem,ho];rcases K with _|⟨y,_|⟨z,K⟩⟩
      · simp -implicitDefEqProofs only[go_sem,z3K,z53,gA hp,sA hp,gL0,sL0,gL1,sL1];refine Fini.trim2 (ex:=[_]) ?_ rfl ?_ (z0h _ _) (hb2 _ _)
        · ((try simp -implicitDefEqProofs only[go_sem,resA,z02,rvA,oneOf,gL0]);first|done|rfl|(rw[z1x];rfl)|rw[rv_eq,hK]|(simp only[rv,rvK,rvL];rw[rv_eq,hK]))
        · simp
      · have g3:(((1:Nat):Int)==1)=true:=rfl;have g4:((0:Int)<((1:Nat):Int))=True:=by simp
        have hbx:∀n,Bel n y.rv:=fun n=>z0h n y
        rw[z0C,z17,List.map_cons,List.map_nil,show(one 2 [y])=y from rfl]
        rw[rv_eq y]at hbx⊢;rcases rvK_cases y.ks with hK|⟨l,hK⟩
        all_goals rw[hK]at hbx⊢
        all_goals simp -implicitDefEqProofs only[go_sem,gA hp,sA hp,gL0,sL0,gL1,sL1,List.length_map,g3,g4,Int.toNat_zero]
        all_goals (
         refine Fini.trim2 (ex:=[_,_]) ?_ rfl ?_ (hbx _) (hb2 _ _)
         · ((try simp -implicitDefEqProofs only[go_sem,resA,z02,rvA,oneOf,gL0]);first|done|rfl|(rw[z1x];rfl)|rw[rv_eq,hK]|(simp only[rv,rvK,rvL];rw[rv_eq,hK]))
         · simp)
      · rw[z0C,z17];have g2:(((K.length+1+1:Nat):Int)==1)=false:=by simp;omega
        simp -implicitDefEqProofs only[go_sem,gA hp,sA hp,gL0,sL0,gL1,sL1,List.length_map,g2];refine Fini.trim2 (ex:=[_,_]) ?_ rfl ?_ (z0h _ _) (hb2 _ _)
        · ((try simp -implicitDefEqProofs only[go_sem,resA,z02,rvA,oneOf,gL0]);first|done|rfl|(rw[z1x];rfl)|rw[rv_eq,hK]|(simp only[rv,rvK,rvL];rw[rv_eq,hK]))
        · simp
    · simp -implicitDefEqProofs only[mkE,go_sem];refine CO.intro (z7n hp a1 b1 _) ?_;simp -implicitDefEqProofs only[go_sem,ho];refine CO.intro (z5Q hp a1 b1 124 _) ?_;simp -implicitDefEqProofs only[go_sem,h5];rcases K with _|⟨y,_|⟨z,K⟩⟩
      · simp -implicitDefEqProofs only[go_sem,z3K,z53,gA hp,sA hp,gL0,sL0,gL1,sL1];refine Fini.trim2 (ex:=[_]) ?_ rfl ?_ (z0h _ _) (hb2 _ _)
        · ((try simp -implicitDefEqProofs only[go_sem,resA,z02,rvA,oneOf,gL0]);first|done|rfl|(rw[z1x];rfl)|rw[rv_eq,hK]|(simp only[rv,rvK,rvL];rw[rv_eq,hK]))
        · simp
      · have g3:(((1:Nat):Int)==1)=true:=rfl;have g4:((0:Int)<((1:Nat):Int))=True:=by simp
        have hbx:∀n,Bel n y.rv:=fun n=>z0h n y
        rw[z0C,z17,List.map_cons,List.map_nil,show(one 2 [y])=y from rfl]
        rw[rv_eq y]at hbx⊢;rcases rvK_cases y.ks with hK|⟨l,hK⟩
        all_goals rw[hK]at hbx⊢
        all_goals simp -implicitDefEqProofs only[go_sem,gA hp,sA hp,gL0,sL0,gL1,sL1,List.length_map,g3,g4,Int.toNat_zero]
        all_goals (
         refine Fini.trim2 (ex:=[_,_]) ?_ rfl ?_ (hbx _) (hb2 _ _)
         · ((try simp -implicitDefEqProofs only[go_sem,resA,z02,rvA,oneOf,gL0]);first|done|rfl|(rw[z1x];rfl)|rw[rv_eq,hK]|(simp only[rv,rvK,rvL];rw[rv_eq,hK]))
         · simp)
      · rw[z0C,z17];have g2:(((K.length+1+1:Nat):Int)==1)=false:=by simp;omega
        simp -implicitDefEqProofs only[go_sem,gA hp,sA hp,gL0,sL0,gL1,sL1,List.length_map,g2];refine Fini.trim2 (ex:=[_,_]) ?_ rfl ?_ (z0h _ _) (hb2 _ _)
        · ((try simp -implicitDefEqProofs only[go_sem,resA,z02,rvA,oneOf,gL0]);first|done|rfl|(rw[z1x];rfl)|rw[rv_eq,hK]|(simp only[rv,rvK,rvL];rw[rv_eq,hK]))
        · simp
    · simp -implicitDefEqProofs only[mkE,go_sem];refine CO.intro (z7n hp a1 b1 _) ?_;simp -implicitDefEqProofs only[go_sem,ho];refine CO.intro (z5Q hp a1 b1 124 _) ?_;simp -implicitDefEqProofs only[go_sem,h5];refine CO.intro (z5Q hp a1 b1 41 _) ?_;simp -implicitDefEqProofs only[go_sem,h6];rcases K with _|⟨y,_|⟨z,K⟩⟩
      · simp -implicitDefEqProofs only[go_sem,z3K,z53,gA hp,sA hp,gL0,sL0,gL1,sL1];refine Fini.trim2 (ex:=[_]) ?_ rfl ?_ (z0h _ _) (hb2 _ _)
        · ((try simp -implicitDefEqProofs only[go_sem,resA,z02,rvA,oneOf,gL0]);first|done|rfl|(rw[z1x];rfl)|rw[rv_eq,hK]|(simp only[rv,rvK,rvL];rw[rv_eq,hK]))
        · simp
      · have g3:(((1:Nat):Int)==1)=true:=rfl;have g4:((0:Int)<((1:Nat):Int))=True:=by simp
        have hbx:∀n,Bel n y.rv:=fun n=>z0h n y
        rw[z0C,z17,List.map_cons,List.map_nil,show(one 2 [y])=y from rfl]
        rw[rv_eq y]at hbx⊢;rcases rvK_cases y.ks with hK|⟨l,hK⟩
        all_goals rw[hK]at hbx⊢
        all_goals simp -implicitDefEqProofs only[go_sem,gA hp,sA hp,gL0,sL0,gL1,sL1,List.length_map,g3,g4,Int.toNat_zero]
        all_goals (
         refine Fini.trim2 (ex:=[_,_]) ?_ rfl ?_ (hbx _) (hb2 _ _)
         · ((try simp -implicitDefEqProofs only[go_sem,resA,z02,rvA,oneOf,gL0]);first|done|rfl|(rw[z1x];rfl)|rw[rv_eq,hK]|(simp only[rv,rvK,rvL];rw[rv_eq,hK]))
         · simp)
      · rw[z0C,z17];have g2:(((K.length+1+1:Nat):Int)==1)=false:=by simp;omega
        simp -implicitDefEqProofs only[go_sem,gA hp,sA hp,gL0,sL0,gL1,sL1,List.length_map,g2];refine Fini.trim2 (ex:=[_,_]) ?_ rfl ?_ (z0h _ _) (hb2 _ _)
        · ((try simp -implicitDefEqProofs only[go_sem,resA,z02,rvA,oneOf,gL0]);first|done|rfl|(rw[z1x];rfl)|rw[rv_eq,hK]|(simp only[rv,rvK,rvL];rw[rv_eq,hK]))
        · simp
 · simp[mkE,vK]
 · rfl
theorem z8u (F:PF) (d:Nat) (hF:FAns 181 [I d] s F) (hfw:Fwd F):FAns 171 [I d] s (pways s F):=by
 intro σ p a b hp hs;refine Ans.of_run' t171 (fun hbel _=>?_)
 have hb2:=z51 hbel;simp -implicitDefEqProofs only[c171,r171,go_sem,List.append_assoc,List.length_append,List.length_set];unfold pways;simp only;refine CO.intro (hF.ex hp a b hs _) ?_;have hs0:(F a b).2.2=true∨s.size≤40:=hfw.hs hs;generalize F a b=w0 at hs0⊢;obtain⟨x0,a0,b0⟩:=w0;simp only at hs0⊢;have hm:s.size-a0<s.size+1:=by omega
 generalize hres:z2F s F (s.size+1) [x0] a0 b0=res;rw[rv_eq x0];rcases rvK_cases x0.ks with hK0|⟨l0,hK0⟩
 all_goals rw[hK0]
 all_goals simp -implicitDefEqProofs only[go_sem,gA hp,sA hp,gL0,sL0,gL1,sL1,List.append_assoc,List.length_append,List.length_set]
 all_goals (
  refine L.intro (α:={ x:Nat×List Rex×Nat×Bool // z2F s F x.1 x.2.1 x.2.2.1 x.2.2.2=res∧s.size-x.2.2.1<x.1∧(x.2.2.2=true∨s.size≤40)∧x.2.1.length≤x.2.2.1+1∧x.2.1≠[] })
   (fun x=>x.1.1)
   (fun x=>mkE 26 [(0,.ptr p 0),(1,I d),(4,.ptr σ.length 0),(5,vK σ.length x.1.2.1)])
   (fun x=>σ.set p (pob s x.1.2.2.1 x.1.2.2.2)++exK x.1.2.1)
   (fun x J hJ=>?_) ⟨(s.size+1,[x0],a0,b0),hres,hm,hs0,by simp,by simp⟩ ?_ ?_)
 all_goals try (simp[mkE,vK];done)
 all_goals try (simp only[z0C,List.map_cons,List.map_nil,rv_eq x0,hK0];done)
 all_goals (
  obtain⟨⟨n,K,a1,b1⟩,h1,h2,h3,h4,h5⟩:=x;simp only at h1 h2 h3 h4 h5 hJ⊢;rcases n with _|n
  · omega
  rw[z2F]at h1;cases hgo:sees s a1 b1 124
  · rw[hgo,if_neg Bool.false_ne_true]at h1;subst h1;clear hJ h2;have hn:=z4d (s:=s) hp a1 b1 124 h3;simp only[nextA,hgo,Bool.false_eq_true,if_false]at hn;simp -implicitDefEqProofs only[mkE,go_sem];refine CO.intro (hn _) ?_;simp -implicitDefEqProofs only[go_sem];rcases K with _|⟨y,_|⟨z,K⟩⟩
    · exact absurd rfl h5
    · have g3:(((1:Nat):Int)==1)=true:=rfl;have g4:((0:Int)<((1:Nat):Int))=True:=by simp
      have hbx:∀n,Bel n y.rv:=fun n=>z0h n y
      rw[z0C,z17,List.map_cons,List.map_nil,show(one 3 [y])=y from rfl]
      rw[rv_eq y]at hbx⊢;rcases rvK_cases y.ks with hK|⟨l,hK⟩
      all_goals rw[hK]at hbx⊢
      all_goals simp -implicitDefEqProofs only[go_sem,gA hp,sA hp,gL0,sL0,gL1,sL1,List.length_map,g3,g4,Int.toNat_zero]
      all_goals (
       refine Fini.trim2 (ex:=[_,_]) ?_ rfl ?_ (hbx _) (hb2 _ _)
       · ((try simp -implicitDefEqProofs only[go_sem,resA,z02,rvA,oneOf,gL0]);first|done|rfl|(rw[z1x];rfl)|rw[rv_eq,hK]|(simp only[rv,rvK,rvL];rw[rv_eq,hK]))
       · simp)
    · rw[z0C,z17];have g2:(((K.length+1+1:Nat):Int)==1)=false:=by simp;omega
      simp -implicitDefEqProofs only[go_sem,gA hp,sA hp,gL0,sL0,gL1,sL1,List.length_map,g2];refine Fini.trim2 (ex:=[_,_]) ?_ rfl ?_ (z0h _ _) (hb2 _ _)
      · ((try simp -implicitDefEqProofs only[go_sem,resA,z02,rvA,oneOf,gL0]);first|done|rfl|(rw[z1x];rfl)|rw[rv_eq,hK]|(simp only[rv,rvK,rvL];rw[rv_eq,hK]))
      · simp
  · rw[hgo,if_pos rfl]at h1;obtain⟨ha,hb⟩:=z9D hgo;subst hb
    have hsz:s.size≤40:=by
     rcases h3 with h|h
     · exact absurd h Bool.false_ne_true
     · exact h
    have hea:=(hfw (a1+1) false).1;have hJ':=hJ ⟨(n,K++[(F (a1+1) false).1],(F (a1+1) false).2.1,(F (a1+1) false).2.2),h1,by simp only;omega,.inr hsz,by simp;omega,by simp⟩ (Nat.lt_succ_self n)
    simp only[z5n,z7o]at hJ';clear hJ h1;have hn:=z4d (s:=s) hp a1 false 124 h3;simp only[nextA,hgo,if_true]at hn;simp -implicitDefEqProofs only[mkE,go_sem];refine CO.intro (hn _) ?_;simp -implicitDefEqProofs only[go_sem];refine CO.intro (hF.ex hp (a1+1) false (.inr hsz) _) ?_;generalize F (a1+1) false=w at hJ' hea⊢;obtain⟨x,a2,b2⟩:=w;simp only at hJ' hea⊢;rw[rv_eq x]at hJ'⊢;rcases K with _|⟨y,K⟩
    · exact absurd rfl h5
    have g1:(K.length+1+1≤2^32)=True:=by simp at h4;simp;omega
    rcases rvK_cases x.ks with hK|⟨l,hK⟩
    all_goals rw[hK]at hJ'⊢
    all_goals (
     simp -implicitDefEqProofs only[go_sem,z0C,z17,gA hp,sA hp,gL0,sL0,gL1,sL1,List.length_map,g1]at hJ'⊢
     simpa[mkE] using hJ'))
theorem zgc:∀k,k≤8→FAns 171 [I ((8-k:Nat):Int)] s (PW s k)
 |0,_=>z8u s _ 8 (zcI s _ 8 (z6N s _ 8 (zap s _ 8 (Nat.le_refl _) (fun h=>absurd h (Nat.lt_irrefl _)) (fun a b=>⟨Nat.le_refl _,id⟩)) (z3p s (fun a b=>⟨Nat.le_refl _,id⟩) 8))
  (z3g s (z3p s (fun a b=>⟨Nat.le_refl _,id⟩) 8)) (z5P s (z8s s (fun a b=>⟨Nat.le_refl _,id⟩) 8)))
  (z9E s (z3g s (z3p s (fun a b=>⟨Nat.le_refl _,id⟩) 8)))
 |k+1,h=>by
  have ih:=zgc k (by omega)
  have hf:=zao s k;have e:8-(k+1)=7-k:=by omega
  have e2:8-k=7-k+1:=by omega
  rw[e2]at ih;rw[e]
  exact z8u s _ (7-k) (zcI s _ (7-k) (z6N s _ (7-k) (zap s _ (7-k) (by omega) (fun _=>ih) hf) (z3p s hf _))
   (z3g s (z3p s hf _)) (z5P s (z8s s hf _)))
   (z9E s (z3g s (z3p s hf _)))
def z2G:Rex×Bool :=
 let w:=PW s 8 0 (decide (40<s.size))
 if w.2.2||decide (w.2.1<s.size) then(.mk 0 0 0 0 0 [],false) else(w.1,true)
theorem zcJ (σ:St):Ans Tryz.prog 160 [Sx s] σ (.tup [(z2G s).1.rv,Bo (z2G s).2]) σ:=by
 have hw:∀b:Bool,(b=true∨s.size≤40)→Ans Tryz.prog 171 [.ptr (σ.length+1) 0,I 0] (σ++[box0,pob s 0 b]) (PW s 8 0 b).1.rv (σ++[box0,pob s (PW s 8 0 b).2.1 (PW s 8 0 b).2.2]):=by
  intro b hs;have:=zgc s 8 (Nat.le_refl _) (σ++[box0,pob s 0 b]) (σ.length+1) 0 b (by simp) hs
  have e:∀o,(σ++[box0,pob s 0 b]).set (σ.length+1) o=σ++[box0,o]:=fun o=>by rw[List.set_append_right _ _ (by omega)];simp
  rwa [e,e]at this
 have hs:(decide (40<s.size))=true∨s.size≤40:=by
  rcases Nat.lt_or_ge 40 s.size with h|h
  · exact .inl (by simpa using h)
  · exact .inr h
 have e40:decide ((40:Int)<(s.size:Int))=decide (40<s.size):=by rw[Bool.eq_iff_iff];simp;omega
 have k0:∀(x y:Ob) (ex:St),(σ++x::y::ex)[σ.length]?=some x:=fun x y ex=>by rw[List.getElem?_append_right (by simp)];simp
 have k1:∀(x y:Ob) (ex:St),(σ++x::y::ex)[σ.length+1]?=some y:=fun x y ex=>by rw[List.getElem?_append_right (by simp)];simp
 have k2:∀(x y z:Ob),(σ++[x,y,z])[σ.length+2]?=some z:=fun x y z=>by rw[List.getElem?_append_right (by simp)];simp
 have s0:∀(x z:Ob) (ex:St),(σ++x::ex).set σ.length z=σ++z::ex:=fun x z ex=>by rw[List.set_append_right _ _ (by simp)];simp
 refine Ans.of_run' t160 (fun hbel _=>?_)
 simp -implicitDefEqProofs only[c160,r160,go_sem,List.append_assoc,List.length_append,e40];refine CO.intro (hw _ hs) ?_;unfold z2G;generalize PW s 8 0 (decide (40<s.size))=w;obtain⟨x,a,b⟩:=w;simp only;have eL:decide ((a:Int)<(s.size:Int))=decide (a<s.size):=by rw[Bool.eq_iff_iff];simp
 have hbx:∀n,Bel n x.rv:=fun n=>z0h n x
 rw[rv_eq x];have hrx:=rv_eq x;rcases rvK_cases x.ks with hK|⟨l,hK⟩
 all_goals (
  rw[hK]at hrx⊢;cases b
  · cases hlt:decide (a<s.size)
    · simp -implicitDefEqProofs only[go_sem,k0,k1,k2,s0,List.append_assoc,List.length_append,eL,hlt,Bool.or_self,hrx];rw[hrx]at hbx;refine Fini.trim2 (σ':=σ) (ex:=[_,_]) ?_ rfl (Nat.le_refl _) ?_ hbel
      · simp -implicitDefEqProofs only[go_sem,resA,z02,rvA,oneOf,k0]
      · exact z3q (hbx _) _
    · simp -implicitDefEqProofs only[go_sem,k0,k1,k2,s0,List.append_assoc,List.length_append,eL,hlt,Bool.or_true];refine Fini.trim2 (σ':=σ) (ex:=[_,_]) ?_ rfl (Nat.le_refl _) ?_ hbel
      · simp -implicitDefEqProofs only[go_sem,resA,z02,rvA,oneOf,k0];rfl
      · exact z3q (z0h _ (.mk 0 0 0 0 0 [])) _
  · simp -implicitDefEqProofs only[go_sem,k0,k1,k2,s0,List.append_assoc,List.length_append,Bool.true_or];refine Fini.trim2 (σ':=σ) (ex:=[_,_]) ?_ rfl (Nat.le_refl _) ?_ hbel
    · simp -implicitDefEqProofs only[go_sem,resA,z02,rvA,oneOf,k0];rfl
    · exact z3q (z0h _ (.mk 0 0 0 0 0 [])) _)
end
theorem zi0 {M:Nat→Prop} {R:Ref→Value→Prop} {w:World}:∀(n:Nat) (x:Rex),SizeOf.sizeOf x≤n→∀v,Rep M R w (rvK x.ks) v→Rep M R w (.sl 6 (x.ks.map av)) v:=by
 intro n
 induction n with
 |zero=>intro x h;cases x;simp at h
 |succ n ih =>
  intro x hx v h;have hlt:∀y∈x.ks,SizeOf.sizeOf y<SizeOf.sizeOf x:=fun y hy=>zcy hy
  generalize x.ks=L at h hlt;rcases L with _|⟨y,L⟩
  · cases h;exact .sl0 6 _ _
  · rw[z7m]at h;generalize hM:y::L=M' at h hlt
    have hget:∀i (hi:i<(M'.map rv).length),(M'.map rv)[i].cells=[I (M'[i]'(by simpa using hi)).op,U (M'[i]'(by simpa using hi)).a,U (M'[i]'(by simpa using hi)).b,U (M'[i]'(by simpa using hi)).c,U (M'[i]'(by simpa using hi)).d,rvK (M'[i]'(by simpa using hi)).ks]:=fun i hi=>by
     rw[List.getElem_map,zeI]
    have hget2:∀i (hi:i<(M'.map av).length),(M'.map av)[i].cells=[I (M'[i]'(by simpa using hi)).op,U (M'[i]'(by simpa using hi)).a,U (M'[i]'(by simpa using hi)).b,U (M'[i]'(by simpa using hi)).c,U (M'[i]'(by simpa using hi)).d,.sl 6 ((M'[i]'(by simpa using hi)).ks.map av)]:=fun i hi=>by
     rw[List.getElem_map,av_eq];rfl
    generalize hN:M'.map rv=N at h
    cases h with
    |sl0 => 
     have:M'=[]:=by simpa using hN
     rw[this]at hM;cases hM
    |sl _ _ b o cap f hcap hc hr =>
     subst hN;have e:(M'.map rv).length=(M'.map av).length:=by simp
     rw[e];refine Rep.sl 6 (M'.map av) b o cap f (by rw[←e];exact hcap) ?_ ?_
     · intro i j hi hj;have hi':i<(M'.map rv).length:=by rw[e];exact hi
       refine hc i j hi' ?_;rw[hget2 i hi]at hj;rw[hget i hi'];exact hj
     · intro i j hi hj;have hi':i<(M'.map rv).length:=by rw[e];exact hi
       have hj6:j<6:=by rw[hget2 i hi]at hj;exact hj
       have hj':j<((M'.map rv)[i].cells).length:=by rw[hget i hi'];exact hj6
       have h2:=hr i j hi' hj';simp only[hget i hi']at h2;simp only[hget2 i hi];have hmem:M'[i]'(by simpa using hi)∈M':=List.getElem_mem _
       have ih2:=ih (M'[i]'(by simpa using hi)) (by have:=hlt _ hmem;omega)
       have h6:j=0∨j=1∨j=2∨j=3∨j=4∨j=5:=by omega
       rcases h6 with rfl|rfl|rfl|rfl|rfl|rfl
       · exact h2
       · exact h2
       · exact h2
       · exact h2
       · exact h2
       · exact ih2 _ h2
theorem zi1 {M:Nat→Prop} {R:Ref→Value→Prop} {w:World} (x:Rex) (v:Value) (h:Rep M R w x.rv v):Rep M R w x.av v:=by
 have hk:=zi0 (M:=M) (R:=R) (w:=w) (SizeOf.sizeOf x) x (Nat.le_refl _);rw[rv_eq]at h;rw[av_eq]
 cases h with
 |agg _ vs hl hr =>
  refine .agg _ vs hl fun j hj hj'=>?_
  have h2:=hr j hj hj';have hj6:j<6:=hj;have h6:j=0∨j=1∨j=2∨j=3∨j=4∨j=5:=by omega
  rcases h6 with rfl|rfl|rfl|rfl|rfl|rfl
  · exact h2
  · exact h2
  · exact h2
  · exact h2
  · exact h2
  · exact hk _ h2
theorem Ans.sub {P:Program} {f:FuncId} {x:Rex} {σ σ':St} {r:AV} (h:Ans P f [x.av] σ r σ'):Ans P f [x.rv] σ r σ':=by
 intro M ν w vs hg hr;refine h M ν w vs hg ⟨hr.1,fun j hj hj'=>?_⟩
 have h2:=hr.2 j hj hj';have:j=0:=by simp at hj;exact hj
 subst this;exact zi1 x _ h2
section
variable (s:ByteArray)
end
end Go.Proofs.YtmkmhhjkdaklbaaGreat
namespace Go.Proofs.YtmkmhhjkdaklbaaGreat
open Go Go.Ab
set_option maxRecDepth 100000
def z2H (c:Nat):Bool:=decide (97≤c)&&decide (c≤122)||decide (65≤c)&&decide (c≤90)||c==95
def z54 (c:Nat):Bool:=decide (48≤c)&&decide (c≤57)
def nameB (s:ByteArray):Bool:=decide (1≤s.size)&&decide (s.size≤12)&&z2H (byteAt s 0)&&(List.range s.size).all fun i=>z2H (byteAt s i)||z54 (byteAt s i)
theorem z3F (a b:Nat):decide ((a:Int)≤(b:Int))=decide (a≤b):=by
 rw[Bool.eq_iff_iff];simp only[decide_eq_true_eq];omega
theorem z6O (σ:St) (c:Nat):Ans Tryz.prog 144 [.pl (.int .u8 c)] σ (Bo (z2H c)) σ:=by
 have e1:decide ((97:Int)≤c)=decide (97≤c):=z3F 97 c;have e2:decide ((c:Int)≤122)=decide (c≤122):=z3F c 122;have e3:decide ((65:Int)≤c)=decide (65≤c):=z3F 65 c;have e4:decide ((c:Int)≤90)=decide (c≤90):=z3F c 90;have e5:((c:Int)==95)=(c==95):=z0m c 95
 have hg:(if(if decide (97≤c) then decide (c≤122) else false) then true else if(if decide (65≤c) then decide (c≤90) else false) then true else(c==95))=z2H c:=by
  unfold z2H;cases decide (97≤c)<;>cases decide (c≤122)<;>cases decide (65≤c)<;>cases decide (c≤90)<;>cases(c==95)<;>rfl
 rw[←hg];refine Ans.of_run t144 ?_;cases h1:decide (97≤c)<;>cases h2:decide (c≤122)<;>cases h3:decide (65≤c)<;>cases h4:decide (c≤90)<;>rw[h1]at e1<;>rw[h2]at e2<;>rw[h3]at e3<;>rw[h4]at e4
 all_goals (simp -implicitDefEqProofs only[c144,r144,go_sem,e1,e2,e3,e4,e5];exact Fini.ret rfl)
theorem decN (a b:Nat):decide ((a:Int)<(b:Int))=decide (a<b):=by
 rw[Bool.eq_iff_iff];simp only[decide_eq_true_eq];omega
theorem z5S (σ:St) (s:ByteArray):Ans Tryz.prog 108 [Sx s] σ (Bo (nameB s)) σ:=by
 refine Ans.of_run t108 ?_;have d1:decide ((s.size:Int)<1)=decide (s.size<1):=decN s.size 1;have d2:decide ((12:Int)<s.size)=decide (12<s.size):=decN 12 s.size;by_cases h1:s.size<1
 · have e1:decide (s.size<1)=true:=by simpa using h1
   rw[e1]at d1;simp -implicitDefEqProofs only[c108,r108,go_sem,d1];refine Fini.ret' rfl (z0U ?_);rw[nameB,show decide (1≤s.size)=false from decide_eq_false (by omega)];rfl
 have e1:decide (s.size<1)=false:=by simpa using h1
 rw[e1]at d1;by_cases h2:12<s.size
 · have e2:decide (12<s.size)=true:=by simpa using h2
   rw[e2]at d2;simp -implicitDefEqProofs only[c108,r108,go_sem,d1,d2];refine Fini.ret' rfl (z0U ?_);rw[nameB,show decide (s.size≤12)=false from decide_eq_false (by omega),Bool.and_false];rfl
 have e2:decide (12<s.size)=false:=by simpa using h2
 rw[e2]at d2;have z1:((0:Int)<s.size)=True:=by simp;omega
 have n1:decide (1≤s.size)=true:=by simp;omega
 have n2:decide (s.size≤12)=true:=by simp;omega
 simp -implicitDefEqProofs only[c108,r108,go_sem,d1,d2,z1,z08,Int.toNat_zero];refine CO.intro (z6O _ _) ?_
 cases hl:z2H (byteAt s 0) with
 |false =>
  simp -implicitDefEqProofs only[go_sem,Int.toNat_zero,hl];refine Fini.ret' rfl (z0U ?_);rw[nameB,hl,Bool.and_false];rfl
 |true =>
 simp -implicitDefEqProofs only[go_sem,Int.toNat_zero,hl];refine Go.Ab.L.scan s.size (fun i=>z2H (byteAt s i)||z54 (byteAt s i)) (fun i=>mkE 41 [(0,Sx s),(19,I s.size),(20,I i)]) (fun _=>σ) ?_ ?_ ?_ rfl
 · intro i hi hp J hJ;have hlt:((i:Int)<s.size)=True:=by simp;omega
   have hin:=z0V (n:=i) (by omega)
   have f1:decide ((byteAt s i:Int)<48)=decide (byteAt s i<48):=decN _ 48;have f2:decide ((57:Int)<byteAt s i)=decide (57<byteAt s i):=decN 57 _;simp -implicitDefEqProofs only[mkE,go_sem,hlt,z08];refine CO.intro (z6O _ _) ?_
   have hd:z54 (byteAt s i)= !(decide (byteAt s i<48)||decide (57<byteAt s i)):=by
    unfold z54;rw[Bool.eq_iff_iff];simp
   rw[hd]at hJ
   cases h3:z2H (byteAt s i) with
   |true =>
    rw[h3]at hJ;simp -implicitDefEqProofs only[go_sem,hin];exact hJ rfl
   |false =>
    rw[h3]at hJ;simp -implicitDefEqProofs only[go_sem,hlt,z08];cases h4:decide (byteAt s i<48)<;>rw[h4]at f1 hJ
    · cases h5:decide (57<byteAt s i)<;>rw[h5]at f2 hJ
      · simp -implicitDefEqProofs only[go_sem,f1,f2,hlt,z08,hin];exact hJ rfl
      · simp -implicitDefEqProofs only[go_sem,f1,f2,hlt,z08];refine Fini.ret' rfl (z0U ?_);rw[nameB,List.all_eq_false.2 ⟨i,List.mem_range.2 hi,by simp[h3,hd,h4,h5]⟩,Bool.and_false]
    · simp -implicitDefEqProofs only[go_sem,f1,hlt,z08];refine Fini.ret' rfl (z0U ?_);rw[nameB,List.all_eq_false.2 ⟨i,List.mem_range.2 hi,by simp[h3,hd,h4]⟩,Bool.and_false]
 · intro hp J;have hlt:((s.size:Int)<s.size)=False:=by simp
   simp -implicitDefEqProofs only[mkE,go_sem,hlt];refine Fini.ret' rfl (z0U ?_);rw[nameB,n1,n2,hl,List.all_eq_true.2 fun i hi=>hp i (List.mem_range.1 hi)];rfl
 · rfl
def likeB (k:Int):Bool:=k==3||k==4
def isB (k:Int) (nm v:ByteArray):Bool:=nameB nm&&(if likeB k then(z2G v).2 else(k==1||k==2)&&decide (v.size≤24))
theorem zeJ (σ:St) (k:Int) (nm v:ByteArray):Ans Tryz.prog 159 [mat k nm v] σ (Bo (likeB k)) σ:=by
 refine Ans.of_run t159 ?_;simp -implicitDefEqProofs only[c159,r159,go_sem];unfold likeB;cases h:k==3
 · simp -implicitDefEqProofs only[go_sem];exact Fini.ret rfl
 · simp -implicitDefEqProofs only[go_sem];exact Fini.ret rfl
theorem zi2 (σ:St) (k:Int) (nm v:ByteArray):Ans Tryz.prog 142 [mat k nm v] σ (Bo (isB k nm v)) σ:=by
 refine Ans.of_run t142 ?_;unfold isB;simp -implicitDefEqProofs only[c142,r142,go_sem];refine CO.intro (z5S σ nm) ?_
 cases hn:nameB nm with
 |false =>
  simp -implicitDefEqProofs only[go_sem];exact Fini.ret rfl
 |true =>
 simp -implicitDefEqProofs only[go_sem];refine CO.intro (zeJ σ k nm v) ?_
 cases hk:likeB k with
 |true =>
  simp -implicitDefEqProofs only[go_sem];refine CO.intro (zcJ v σ) ?_;have hrv:=Rex.rv_eq (z2G v).1;generalize (z2G v).1=x at hrv⊢;generalize (z2G v).2=b;rw[hrv];rcases Rex.rvK_cases x.ks with e|⟨l,e⟩<;>rw[e]
  all_goals (simp -implicitDefEqProofs only[go_sem];exact Fini.ret rfl)
 |false =>
  have d:decide ((v.size:Int)≤24)=decide (v.size≤24):=z3F v.size 24;simp -implicitDefEqProofs only[go_sem]
  cases h1:k==1 with
  |true =>
   simp -implicitDefEqProofs only[go_sem,d];exact Fini.ret rfl
  |false =>
   simp -implicitDefEqProofs only[go_sem]
   cases h2:k==2 with
   |true =>
    simp -implicitDefEqProofs only[go_sem,d];exact Fini.ret rfl
   |false =>
    simp -implicitDefEqProofs only[go_sem];exact Fini.ret rfl
abbrev Mtr:=Int×ByteArray×ByteArray
def mv3 (x:Mtr):AV:=mat x.1 x.2.1 x.2.2
def mvs3 (L:List Mtr):List AV:=L.map mv3
def cmpL:List UInt8→List UInt8→Int
 |[],[]=>0
 |[],_::_=>-1
 |_::_,[]=>1
 |a::x,b::y=>if a != b then(if a<b then -1 else 1) else cmpL x y
def cmpI2 (x y:List UInt8):Int:=match(List.range (min x.length y.length)).find? fun i=>x.getD i 0 != y.getD i 0 with
 |some i=>if x.getD i 0<y.getD i 0 then -1 else 1
 |none=>if x.length<y.length then -1 else if x.length>y.length then 1 else 0
theorem zaq:∀x y:List UInt8,cmpI2 x y=cmpL x y
 |[],[]=>rfl
 |[],b::y=>by simp[cmpI2,cmpL]
 |a::x,[]=>by simp[cmpI2,cmpL]
 |a::x,b::y=>by
  rw[cmpL,←zaq x y];unfold cmpI2;rw[List.length_cons,List.length_cons,Nat.succ_min_succ,List.range_succ_eq_map,List.find?_cons];simp only[List.getD_cons_zero]
  cases h:(a != b) with
  |true=>simp
  |false =>
   simp only[Bool.false_eq_true,if_false];rw[List.find?_map];simp only[Function.comp_def,List.getD_cons_succ]
   cases(List.range (min x.length y.length)).find? fun i=>x.getD i 0 != y.getD i 0 with
   |none=>simp
   |some i=>simp
theorem z8v:∀x y:List UInt8,cmpL x y=if x==y then 0 else if Op.bytesLess x y then -1 else 1
 |[],[]=>rfl
 |[],b::y=>by simp[cmpL,Op.bytesLess]
 |a::x,[]=>by simp[cmpL,Op.bytesLess]
 |a::x,b::y=>by
  rw[cmpL,z8v x y,Op.bytesLess];by_cases h:a=b
  · subst h;have:¬a<a:=by simp
    simp[this]
  · by_cases hl:a<b
    · simp[h,hl]
    · simp[h,hl]
theorem zeK (a b:ByteArray):Extern.BytealgCompare.cmp a b=cmpL a.data.toList b.data.toList:=by
 rw[←zaq];unfold Extern.BytealgCompare.cmp cmpI2
 have hg:∀(a:ByteArray) (i:Nat),a[i]! =a.data.toList.getD i 0:=fun a i=>by
  rw[List.getD_eq_getElem?_getD,Array.getElem?_toList,getElem!_def];by_cases h:i<a.size
  · have h1:a[i]?=some a[i]:=by rw[getElem?_pos]
    have h2:a.data[i]?=some a[i]:=Array.getElem?_eq_getElem h;rw[h1,h2];rfl
  · have h1:a[i]?=none:=by rw[getElem?_neg];exact h
    have h2:a.data[i]?=none:=Array.getElem?_eq_none (by simpa using h)
    rw[h1,h2];rfl
 simp only[hg];rfl
def cmpS (a b:ByteArray):Int:=Extern.BytealgCompare.cmp a b
def cmpI (a b:Int):Int:=if a<b then -1 else if b<a then 1 else 0
def or3 (a b c:Int):Int:=if a != 0 then a else if b != 0 then b else c
def cmp3 (x y:Mtr):Int:=or3 (cmpS x.2.1 y.2.1) (cmpI x.1 y.1) (cmpS x.2.2 y.2.2)
section
variable (σ:St)
theorem z6P (a b:ByteArray):Ans Tryz.prog 162 [Sx a,Sx b] σ (I (cmpS a b)) σ:=by
 have h139:Ans Tryz.prog 183 [Sx a,Sx b] σ (I (cmpS a b)) σ:=zhX _ _ _ _ rfl
 have h123:Ans Tryz.prog 172 [Sx a,Sx b] σ (I (cmpS a b)) σ:=by
  refine Ans.of_run t172 ?_;simp -implicitDefEqProofs only[c172,r172,go_sem];refine CO.intro h139 ?_;simp -implicitDefEqProofs only[go_sem];exact Fini.ret rfl
 refine Ans.of_run t162 ?_;simp -implicitDefEqProofs only[c162,r162,go_sem];refine CO.intro h123 ?_;simp -implicitDefEqProofs only[go_sem];exact Fini.ret rfl
theorem zcK (a:Int):Ans Tryz.prog 173 [I a] σ (Bo false) σ:=by
 have h:(a != a)=false:=by simp
 refine Ans.of_run t173 ?_;simp -implicitDefEqProofs only[c173,r173,go_sem,h];exact Fini.ret rfl
theorem zbs (a b:Int):Ans Tryz.prog 163 [I a,I b] σ (I (cmpI a b)) σ:=by
 unfold cmpI;refine Ans.of_run t163 ?_;simp -implicitDefEqProofs only[c163,r163,go_sem];refine CO.intro (zcK σ a) ?_;simp -implicitDefEqProofs only[go_sem];refine CO.intro (zcK σ b) ?_;simp -implicitDefEqProofs only[go_sem];by_cases h1:a<b
 · have h1':decide (a<b)=true:=by simpa using h1
   simp -implicitDefEqProofs only[go_sem,h1'];rw[if_pos h1];exact Fini.ret rfl
 · have h1':decide (a<b)=false:=by simpa using h1
   simp -implicitDefEqProofs only[go_sem,h1'];rw[if_neg h1];by_cases h2:b<a
   · have h2':decide (b<a)=true:=by simpa using h2
     simp -implicitDefEqProofs only[go_sem,h2'];rw[if_pos h2];exact Fini.ret rfl
   · have h2':decide (b<a)=false:=by simpa using h2
     simp -implicitDefEqProofs only[go_sem,h2'];rw[if_neg h2];exact Fini.ret rfl
def orF (a b c:Int):Nat→Int
 |0=>or3 a b c
 |1=>if b != 0 then b else c
 |2=>c
 |_=>0
theorem zi3 (a b c:Int):Ans Tryz.prog 161 [.sl 1 [I a,I b,I c]] σ (I (or3 a b c)) σ:=by
 refine Ans.of_run t161 ?_;simp -implicitDefEqProofs only[c161,r161,go_sem];generalize hres:or3 a b c=res
 refine Go.Ab.L.intro (α:={ i:Nat // i≤3∧orF a b c i=res }) (fun x=>3-x.1)
  (fun x=>mkE 18 [(3,I 0),(6,.sl 1 [I a,I b,I c]),(7,I ((3:Nat):Int)),(8,I x.1)]) (fun _=>σ) (fun x J hJ=>?_) ⟨0,Nat.zero_le _,hres⟩ rfl rfl
 obtain⟨i,hi,hg⟩:=x;simp only at hJ⊢;have i4:i=0∨i=1∨i=2∨i=3:=by omega
 have w0:IntKind.i64.wrap (((0:Nat):Int)+1)=((1:Nat):Int):=by decide
 have w1:IntKind.i64.wrap (((1:Nat):Int)+1)=((2:Nat):Int):=by decide
 have w2:IntKind.i64.wrap (((2:Nat):Int)+1)=((3:Nat):Int):=by decide
 rcases i4 with rfl|rfl|rfl|rfl
 · have d1:decide (((0:Nat):Int)<((3:Nat):Int))=true:=by decide
   have d2:(((0:Nat):Int)<((3:Nat):Int))=True:=by simp
   simp only[orF,or3]at hg;simp -implicitDefEqProofs only[mkE,go_sem,d1,d2];cases h:a != 0
   · rw[h,if_neg Bool.false_ne_true]at hg;have hJ':=hJ ⟨1,by omega,hg⟩ (by simp only;omega)
     simp only at hJ';simp -implicitDefEqProofs only[go_sem,w0];exact hJ'
   · rw[h,if_pos rfl]at hg;simp -implicitDefEqProofs only[go_sem];rw[←hg];exact Fini.ret rfl
 · have d1:decide (((1:Nat):Int)<((3:Nat):Int))=true:=by decide
   have d2:(((1:Nat):Int)<((3:Nat):Int))=True:=by simp
   simp only[orF]at hg;simp -implicitDefEqProofs only[mkE,go_sem,d1,d2];cases h:b != 0
   · rw[h,if_neg Bool.false_ne_true]at hg;have hJ':=hJ ⟨2,by omega,hg⟩ (by simp only;omega)
     simp only at hJ';simp -implicitDefEqProofs only[go_sem,w1];exact hJ'
   · rw[h,if_pos rfl]at hg;simp -implicitDefEqProofs only[go_sem];rw[←hg];exact Fini.ret rfl
 · have d1:decide (((2:Nat):Int)<((3:Nat):Int))=true:=by decide
   have d2:(((2:Nat):Int)<((3:Nat):Int))=True:=by simp
   simp only[orF]at hg;simp -implicitDefEqProofs only[mkE,go_sem,d1,d2];cases h:c != 0
   · have hc:c=0:=by simpa using h
     have hJ':=hJ ⟨3,by omega,by rw[←hg,hc];rfl⟩ (by simp only;omega)
     simp only at hJ';simp -implicitDefEqProofs only[go_sem,w2];exact hJ'
   · simp -implicitDefEqProofs only[go_sem];rw[←hg];exact Fini.ret rfl
 · have d1:decide (((3:Nat):Int)<((3:Nat):Int))=false:=by decide
   have d2:(((3:Nat):Int)<((3:Nat):Int))=False:=by simp
   simp only[orF]at hg;simp -implicitDefEqProofs only[mkE,go_sem,d1,d2];rw[←hg];exact Fini.ret rfl
theorem z9F (x y:Mtr):Ans Tryz.prog 143 [mv3 x,mv3 y] σ (I (cmp3 x y)) σ:=by
 have h1:=fun s=>z6P s x.2.1 y.2.1
 have h2:=fun s=>zbs s x.1 y.1
 have h3:=fun s=>z6P s x.2.2 y.2.2
 have h4:=fun s=>zi3 s (cmpS x.2.1 y.2.1) (cmpI x.1 y.1) (cmpS x.2.2 y.2.2)
 unfold cmp3;refine Ans.of_run t143 ?_;simp -implicitDefEqProofs only[c143,r143,go_sem,z00,mv3]
 first|refine CD.intro (h1 _) ?_|refine CS.intro h1 ?_
 simp -implicitDefEqProofs only[go_sem,z00]
 first|refine CD.intro (h2 _) ?_|refine CS.intro h2 ?_
 simp -implicitDefEqProofs only[go_sem,z00]
 first|refine CD.intro (h3 _) ?_|refine CS.intro h3 ?_
 simp -implicitDefEqProofs only[go_sem,z00]
 first|refine CD.intro (h4 _) ?_|refine CS.intro h4 ?_
 simp -implicitDefEqProofs only[go_sem];exact Fini.ret rfl
end
theorem zcL (a b:ByteArray):cmpS a b=(if a.toList==b.toList then 0 else if Op.bytesLess a.toList b.toList then -1 else 1):=by
 rw[cmpS,zeK,z8v,ByteArray.toList_eq,ByteArray.toList_eq]
def z3L (x y:Mtr):Bool :=
 if !(x.2.1.toList==y.2.1.toList) then Op.bytesLess x.2.1.toList y.2.1.toList
 else if !(x.1==y.1) then decide (x.1<y.1)
 else Op.bytesLess x.2.2.toList y.2.2.toList
theorem z5T:∀x:List UInt8,Op.bytesLess x x=false
 |[]=>rfl
 |a::x=>by rw[Op.bytesLess,z5T x];simp
theorem z9G (x y:Mtr):decide (0≤cmp3 x y)= !z3L x y:=by
 unfold cmp3 or3 z3L;rw[zcL,zcL]
 cases h1:(x.2.1.toList==y.2.1.toList) with
 |false =>
  cases h2:Op.bytesLess x.2.1.toList y.2.1.toList<;>simp
 |true =>
  simp only[Bool.not_true,Bool.false_eq_true,if_false,if_true];unfold cmpI;by_cases h3:x.1<y.1
  · have:(x.1==y.1)=false:=by simp;omega
    simp[h3,this]
  · by_cases h4:y.1<x.1
    · have:(x.1==y.1)=false:=by simp;omega
      simp[h3,h4,this]
    · have h5:(x.1==y.1)=true:=by simp;omega
      simp only[h3,h4,h5,if_false,Bool.not_true,Bool.false_eq_true]
      cases h6:(x.2.2.toList==y.2.2.toList) with
      |true =>
       have:x.2.2.toList=y.2.2.toList:=by simpa using h6
       rw[this,z5T];rfl
      |false=>cases h7:Op.bytesLess x.2.2.toList y.2.2.toList<;>simp
def epsTo (ys:List Stp) (p q:Nat):Prop:=∃s,ys[p]?=some s∧((s.op=2∧(q=s.x.toNat∨q=s.y.toNat))∨(s.op=3∧q=s.x.toNat))
inductive Eps (ys:List Stp):Nat→Nat→Prop where
 |refl (p:Nat):Eps ys p p
 |step {p q r:Nat}:epsTo ys p q→Eps ys q r→Eps ys p r
theorem z7p {ys:List Stp} {p:Nat} {s:Stp} (h:ys[p]?=some s):stpAt ys p=s:=by
 rw[stpAt,List.getD_eq_getElem?_getD,h];rfl
theorem Eps.snoc {ys:List Stp} {p q r:Nat} (h:Eps ys p q) (h':epsTo ys q r):Eps ys p r:=by
 induction h with
 |refl p=>exact .step h' (.refl _)
 |step h1 _ ih=>exact .step h1 (ih h')
section
variable {ys:List Stp} (hc:zhW ys=true)
include hc
end
inductive Reach (ys:List Stp) (s:ByteArray):Nat→Nat→Prop where
 |zero:Reach ys s 0 0
 |eps {p q i:Nat}:Reach ys s p i→epsTo ys p q→Reach ys s q i
 |byte {p i:Nat}:Reach ys s p i→p<ys.length→i<s.size→z5L (stpAt ys p) (byteAt s i)=true→Reach ys s (p+1) (i+1)
theorem Reach.last {ys:List Stp} {s:ByteArray} {q i:Nat} (h:Reach ys s q i):(i=0∧Eps ys 0 q)∨∃j p,i=j+1∧j<s.size∧p<ys.length∧Reach ys s p j∧z5L (stpAt ys p) (byteAt s j)=true∧Eps ys (p+1) q:=by
 induction h with
 |zero=>exact .inl ⟨rfl,.refl _⟩
 |eps _ h1 ih =>
  rcases ih with⟨h,h'⟩|⟨j,p,h⟩
  · exact .inl ⟨h,h'.snoc h1⟩
  · exact .inr ⟨j,p,h.1,h.2.1,h.2.2.1,h.2.2.2.1,h.2.2.2.2.1,h.2.2.2.2.2.snoc h1⟩
 |byte h hp hi ht _=>exact .inr ⟨_,_,rfl,hi,hp,h,ht,.refl _⟩
end Go.Proofs.YtmkmhhjkdaklbaaGreat
namespace Go.Proofs.YtmkmhhjkdaklbaaGreat
open Go Go.Ab
set_option maxRecDepth 100000
inductive Star (R:Nat→Nat→Prop):Nat→Nat→Prop where
 |refl (i:Nat):Star R i i
 |step {i m j:Nat}:R i m→Star R m j→Star R i j
section
variable (s:ByteArray)
mutual
def Mt:Rex→Nat→Nat→Prop
 |.mk op a b c d ks=>fun i j =>
  if op==1 then i<s.size∧j=i+1∧z5L ⟨1,a,b,c,d,0,0⟩ (byteAt s i)=true
  else if op==2 then MtL ks i j
  else if op==3 then MtA ks i j
  else if op==4 then Star (MtH ks) i j
  else if op==5 then ∃m,MtH ks i m∧Star (MtH ks) m j
  else if op==6 then i=j∨MtH ks i j
  else False
def MtL:List Rex→Nat→Nat→Prop
 |[]=>fun i j=>i=j
 |x::xs=>fun i j=>∃m,Mt x i m∧MtL xs m j
def MtA:List Rex→Nat→Nat→Prop
 |[]=>fun _ _=>False
 |x::xs=>fun i j=>Mt x i j∨MtA xs i j
def MtH:List Rex→Nat→Nat→Prop
 |[]=>fun _ _=>False
 |x::_=>fun i j=>Mt x i j
end
inductive Ed (ys:List Stp):Nat×Nat→Nat×Nat→Prop where
 |eps {p q i:Nat}:epsTo ys p q→Ed ys (p,i) (q,i)
 |byte {p i:Nat}:p<ys.length→i<s.size→z5L (stpAt ys p) (byteAt s i)=true→Ed ys (p,i) (p+1,i+1)
def Run (ys:List Stp) (lo hi:Nat):Nat→Nat×Nat→Nat×Nat→Prop
 |0,c,d=>c=d∧¬(lo≤c.1∧c.1<hi)
 |k+1,c,d=>(lo≤c.1∧c.1<hi)∧∃e,Ed s ys c e∧Run ys lo hi k e d
def Path (ys:List Stp):Nat→Nat×Nat→Nat×Nat→Prop
 |0,c,d=>c=d
 |k+1,c,d=>∃e,Ed s ys c e∧Path ys k e d
variable {s} {ys:List Stp}
theorem Run.split {lo hi lo' hi':Nat} (h1:lo≤lo') (h2:hi'≤hi):∀(k:Nat) (c d:Nat×Nat),Run s ys lo hi k c d→∃k1 k2 m,k1+k2=k∧Run s ys lo' hi' k1 c m∧Run s ys lo hi k2 m d
 |0,c,d,h=>⟨0,0,c,rfl,⟨rfl,fun hc=>h.2 ⟨by omega,by omega⟩⟩,h⟩
 |k+1,c,d,h=>by
  by_cases hc:lo'≤c.1∧c.1<hi'
  · obtain⟨_,e,he,hr⟩:=h;obtain⟨k1,k2,m,hk,h3,h4⟩:=Run.split h1 h2 k e d hr;exact⟨k1+1,k2,m,by omega,⟨hc,e,he,h3⟩,h4⟩
  · exact⟨0,k+1,c,by omega,⟨rfl,hc⟩,h⟩
theorem Path.run {lo hi:Nat}:∀(k:Nat) (c d:Nat×Nat),Path s ys k c d→¬(lo≤d.1∧d.1<hi)→∃k1 k2 m,Run s ys lo hi k1 c m∧Path s ys k2 m d
 |0,c,d,h,hd=>⟨0,0,c,⟨rfl,by rw[show c=d from h];exact hd⟩,h⟩
 |k+1,c,d,h,hd=>by
  by_cases hc:lo≤c.1∧c.1<hi
  · obtain⟨e,he,hr⟩:=h;obtain⟨k1,k2,m,h3,h4⟩:=Path.run k e d hr hd;exact⟨k1+1,k2,m,⟨hc,e,he,h3⟩,h4⟩
  · exact⟨0,k+1,c,⟨rfl,hc⟩,h⟩
theorem Path.snoc:∀(k:Nat) (c d e:Nat×Nat),Path s ys k c d→Ed s ys d e→Path s ys (k+1) c e
 |0,c,d,e,h,he=>by rw[show c=d from h];exact⟨e,he,rfl⟩
 |k+1,c,d,e,h,he=>by
  obtain⟨f,hf,hr⟩:=h;exact⟨f,hf,Path.snoc k f d e hr he⟩
theorem Run.out {lo hi k:Nat} {c d:Nat×Nat} (h:Run s ys lo hi k c d) (hc:¬(lo≤c.1∧c.1<hi)):k=0∧c=d:=by
 cases k with
 |zero=>exact⟨rfl,h.1⟩
 |succ k=>exact absurd h.1 hc
theorem Run.move {lo hi k:Nat} {c d:Nat×Nat} (h:Run s ys lo hi k c d) (hc:lo≤c.1∧c.1<hi):∃k' e,k=k'+1∧Ed s ys c e∧Run s ys lo hi k' e d:=by
 cases k with
 |zero=>exact absurd hc h.2
 |succ k=>obtain⟨_,e,h1,h2⟩:=h;exact⟨k,e,rfl,h1,h2⟩
theorem Ed.two {p i:Nat} {e:Nat×Nat} {st:Stp} (h:Ed s ys (p,i) e) (hs:ys[p]?=some st) (ho:st.op=2):e=(st.x.toNat,i)∨e=(st.y.toNat,i):=by
 cases h with
 |eps h =>
  obtain⟨s',h1,h2⟩:=h;rw[hs]at h1;cases h1;rcases h2 with⟨_,rfl|rfl⟩|⟨h3,_⟩
  · exact .inl rfl
  · exact .inr rfl
  · omega
 |byte h1 h2 h3 =>
  rw[z7p hs]at h3;simp[z5L,ho]at h3
theorem Ed.one {p i:Nat} {e:Nat×Nat} {st:Stp} (h:Ed s ys (p,i) e) (hs:ys[p]?=some st) (ho:st.op=1):e=(p+1,i+1)∧i<s.size∧z5L st (byteAt s i)=true:=by
 cases h with
 |eps h =>
  obtain⟨s',h1,h2⟩:=h;rw[hs]at h1;cases h1;rcases h2 with⟨h3,_⟩|⟨h3,_⟩<;>omega
 |byte h1 h2 h3 =>
  rw[z7p hs]at h3;exact⟨rfl,h2,h3⟩
theorem Ed.four {p i:Nat} {e:Nat×Nat} {st:Stp} (h:Ed s ys (p,i) e) (hs:ys[p]?=some st) (ho:st.op=4):False:=by
 cases h with
 |eps h =>
  obtain⟨s',h1,h2⟩:=h;rw[hs]at h1;cases h1;rcases h2 with⟨h3,_⟩|⟨h3,_⟩<;>omega
 |byte h1 h2 h3 =>
  rw[z7p hs]at h3;simp[z5L,ho]at h3
def Frag (ys:List Stp) (n:Nat) (l:List Stp):Prop:=∀k,k<l.length→ys[n+k]?=l[k]?
theorem Frag.left {n:Nat} {a b:List Stp} (h:Frag ys n (a++b)):Frag ys n a:=fun k hk=>by
 rw[h k (by simp;omega),List.getElem?_append_left hk]
theorem Frag.right {n:Nat} {a b:List Stp} (h:Frag ys n (a++b)):Frag ys (n+a.length) b:=fun k hk=>by
 rw[show n+a.length+k=n+(a.length+k) by omega,h _ (by simp;omega),List.getElem?_append_right (by omega)]
 congr 1;omega
theorem Frag.head {n:Nat} {a:Stp} {b:List Stp} (h:Frag ys n (a::b)):ys[n]?=some a:=by
 have:=h 0 (by simp);simpa using this
theorem Frag.tail {n:Nat} {a:Stp} {b:List Stp} (h:Frag ys n (a::b)):Frag ys (n+1) b:=fun k hk=>by
 have:=h (k+1) (by simp;omega)
 rw[show n+1+k=n+(k+1) by omega,this];simp
end
end Go.Proofs.YtmkmhhjkdaklbaaGreat
namespace Go.Proofs.YtmkmhhjkdaklbaaGreat
open Go Go.Ab Rex
set_option maxRecDepth 100000
section
variable (s:ByteArray)
end
theorem Star.one {R:Nat→Nat→Prop} {i m j:Nat} (h:R i m) (h':Star R m j):Star R i j:=.step h h'
section
variable {s:ByteArray} {ys:List Stp}
def Comp (s:ByteArray) (ys:List Stp) (x:Rex):Prop:=∀n i j,Frag ys n (lay n x)→Mt s x i j→Reach ys s n i→Reach ys s (n+(lay n x).length) j
theorem compL (l:List Rex):∀n i j,(∀k∈l,Comp s ys k)→Frag ys n (layL n l)→MtL s l i j→Reach ys s n i→Reach ys s (n+(layL n l).length) j:=by
 induction l with
 |nil=>intro n i j _ _ h hr;rw[show i=j from h]at hr;exact hr
 |cons x xs ih =>
  intro n i j hk hf h hr;rw[layL]at hf⊢;obtain⟨m,h1,h2⟩:=h;have a1:=hk x List.mem_cons_self n i m hf.left h1 hr;have a2:=ih _ m j (fun k hk'=>hk k (List.mem_cons_of_mem _ hk')) hf.right h2 a1
  rw[List.length_append,←Nat.add_assoc];exact a2
end
abbrev dob (s:ByteArray) (a d:Nat) (b:Bool):Ob:=.box [Sx s,I a,I d,Bo b]
def specials:List Nat:=[124,42,43,63,40,41,91,93,46,92]
def oneS (c:Nat):List Int:=z4.set (c/64) (bitU (c%64))
def within2:List Nat:=[93,91,94,45]
def z0p (s:ByteArray) (a:Nat):Nat×Nat×Bool :=
 if over s a false then(0,a,true)
 else if byteAt s a==92 then
  if over s (a+1) false|| !signs.contains (byteAt s (a+1)) then(0,a+1,true) else(byteAt s (a+1),a+2,false)
 else(byteAt s a,a+1,within2.contains (byteAt s a))
theorem zeL:∀c:Nat,c<256→((specials.contains c||c==94)||c==45)=signs.contains c:=by decide +kernel
theorem zbt (c:Nat):(((c==93||c==91)||c==94)||c==45)=within2.contains c:=by
 simp only[within2,List.contains_cons,List.contains_nil,Bool.or_false,Bool.or_assoc]
section
variable (σ:St) (p:Nat) (s:ByteArray) (a d:Nat)
theorem z5U (c:Nat):Ans Tryz.prog 220 [B8 c] σ (Bo (specials.contains c)) σ:=by
 have k:∀n:Nat,((c:Int)==(n:Int))=(c==n):=fun n=>z0m c n
 have k1:((c:Int)==124)=(c==124):=k 124;have k2:((c:Int)==42)=(c==42):=k 42;have k3:((c:Int)==43)=(c==43):=k 43;have k4:((c:Int)==63)=(c==63):=k 63;have k5:((c:Int)==40)=(c==40):=k 40;have k6:((c:Int)==41)=(c==41):=k 41;have k7:((c:Int)==91)=(c==91):=k 91;have k8:((c:Int)==93)=(c==93):=k 93;have k9:((c:Int)==46)=(c==46):=k 46;have k10:((c:Int)==92)=(c==92):=k 92;simp only[specials,List.contains_cons,List.contains_nil,Bool.or_false];refine Ans.of_run t220 ?_;simp -implicitDefEqProofs only[c220,r220,go_sem,k1];cases h1:c==124
 case true=>simp -implicitDefEqProofs only[go_sem];exact Fini.ret rfl
 simp -implicitDefEqProofs only[go_sem,k2];cases h2:c==42
 case true=>simp -implicitDefEqProofs only[go_sem];exact Fini.ret rfl
 simp -implicitDefEqProofs only[go_sem,k3];cases h3:c==43
 case true=>simp -implicitDefEqProofs only[go_sem];exact Fini.ret rfl
 simp -implicitDefEqProofs only[go_sem,k4];cases h4:c==63
 case true=>simp -implicitDefEqProofs only[go_sem];exact Fini.ret rfl
 simp -implicitDefEqProofs only[go_sem,k5];cases h5:c==40
 case true=>simp -implicitDefEqProofs only[go_sem];exact Fini.ret rfl
 simp -implicitDefEqProofs only[go_sem,k6];cases h6:c==41
 case true=>simp -implicitDefEqProofs only[go_sem];exact Fini.ret rfl
 simp -implicitDefEqProofs only[go_sem,k7];cases h7:c==91
 case true=>simp -implicitDefEqProofs only[go_sem];exact Fini.ret rfl
 simp -implicitDefEqProofs only[go_sem,k8];cases h8:c==93
 case true=>simp -implicitDefEqProofs only[go_sem];exact Fini.ret rfl
 simp -implicitDefEqProofs only[go_sem,k9];cases h9:c==46
 case true=>simp -implicitDefEqProofs only[go_sem];exact Fini.ret rfl
 simp -implicitDefEqProofs only[go_sem,k10];cases h10:c==92
 case true=>simp -implicitDefEqProofs only[go_sem];exact Fini.ret rfl
 simp -implicitDefEqProofs only[go_sem];exact Fini.ret rfl
theorem z6Q (c:Nat) (hc:c<256):Ans Tryz.prog 216 [B8 c] σ (Bo (signs.contains c)) σ:=by
 have k1:((c:Int)==94)=(c==94):=z0m c 94;have k2:((c:Int)==45)=(c==45):=z0m c 45;rw[←zeL c hc];refine Ans.of_run t216 ?_;simp -implicitDefEqProofs only[c216,r216,go_sem];refine CO.intro (z5U σ c) ?_;simp -implicitDefEqProofs only[go_sem,k1];cases h1:specials.contains c
 · simp -implicitDefEqProofs only[go_sem,k1];cases h2:c==94
   · simp -implicitDefEqProofs only[go_sem,k2];exact Fini.ret rfl
   · simp -implicitDefEqProofs only[go_sem,k2];exact Fini.ret rfl
 · simp -implicitDefEqProofs only[go_sem];exact Fini.ret rfl
theorem z7q (b:Bool) (h:σ[p]?=some (dob s a d b)):Ans Tryz.prog 190 [.ptr p 0] σ (Bo (!over s a b)) σ:=by
 refine Ans.of_run t190 ?_;cases b<;>simp -implicitDefEqProofs only[c190,r190,h,go_sem]
 · refine Fini.ret ?_
   have e:decide ((a:Int)<(s.size:Int))= !over s a false:=by
    simp only[over,Bool.false_or];rw[Bool.eq_iff_iff];simp
   simp -implicitDefEqProofs only[go_sem,e];rfl
 · exact Fini.ret rfl
theorem z2S (b:Bool) (h:σ[p]?=some (dob s a d b)):Ans Tryz.prog 217 [.ptr p 0] σ (.tup []) (σ.set p (dob s a d true)):=by
 refine Ans.of_run t217 ?_;simp -implicitDefEqProofs only[c217,r217,h,go_sem];exact Fini.normal2 (n:=0) rfl rfl rfl
theorem zar (c:Nat) (hc:c<256):Ans Tryz.prog 218 [B8 c] σ (.agg ((oneS c).map U)) σ:=by
 have e1:IntKind.u8.wrap ((c:Int).tdiv 64)=((c/64:Nat):Int):=by
  rw[show(c:Int).tdiv 64=((c/64:Nat):Int) from rfl]
  simp only[IntKind.wrap,IntKind.bits,IntKind.signed];simp;omega
 have e2:(c:Int).tmod 64=((c%64:Nat):Int):=rfl;have e3:((64:Int)=0)=False:=by simp
 have e4:(((c/64:Nat):Int)<(4:Nat))=True:=by simp;omega
 have hk:c/64<4:=by omega
 have k0:∀(x y:Ob),(σ++[x,y])[σ.length]?=some x:=fun x y=>by rw[List.getElem?_append_right (by simp)];simp
 have k1:∀(x y:Ob),(σ++[x,y])[σ.length+1]?=some y:=fun x y=>by rw[List.getElem?_append_right (by simp)];simp
 have s0:∀(x y z:Ob),(σ++[x,y]).set σ.length z=σ++[z,y]:=fun x y z=>by rw[List.set_append_right _ _ (by simp)];simp
 have s1:∀(x y z:Ob),(σ++[x,y]).set (σ.length+1) z=σ++[x,z]:=fun x y z=>by rw[List.set_append_right _ _ (by simp)];simp
 refine Ans.of_run' t218 (fun hbel _=>?_)
 have hb:=z4x σ.length (oneS c);unfold oneS at hb⊢
 have e5:IntKind.u64.wrap ((c%64:Nat):Int)=((c%64:Nat):Int):=by
  simp only[IntKind.wrap,IntKind.bits,IntKind.signed];simp;omega
 simp -implicitDefEqProofs only[c218,r218,go_sem,e1,e2,e3,e4,e5,Nat.mul_one,k0,k1,s0,s1,List.append_assoc,List.length_append];generalize hw:bitU (c%64)=w at hb⊢;have hw':IntKind.u64.wrap (1*2^min (c%64) 64)=w:=hw;rw[hw'];generalize c/64=k at hk hb⊢
 match k,hk with
 |0,_ =>
  simp -implicitDefEqProofs only[go_sem,k0,k1,s0,s1];exact Fini.trim2 (σ':=σ) (ex:=[_,_]) (by simp -implicitDefEqProofs only[go_sem,resA,z02,rvA,oneOf,k0]) rfl (Nat.le_refl _) hb hbel
 |1,_ =>
  simp -implicitDefEqProofs only[go_sem,k0,k1,s0,s1];exact Fini.trim2 (σ':=σ) (ex:=[_,_]) (by simp -implicitDefEqProofs only[go_sem,resA,z02,rvA,oneOf,k0]) rfl (Nat.le_refl _) hb hbel
 |2,_ =>
  simp -implicitDefEqProofs only[go_sem,k0,k1,s0,s1];exact Fini.trim2 (σ':=σ) (ex:=[_,_]) (by simp -implicitDefEqProofs only[go_sem,resA,z02,rvA,oneOf,k0]) rfl (Nat.le_refl _) hb hbel
 |3,_ =>
  simp -implicitDefEqProofs only[go_sem,k0,k1,s0,s1];exact Fini.trim2 (σ':=σ) (ex:=[_,_]) (by simp -implicitDefEqProofs only[go_sem,resA,z02,rvA,oneOf,k0]) rfl (Nat.le_refl _) hb hbel
theorem z9H (hs:s.size≤40) (h:σ[p]?=some (dob s a d false)):Ans Tryz.prog 224 [.ptr p 0] σ (B8 (z0p s a).1) (σ.set p (dob s (z0p s a).2.1 d (z0p s a).2.2)):=by
 have hp:p<σ.length:=(List.getElem?_eq_some_iff.1 h).1;have hg:∀o,(σ.set p o)[p]?=some o:=fun o=>by simp[hp]
 refine Ans.of_run t224 ?_;simp -implicitDefEqProofs only[c224,r224,h,go_sem];refine CO.intro (z7q σ p s a d false h) ?_;unfold z0p
 cases ho:over s a false with
 |true =>
  simp -implicitDefEqProofs only[go_sem];refine CO.intro (z2S σ p s a d false h) ?_;simp -implicitDefEqProofs only[go_sem];exact Fini.ret rfl
 |false =>
  have hlt:=z1w ho;have h1:(a:Int)<s.size:=by omega
  have k92:(((byteAt s a:Nat):Int)==92)=(byteAt s a==92):=z0m _ 92;have k93:(((byteAt s a:Nat):Int)==93)=(byteAt s a==93):=z0m _ 93;have k91:(((byteAt s a:Nat):Int)==91)=(byteAt s a==91):=z0m _ 91;have k94:(((byteAt s a:Nat):Int)==94)=(byteAt s a==94):=z0m _ 94;have k45:(((byteAt s a:Nat):Int)==45)=(byteAt s a==45):=z0m _ 45;simp -implicitDefEqProofs only[go_sem,h,h1,z08,z0V (show a≤4294967296 by omega),k92]
  cases hc:byteAt s a==92 with
  |true =>
   simp -implicitDefEqProofs only[go_sem];refine CD.intro (z7q _ p s (a+1) d false (hg _)) ?_
   cases ho2:over s (a+1) false with
   |true =>
    simp -implicitDefEqProofs only[go_sem,hg];refine CO.intro (z2S _ p s (a+1) d false (hg _)) ?_;simp -implicitDefEqProofs only[go_sem,List.set_set,Bool.true_or];exact Fini.ret rfl
   |false =>
    have hlt2:=z1w ho2;have h2:((a+1:Nat):Int)<s.size:=by omega
    simp -implicitDefEqProofs only[go_sem,hg,h2,z08];refine CD.intro (z6Q _ (byteAt s (a+1)) (z23 _ _)) ?_
    cases hq:signs.contains (byteAt s (a+1)) with
    |false =>
     simp -implicitDefEqProofs only[go_sem,hg];refine CO.intro (z2S _ p s (a+1) d false (hg _)) ?_;simp -implicitDefEqProofs only[go_sem,List.set_set,Bool.or_true];exact Fini.ret rfl
    |true =>
     have h3:IntKind.i64.wrap (((a+1+1:Nat):Int)-1)=((a+1:Nat):Int):=by
      simp only[IntKind.wrap,IntKind.bits,IntKind.signed];simp;omega
     simp -implicitDefEqProofs only[go_sem,hg,List.set_set,z0V (show a+1≤4294967296 by omega),h2,h3,z08,Bool.or_false]
     exact Fini.ret rfl
  |false =>
   rw[←zbt];simp -implicitDefEqProofs only[go_sem,k93,k91,k94,k45];cases h93:byteAt s a==93
   case true =>
    simp -implicitDefEqProofs only[go_sem];refine CO.intro (z2S _ p s (a+1) d false (hg _)) ?_;simp -implicitDefEqProofs only[go_sem,List.set_set,Bool.true_or];exact Fini.ret rfl
   simp -implicitDefEqProofs only[go_sem,k91];cases h91:byteAt s a==91
   case true =>
    simp -implicitDefEqProofs only[go_sem];refine CO.intro (z2S _ p s (a+1) d false (hg _)) ?_;simp -implicitDefEqProofs only[go_sem,List.set_set,Bool.true_or,Bool.or_true];exact Fini.ret rfl
   simp -implicitDefEqProofs only[go_sem,k94];cases h94:byteAt s a==94
   case true =>
    simp -implicitDefEqProofs only[go_sem];refine CO.intro (z2S _ p s (a+1) d false (hg _)) ?_;simp -implicitDefEqProofs only[go_sem,List.set_set,Bool.true_or,Bool.or_true];exact Fini.ret rfl
   simp -implicitDefEqProofs only[go_sem,k45];cases h45:byteAt s a==45
   case true =>
    simp -implicitDefEqProofs only[go_sem];refine CO.intro (z2S _ p s (a+1) d false (hg _)) ?_;simp -implicitDefEqProofs only[go_sem,List.set_set,Bool.true_or,Bool.or_true];exact Fini.ret rfl
   simp -implicitDefEqProofs only[go_sem,Bool.or_self];exact Fini.ret rfl
end
end Go.Proofs.YtmkmhhjkdaklbaaGreat
