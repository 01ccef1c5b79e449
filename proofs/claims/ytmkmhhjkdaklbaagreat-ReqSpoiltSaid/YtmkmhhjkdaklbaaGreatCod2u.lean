/- One answer out of another: for values that stand for less, with a row that is handed back sealed, with a row that is sealed ahead of the call. No condition. -/
import Derived.Test.YtmkmhhjkdaklbaaGreatAbArgu
set_option linter.unusedSimpArgs false
set_option linter.unusedVariables false
set_option linter.unusedSectionVars false
namespace Go.Ab
open Go
def Sub (a b:AV):Prop:=∀(M:Nat→Prop) (R:Ref→Value→Prop) (w:World) (v:Value),Rep M R w a v→Rep M R w b v
theorem Sub.refl (a:AV):Sub a a:=fun _ _ _ _ h=>h
theorem Sub.any (a:AV):Sub a .any:=fun _ _ _ v _=>.any v
theorem Sub.nils (sz:Nat):Sub .nils (.sl sz []):=fun _ _ _ v h=>by cases h;exact .sl0 _ _ _
theorem Sub.zsl (sz:Nat):Sub .zsl (.sl sz []):=fun _ _ _ v h=>by cases h;exact .sl0 _ _ _
inductive Subs:List AV→List AV→Prop
 |nil:Subs [] []
 |cons {a b:AV} {as bs:List AV} (h:Sub a b) (t:Subs as bs):Subs (a::as) (b::bs)
theorem Subs.refl:∀as:List AV,Subs as as
 |[]=>.nil
 |a::as=>.cons (.refl a) (Subs.refl as)
theorem Subs.reps {M:Nat→Prop} {R:Ref→Value→Prop} {w:World}:∀{as bs:List AV} {vs:List Value},Subs as bs→Reps M R w as vs→Reps M R w bs vs
 |_,_,[],.nil,h=>h
 |_,_,_::_,.nil,h=>by simp[Reps]at h
 |_,_,[],.cons _ _,h=>by simp[Reps]at h
 |_,_,_::_,.cons h t,hr=>.cons (h _ _ _ _ hr.head) (t.reps hr.tail)
theorem Sub.tup {as bs:List AV} (h:Subs as bs):Sub (.tup as) (.tup bs):=fun _ _ _ _ hr=>by
 obtain⟨vs,rfl,h2⟩:=hr.tup_inv;exact .of_tup (h.reps h2)
theorem Sub.agg {as bs:List AV} (h:Subs as bs):Sub (.agg as) (.agg bs):=fun _ _ _ _ hr=>by
 obtain⟨vs,rfl,h2⟩:=hr.agg_inv;exact .of_agg (h.reps h2)
section
variable {P:Program} {f:FuncId} {args args':List AV} {σ σ':St} {r r':AV}
theorem Ans.sub (h:Ans P f args σ r σ') (ha:Subs args' args) (hr:Sub r r'):Ans P f args' σ r' σ':=by
 intro M ν w vs g hvs;have key:∀v w',After M σ ν w r σ' v w'→After M σ ν w r' σ' v w':=fun v w' ⟨M',ν',g',l',r1⟩=>⟨M',ν',g',l',hr _ _ _ _ r1⟩
 rcases h M ν w vs g (ha.reps hvs) with⟨h1,h2⟩|⟨v,w',h1,h2⟩
 · exact .inl ⟨h1,h2.mono fun e w' ⟨v,he,h3⟩=>⟨v,he,key v w' h3⟩⟩
 · exact .inr ⟨v,w',h1,key v w' h2⟩
theorem Ans.subR (h:Ans P f args σ r σ') (hr:Sub r r'):Ans P f args σ r' σ':=h.sub (.refl _) hr
theorem Ans.subA (h:Ans P f args σ r σ') (ha:Subs args' args):Ans P f args' σ r σ':=h.sub ha (.refl _)
theorem Ans.shut {sz n:Nat} {xs:List AV} (h:Ans P f args σ (.osl σ.length n) (σ++[.row sz xs])) (hn:n=xs.length) (hb:Bel σ.length (.sl sz xs)):Ans P f args σ (.sl sz xs) σ:=by
 intro M ν w vs g hvs;have hget:(σ++[Ob.row sz xs])[σ.length]?=some (.row sz xs):=by simp
 have hs:sealV (σ++[Ob.row sz xs]) (.osl σ.length n)=some (.sl sz xs,(σ++[Ob.row sz xs]).set σ.length .dead):=by
  simp only[sealV,hget,hn,if_true]
 have ht:((σ++[Ob.row sz xs]).set σ.length .dead).take σ.length=σ:=by simp
 have key:∀v w',After M σ ν w (.osl σ.length n) (σ++[.row sz xs]) v w'→After M σ ν w (.sl sz xs) σ v w':=by
  rintro v w' ⟨M',ν',g',l',r1⟩;obtain⟨M2,g2,l2,r2⟩:=z4r g' hs r1;have hbo:∀o∈((σ++[Ob.row sz xs]).set σ.length .dead).take σ.length,BelO σ.length o:=by rw[ht];exact g.bel
  have g3:=g2.take hbo;have l3:=(l'.trans l2).take (m:=σ.length) (Nat.le_refl _);have r3:=r2.take hb;rw[ht]at g3 l3 r3;exact⟨M2,ν',g3,l3,r3⟩
 rcases h M ν w vs g hvs with⟨h1,h2⟩|⟨v,w',h1,h2⟩
 · exact .inl ⟨h1,h2.mono fun e w' ⟨v,he,h3⟩=>⟨v,he,key v w' h3⟩⟩
 · exact .inr ⟨v,w',h1,key v w' h2⟩
theorem Reps.split {M:Nat→Prop} {R:Ref→Value→Prop} {w:World}:∀{a b:List AV} {vs:List Value},Reps M R w (a++b) vs→∃us ws,vs=us++ws∧Reps M R w a us∧Reps M R w b ws
 |[],b,vs,h=>⟨[],vs,rfl,.nil,h⟩
 |x::a,b,[],h=>by simp[Reps]at h
 |x::a,b,v::vs,h=>by
  obtain⟨us,ws,rfl,h1,h2⟩:=Reps.split (a:=a) (b:=b) h.tail;exact⟨v::us,ws,rfl,.cons h.head h1,h2⟩
end
end Go.Ab
namespace Go.Cod
open Go
abbrev Byt:=List UInt8
abbrev Rd (α:Type):=Byt→Option (α×Byt)
structure Fits {α:Type} (rd:Rd α) (wr:α→Byt) (ok:α→Prop):Prop where
 fwd:∀a t,ok a→rd (wr a++t)=some (a,t)
 bwd:∀b a t,rd b=some (a,t)→ok a∧b=wr a++t
def putN (n:Nat):Byt:=if h:n<128 then[n.toUInt8] else(n%128+128).toUInt8::putN (n/128)
termination_by n
decreasing_by omega
theorem z3M {n:Nat} (h:n<128):putN n=[n.toUInt8]:=by rw[putN];simp[h]
theorem z65 {n:Nat} (h:¬n<128):putN n=(n%128+128).toUInt8::putN (n/128):=by rw[putN];simp[h]
theorem z4T (n:Nat):putN n≠[]:=by
 by_cases h:n<128
 · rw[z3M h];simp
 · rw[z65 h];simp
def getN:Nat→Rd Nat
 |_,[]=>none
 |i,c::t=>if(i=9∧1<c.toNat)∨(0<i∧c.toNat=0) then none else
  if c.toNat<128 then some (c.toNat,t) else(getN (i+1) t).map fun p=>(c.toNat-128+128*p.1,p.2)
theorem toNat_toUInt8 {n:Nat} (h:n<256):n.toUInt8.toNat=n:=by
 simp only[Nat.toUInt8,UInt8.toNat_ofNat'];omega
theorem toUInt8_toNat (c:UInt8):c.toNat.toUInt8=c:=by simp[Nat.toUInt8]
theorem zeV:∀(n i:Nat) (t:Byt),i≤9→n<2^(64-7*i)→(0<i→0<n)→getN i (putN n++t)=some (n,t):=by
 intro n
 induction n using Nat.strongRecOn with
 |ind n ih =>
  intro i t hi hn h0;by_cases h:n<128
  · rw[z3M h];simp only[List.cons_append,List.nil_append,getN,toNat_toUInt8 (show n<256 by omega)]
    rw[if_neg,if_pos h];rintro(⟨rfl,h1⟩|⟨h1,h2⟩)
    · simp at hn;omega
    · have:=h0 h1;omega
  · rw[z65 h]
    have hi9:i<9:=by
     rcases Nat.lt_or_eq_of_le hi with h1|rfl
     · exact h1
     · simp at hn;omega
    have hc:(n%128+128).toUInt8.toNat=n%128+128:=toNat_toUInt8 (by omega)
    simp only[List.cons_append,getN,hc];rw[if_neg (by omega),if_neg (by omega)]
    have e:64-7*i=7+(64-7*(i+1)):=by omega
    have hd:n/128<2^(64-7*(i+1)):=by
     rw[e,Nat.pow_add]at hn;exact Nat.div_lt_of_lt_mul (by simpa using hn)
    rw[ih (n/128) (by omega) (i+1) t (by omega) hd (fun _=>by omega)]
    simp only[Option.map_some];congr 2
    omega
theorem z5o:∀(b:Byt) (i n:Nat) (t:Byt),i≤9→getN i b=some (n,t)→b=putN n++t∧n<2^(64-7*i)∧(0<i→0<n):=by
 intro b
 induction b with
 |nil=>intro i n t _ h;simp[getN]at h
 |cons c b ih =>
  intro i n t hi h;simp only[getN]at h;split at h
  · cases h
  · rename_i hc;have hlt:c.toNat<256:=c.toNat_lt;split at h
    · rename_i h1;simp only[Option.some.injEq,Prod.mk.injEq]at h;obtain⟨rfl,rfl⟩:=h;refine⟨by rw[z3M h1,toUInt8_toNat];rfl,?_,by omega⟩
      rcases Nat.lt_or_eq_of_le hi with h2|rfl
      · have:7≤64-7*i:=by omega
        calc c.toNat<2^7:=by omega
         _≤2^(64-7*i):=Nat.pow_le_pow_right (by decide) this
      · simp;omega
    · rename_i h1
      have hi9:i<9:=by
       rcases Nat.lt_or_eq_of_le hi with h2|rfl
       · exact h2
       · omega
      cases hg:getN (i+1) b with
      |none=>simp[hg]at h
      |some p =>
       obtain⟨m,u⟩:=p;simp only[hg,Option.map_some,Option.some.injEq,Prod.mk.injEq]at h;obtain⟨rfl,rfl⟩:=h;obtain⟨e,hm,h0⟩:=ih (i+1) m u (by omega) hg
       have hpos:=h0 (by omega)
       have hx:¬(c.toNat-128+128*m<128):=by omega
       refine⟨?_,?_,by omega⟩
       · rw[z65 hx,show(c.toNat-128+128*m)/128=m by omega,show(c.toNat-128+128*m)%128+128=c.toNat by omega,toUInt8_toNat,e]
         rfl
       · have e2:64-7*i=7+(64-7*(i+1)):=by omega
         rw[e2,Nat.pow_add];have:c.toNat-128<128:=by omega
         omega
theorem zaz {i:Nat} {b:Byt} {n:Nat} {t:Byt} (h:getN i b=some (n,t)):t.length<b.length:=by
 induction b generalizing i n t with
 |nil=>simp[getN]at h
 |cons c b ih =>
  simp only[getN]at h;split at h
  · cases h
  · split at h
    · simp only[Option.some.injEq,Prod.mk.injEq]at h;rw[h.2];simp
    · cases hg:getN (i+1) b with
      |none=>simp[hg]at h
      |some p =>
       obtain⟨m,u⟩:=p;simp only[hg,Option.map_some,Option.some.injEq,Prod.mk.injEq]at h;have:=ih hg;rw[←h.2];simp;omega
def numR (most:Nat):Rd Nat:=fun b=>(getN 0 b).bind fun p=>if p.1≤most then some p else none
theorem z24 {most:Nat} (hm:most<2^64):Fits (numR most) putN (fun n=>n≤most) where
 fwd n t h:=by
  have hn:n<2^(64-7*0):=by simp only[Nat.mul_zero,Nat.sub_zero];omega
  simp only[numR,zeV n 0 t (by omega) hn (by omega),Option.bind_some,h,if_true]
 bwd b n t h:=by
  simp only[numR]at h
  cases hg:getN 0 b with
  |none=>simp[hg]at h
  |some p =>
   obtain⟨m,u⟩:=p;simp only[hg,Option.bind_some]at h;split at h
   · rename_i hle;simp only[Option.some.injEq,Prod.mk.injEq]at h;obtain⟨rfl,rfl⟩:=h;exact⟨hle,(z5o b 0 m u (by omega) hg).1⟩
   · cases h
def textR (most:Nat):Rd ByteArray:=fun b=>(numR most b).bind fun p=>if p.1≤p.2.length then some (⟨(p.2.take p.1).toArray⟩,p.2.drop p.1) else none
def txtB (s:ByteArray):Byt:=putN s.size++s.data.toList
theorem z3j (s:ByteArray):s.data.toList.length=s.size:=Array.length_toList
theorem z1B {most:Nat} (hm:most<2^64):Fits (textR most) txtB (fun s=>s.size≤most) where
 fwd s t h:=by
  simp only[textR,txtB,List.append_assoc,(z24 hm).fwd s.size _ h,Option.bind_some,List.length_append,z3j];rw[if_pos (by omega)]
  congr 2
  · rw[List.take_left' (z3j s)]
  · rw[List.drop_left' (z3j s)]
 bwd b s t h:=by
  simp only[textR]at h
  cases hg:numR most b with
  |none=>simp[hg]at h
  |some p =>
   obtain⟨m,u⟩:=p;simp only[hg,Option.bind_some]at h;split at h
   · rename_i hle;simp only[Option.some.injEq,Prod.mk.injEq]at h;obtain⟨rfl,rfl⟩:=h;obtain⟨h1,h2⟩:=(z24 hm).bwd b m u hg;have hs:(⟨(u.take m).toArray⟩:ByteArray).size=m:=by show(u.take m).toArray.size=m;rw[List.size_toArray,List.length_take];omega
     refine⟨by rw[hs];exact h1,?_⟩
     rw[h2,txtB,hs];simp
   · cases h
def byteR:Rd UInt8
 |[]=>none
 |c::t=>some (c,t)
theorem byte_fits:Fits byteR (fun c=>[c]) (fun _=>True) where
 fwd c t _:=rfl
 bwd b c t h:=by
  cases b with
  |nil=>cases h
  |cons d b=>simp only[byteR,Option.some.injEq,Prod.mk.injEq]at h;obtain⟨rfl,rfl⟩:=h;exact⟨trivial,rfl⟩
def wrdB (w:Nat):Byt:=[(w/2^56).toUInt8,(w/2^48).toUInt8,(w/2^40).toUInt8,(w/2^32).toUInt8,(w/2^24).toUInt8,(w/2^16).toUInt8,(w/2^8).toUInt8,w.toUInt8]
def wordR:Rd Nat
 |a::b::c::d::e::f::g::h::t=>some (((((((a.toNat*256+b.toNat)*256+c.toNat)*256+d.toNat)*256+e.toNat)*256+f.toNat)*256+g.toNat)*256+h.toNat,t)
 |_=>none
theorem toUInt8_mod (n:Nat):n.toUInt8.toNat=n%256:=by simp[Nat.toUInt8]
theorem zcW:Fits wordR wrdB (fun w=>w<2^64) where
 fwd w t h:=by
  simp only[wrdB,List.cons_append,List.nil_append,wordR,toUInt8_mod];congr 2
  omega
 bwd b w t h:=by
  match b,h with
  |a::b::c::d::e::f::g::i::u,h =>
   simp only[wordR,Option.some.injEq,Prod.mk.injEq]at h;obtain⟨hw,rfl⟩:=h;have:=a.toNat_lt;have:=b.toNat_lt;have:=c.toNat_lt;have:=d.toNat_lt;have:=e.toNat_lt;have:=f.toNat_lt;have:=g.toNat_lt;have:=i.toNat_lt;refine⟨by omega,?_⟩
   have key:∀(x:UInt8) (n:Nat),n%256=x.toNat→n.toUInt8=x:=fun x n hn=>by
    apply UInt8.toNat_inj.1;rw[toUInt8_mod,hn]
   simp only[wrdB,List.cons_append,List.nil_append];rw[key a _ (by omega),key b _ (by omega),key c _ (by omega),key d _ (by omega),key e _ (by omega),key f _ (by omega),key g _ (by omega),key i _ (by omega)]
section
variable {α β:Type} {rd:Rd α} {wr:α→Byt} {ok:α→Prop}
theorem Fits.rest (h:Fits rd wr ok) {b:Byt} {a:α} {t:Byt} (hr:rd b=some (a,t)):t.length≤b.length∧b.drop (b.length-t.length)=t∧(wr a).length=b.length-t.length:=by
 have:=(h.bwd b a t hr).2;subst this;simp
def seqR (r1:Rd α) (r2:Rd β):Rd (α×β):=fun b=>(r1 b).bind fun p=>(r2 p.2).map fun q=>((p.1,q.1),q.2)
theorem z16 {r1:Rd α} {w1:α→Byt} {ok1:α→Prop} {r2:Rd β} {w2:β→Byt} {ok2:β→Prop} (h1:Fits r1 w1 ok1) (h2:Fits r2 w2 ok2) :
  Fits (seqR r1 r2) (fun p=>w1 p.1++w2 p.2) (fun p=>ok1 p.1∧ok2 p.2) where
 fwd p t h:=by simp only[seqR,List.append_assoc,h1.fwd _ _ h.1,Option.bind_some,h2.fwd _ _ h.2,Option.map_some]
 bwd b p t h:=by
  simp only[seqR]at h
  cases ha:r1 b with
  |none=>simp[ha]at h
  |some x =>
   obtain⟨a,u⟩:=x;simp only[ha,Option.bind_some]at h
   cases hb:r2 u with
   |none=>simp[hb]at h
   |some y =>
    obtain⟨c,v⟩:=y;simp only[hb,Option.map_some,Option.some.injEq,Prod.mk.injEq]at h;obtain⟨rfl,rfl⟩:=h;obtain⟨o1,rfl⟩:=h1.bwd _ _ _ ha;obtain⟨o2,rfl⟩:=h2.bwd _ _ _ hb;exact⟨⟨o1,o2⟩,by rw[List.append_assoc]⟩
def onlyR (r:Rd α) (p:α→Bool):Rd α:=fun b=>(r b).bind fun x=>if p x.1 then some x else none
theorem z3k (h:Fits rd wr ok) (p:α→Bool):Fits (onlyR rd p) wr (fun a=>ok a∧p a=true) where
 fwd a t ho:=by simp only[onlyR,h.fwd a t ho.1,Option.bind_some,ho.2,if_true]
 bwd b a t hr:=by
  simp only[onlyR]at hr
  cases ha:rd b with
  |none=>simp[ha]at hr
  |some x =>
   simp only[ha,Option.bind_some]at hr;split at hr
   · rename_i hp;simp only[Option.some.injEq]at hr;subst hr;exact⟨⟨(h.bwd _ _ _ ha).1,hp⟩,(h.bwd _ _ _ ha).2⟩
   · cases hr
theorem Fits.weaken {ok':α→Prop} (h:Fits rd wr ok) (he:∀a,ok a↔ok' a):Fits rd wr ok':=⟨fun a t ho=>h.fwd a t ((he a).2 ho),fun b a t hr=>⟨(he a).1 (h.bwd b a t hr).1,(h.bwd b a t hr).2⟩⟩
def z0Y (r:Rd α) (f:α→β):Rd β:=fun b=>(r b).map fun p=>(f p.1,p.2)
theorem dress_fits (h:Fits rd wr ok) {f:α→β} {g:β→α} {ok':β→Prop} {wr':β→Byt} (hf:∀a,ok a→ok' (f a)∧wr' (f a)=wr a) (hg:∀b,ok' b→ok (g b)∧f (g b)=b):Fits (z0Y rd f) wr' ok' where
 fwd b t hb:=by
  obtain⟨h1,h2⟩:=hg b hb;have:=(hf _ h1).2;rw[h2]at this;simp only[z0Y,this,h.fwd _ _ h1,Option.map_some,h2]
 bwd b x t hr:=by
  simp only[z0Y]at hr
  cases ha:rd b with
  |none=>simp[ha]at hr
  |some p =>
   simp only[ha,Option.map_some,Option.some.injEq,Prod.mk.injEq]at hr;obtain⟨rfl,rfl⟩:=hr;obtain⟨h1,h2⟩:=h.bwd _ _ _ ha;exact⟨(hf _ h1).1,by rw[(hf _ h1).2];exact h2⟩
def manyR (r:Rd α):Nat→Rd (List α)
 |0=>fun b=>some ([],b)
 |n+1=>fun b=>(r b).bind fun p=>(manyR r n p.2).map fun q=>(p.1::q.1,q.2)
def z1d (wr:α→Byt) (l:List α):Byt:=l.flatMap wr
theorem zaA (h:Fits rd wr ok):∀(l:List α) (t:Byt),(∀a∈l,ok a)→manyR rd l.length (z1d wr l++t)=some (l,t)
 |[],t,_=>rfl
 |a::l,t,ho=>by
  simp only[List.length_cons,manyR,z1d,List.flatMap_cons,List.append_assoc,h.fwd a _ (ho a (by simp)),Option.bind_some]
  have:=zaA h l t fun x hx=>ho x (by simp[hx])
  simp only[z1d]at this;rw[this];rfl
theorem zaB (h:Fits rd wr ok):∀(n:Nat) (b:Byt) (l:List α) (t:Byt),manyR rd n b=some (l,t)→l.length=n∧(∀a∈l,ok a)∧b=z1d wr l++t
 |0,b,l,t,hr=>by
  simp only[manyR,Option.some.injEq,Prod.mk.injEq]at hr;obtain⟨rfl,rfl⟩:=hr;exact⟨rfl,by simp,rfl⟩
 |n+1,b,l,t,hr=>by
  simp only[manyR]at hr
  cases ha:rd b with
  |none=>simp[ha]at hr
  |some p =>
   simp only[ha,Option.bind_some]at hr
   cases hm:manyR rd n p.2 with
   |none=>simp[hm]at hr
   |some q =>
    simp only[hm,Option.map_some,Option.some.injEq,Prod.mk.injEq]at hr;obtain⟨rfl,rfl⟩:=hr;obtain⟨h1,h2⟩:=h.bwd b p.1 p.2 ha;obtain⟨h3,h4,h5⟩:=zaB h n p.2 q.1 q.2 hm;refine⟨by simp[h3],fun a hx=>?_,?_⟩
    · rcases List.mem_cons.1 hx with rfl|hx
      · exact h1
      · exact h4 a hx
    · rw[h2,h5];simp[z1d,List.append_assoc]
def rowR (most:Nat) (r:Rd α):Rd (List α):=fun b=>(numR most b).bind fun p=>manyR r p.1 p.2
def z2K (wr:α→Byt) (l:List α):Byt:=putN l.length++z1d wr l
theorem z7s {most:Nat} (hm:most<2^64) (h:Fits rd wr ok):Fits (rowR most rd) (z2K wr) (fun l=>l.length≤most∧∀a∈l,ok a) where
 fwd l t ho:=by simp only[rowR,z2K,List.append_assoc,(z24 hm).fwd _ _ ho.1,Option.bind_some,zaA h l t ho.2]
 bwd b l t hr:=by
  simp only[rowR]at hr
  cases ha:numR most b with
  |none=>simp[ha]at hr
  |some p =>
   simp only[ha,Option.bind_some]at hr;obtain⟨h1,h2⟩:=(z24 hm).bwd b p.1 p.2 ha;obtain⟨h3,h4,h5⟩:=zaB h p.1 p.2 l t hr;exact⟨⟨by rw[h3];exact h1,h4⟩,by rw[h2,h5,z2K,h3,List.append_assoc]⟩
theorem Fits.cut (h:Fits rd wr ok) {a:α} (ho:ok a) {k:Nat} (hk:k<(wr a).length):rd ((wr a).take k)=none:=by
 cases hr:rd ((wr a).take k) with
 |none=>rfl
 |some p =>
  obtain⟨x,t⟩:=p;obtain⟨h1,h2⟩:=h.bwd _ _ _ hr;have h3:wr a=wr x++(t++(wr a).drop k):=by rw[←List.append_assoc,←h2,List.take_append_drop]
  have h4:=h.fwd a [] ho;rw[List.append_nil,h3,h.fwd x _ h1]at h4;simp only[Option.some.injEq,Prod.mk.injEq,List.append_eq_nil_iff,List.drop_eq_nil_iff]at h4;omega
theorem Fits.apart (h:Fits rd wr ok) {a b:α} (ha:ok a) (hb:ok b) (he:wr a=wr b):a=b:=by
 have h1:=h.fwd a [] ha;rw[he,h.fwd b [] hb]at h1;simpa using h1.symm
end
def took (q:Nat×Bool) (n:Nat) (ok:Bool):Nat×Bool:=if q.2|| !ok then(q.1,true) else(q.1+n,false)
def runR {α:Type} (rd:Rd α) (z:α) (b:Byt) (q:Nat×Bool):α×(Nat×Bool) :=
 if q.2 then(z,q) else match rd (b.drop q.1) with
  |none=>(z,(q.1,true))
  |some p=>(p.1,(b.length-p.2.length,false))
theorem z0Q {α:Type} (rd:Rd α) (z:α) (b:Byt) (a:Nat):runR rd z b (a,true)=(z,(a,true)):=rfl
theorem z1j {α:Type} {rd:Rd α} {z:α} {b:Byt} {a:Nat} (h:rd (b.drop a)=none):runR rd z b (a,false)=(z,(a,true)):=by simp[runR,h]
theorem z14 {α:Type} {rd:Rd α} {z:α} {b:Byt} {a:Nat} {x:α} {t:Byt} (h:rd (b.drop a)=some (x,t)):runR rd z b (a,false)=(x,(b.length-t.length,false)):=by simp[runR,h]
def Inb (b:Byt) (q:Nat×Bool):Prop:=q.1≤b.length
theorem z0l {α:Type} (rd:Rd α) (z:α) (b:Byt) (q:Nat×Bool) (h:Inb b q):Inb b (runR rd z b q).2:=by
 unfold runR Inb at *;split
 · exact h
 · split
   · exact h
   · simp only;omega
theorem z1n (b:Byt) (q:Nat×Bool) (ok:Bool) (h:Inb b q):Inb b (took q 0 ok):=by
 unfold took Inb at *;split
 · exact h
 · exact h
def EndsR {α:Type} (rd:Rd α):Prop:=∀b x t,rd b=some (x,t)→∃w,b=w++t
section
variable {α β:Type}
theorem Fits.ends {rd:Rd α} {wr:α→Byt} {ok:α→Prop} (h:Fits rd wr ok):EndsR rd:=fun b x t hr=>⟨_,(h.bwd b x t hr).2⟩
theorem EndsR.drop {rd:Rd α} (h:EndsR rd) {b:Byt} {a:Nat} {x:α} {t:Byt} (ha:a≤b.length) (hr:rd (b.drop a)=some (x,t)) :
  b.drop (b.length-t.length)=t∧a≤b.length-t.length∧t.length≤b.length:=by
 obtain⟨w,hw⟩:=h _ _ _ hr;have hl:b.length-a=w.length+t.length:=by rw[←List.length_drop,hw,List.length_append]
 have e:b.length-t.length=a+w.length:=by omega
 refine⟨?_,by omega,by omega⟩
 rw[e,←List.drop_drop,hw,List.drop_left]
structure StepsR (b:Byt) (rd:Rd α) (st:Nat×Bool→α×(Nat×Bool)):Prop where
 some_:∀a x t,a≤b.length→rd (b.drop a)=some (x,t)→st (a,false)=(x,(b.length-t.length,false))
 none_:∀a,a≤b.length→rd (b.drop a)=none→(st (a,false)).2.2=true
 bad:∀a,(st (a,true)).2.2=true
 inb:∀q,Inb b q→Inb b (st q).2
theorem z0q (b:Byt) (rd:Rd α) (z:α):StepsR b rd (runR rd z b) where
 some_ a x t _ h:=z14 h
 none_ a _ h:=by rw[z1j h]
 bad a:=rfl
 inb:=z0l rd z b
theorem z3t {st:Nat×Bool→α×(Nat×Bool)} (h:∀a,(st (a,true)).2.2=true) (q:Nat×Bool) (hq:q.2=true):(st q).2.2=true:=by
 obtain⟨a,b⟩:=q;subst hq;exact h a
def seqSt (s1:Nat×Bool→α×(Nat×Bool)) (s2:Nat×Bool→β×(Nat×Bool)) (q:Nat×Bool):(α×β)×(Nat×Bool):=(((s1 q).1,(s2 (s1 q).2).1),(s2 (s1 q).2).2)
theorem z0G {b:Byt} {r1:Rd α} {r2:Rd β} {s1:Nat×Bool→α×(Nat×Bool)} {s2:Nat×Bool→β×(Nat×Bool)} (h1:StepsR b r1 s1) (h2:StepsR b r2 s2) (he:EndsR r1) :
  StepsR b (seqR r1 r2) (seqSt s1 s2) where
 some_ a x t ha h:=by
  simp only[seqR]at h
  cases h3:r1 (b.drop a) with
  |none=>simp[h3]at h
  |some p =>
   obtain⟨y,u⟩:=p;simp only[h3,Option.bind_some]at h
   cases h4:r2 u with
   |none=>simp[h4]at h
   |some p2 =>
    obtain⟨z,v⟩:=p2;simp only[h4,Option.map_some,Option.some.injEq,Prod.mk.injEq]at h;obtain⟨rfl,rfl⟩:=h;obtain⟨e1,e2,e3⟩:=he.drop ha h3;have e4:=h2.some_ (b.length-u.length) z v (by omega) (by rw[e1];exact h4)
    simp only[seqSt,h1.some_ a y u ha h3,e4]
 none_ a ha h:=by
  simp only[seqR]at h
  cases h3:r1 (b.drop a) with
  |none=>exact z3t h2.bad _ (h1.none_ a ha h3)
  |some p =>
   obtain⟨y,u⟩:=p;simp only[h3,Option.bind_some]at h
   cases h4:r2 u with
   |some p2=>simp[h4]at h
   |none =>
    obtain⟨e1,e2,e3⟩:=he.drop ha h3;have e4:=h2.none_ (b.length-u.length) (by omega) (by rw[e1];exact h4)
    simp only[seqSt,h1.some_ a y u ha h3,e4]
 bad a:=z3t h2.bad _ (h1.bad a)
 inb q hq:=h2.inb _ (h1.inb q hq)
theorem z1X {r1:Rd α} {r2:Rd β} (h1:EndsR r1) (h2:EndsR r2):EndsR (seqR r1 r2):=fun b x t h=>by
 simp only[seqR]at h
 cases h3:r1 b with
 |none=>simp[h3]at h
 |some p =>
  simp only[h3,Option.bind_some]at h
  cases h4:r2 p.2 with
  |none=>simp[h4]at h
  |some p2 =>
   simp only[h4,Option.map_some,Option.some.injEq,Prod.mk.injEq]at h;obtain⟨rfl,rfl⟩:=h;obtain⟨w,hw⟩:=h1 _ _ _ h3;obtain⟨w2,hw2⟩:=h2 _ _ _ h4;exact⟨w++w2,by rw[hw,hw2,List.append_assoc]⟩
def z25 (s:Nat×Bool→α×(Nat×Bool)) (f:α→β) (q:Nat×Bool):β×(Nat×Bool):=(f (s q).1,(s q).2)
theorem z15 {b:Byt} {r:Rd α} {s:Nat×Bool→α×(Nat×Bool)} (h:StepsR b r s) (f:α→β):StepsR b (z0Y r f) (z25 s f) where
 some_ a x t ha hr:=by
  simp only[z0Y]at hr
  cases h3:r (b.drop a) with
  |none=>simp[h3]at hr
  |some p =>
   simp only[h3,Option.map_some,Option.some.injEq,Prod.mk.injEq]at hr;obtain⟨rfl,rfl⟩:=hr;simp only[z25,h.some_ a p.1 p.2 ha h3]
 none_ a ha hr:=by
  simp only[z0Y]at hr
  cases h3:r (b.drop a) with
  |none=>exact h.none_ a ha h3
  |some p=>simp[h3]at hr
 bad a:=h.bad a
 inb q hq:=h.inb q hq
theorem z1s {r:Rd α} (h:EndsR r) (f:α→β):EndsR (z0Y r f):=fun b x t hr=>by
 simp only[z0Y]at hr
 cases h3:r b with
 |none=>simp[h3]at hr
 |some p =>
  simp only[h3,Option.map_some,Option.some.injEq,Prod.mk.injEq]at hr;obtain⟨rfl,rfl⟩:=hr;exact h _ _ _ h3
def z0M (s:Nat×Bool→α×(Nat×Bool)) (p:α→Bool) (q:Nat×Bool):α×(Nat×Bool):=((s q).1,took (s q).2 0 (p (s q).1))
theorem z18 {b:Byt} {r:Rd α} {s:Nat×Bool→α×(Nat×Bool)} (h:StepsR b r s) (p:α→Bool):StepsR b (onlyR r p) (z0M s p) where
 some_ a x t ha hr:=by
  simp only[onlyR]at hr
  cases h3:r (b.drop a) with
  |none=>simp[h3]at hr
  |some y =>
   simp only[h3,Option.bind_some]at hr;split at hr
   · rename_i hp;simp only[Option.some.injEq]at hr;subst hr;simp only[z0M,h.some_ a x t ha h3,took,hp,Bool.not_true,Bool.or_false,Bool.false_eq_true,if_false,Nat.add_zero]
   · cases hr
 none_ a ha hr:=by
  simp only[onlyR]at hr;simp only[z0M,took]
  cases h3:r (b.drop a) with
  |none=>simp[h.none_ a ha h3]
  |some y =>
   simp only[h3,Option.bind_some]at hr;split at hr
   · cases hr
   · rename_i hp;simp[h.some_ a y.1 y.2 ha h3,hp]
 bad a:=by simp[z0M,took,h.bad a]
 inb q hq:=z1n b _ _ (h.inb q hq)
theorem z4C {r:Rd α} (h:EndsR r) (p:α→Bool):EndsR (onlyR r p):=fun b x t hr=>by
 simp only[onlyR]at hr
 cases h3:r b with
 |none=>simp[h3]at hr
 |some y =>
  simp only[h3,Option.bind_some]at hr;split at hr
  · simp only[Option.some.injEq]at hr;subst hr;exact h _ _ _ h3
  · cases hr
def itSt (s:Nat×Bool→α×(Nat×Bool)) (q:Nat×Bool):Nat→List α×(Nat×Bool)
 |0=>([],q)
 |n+1=>((itSt s q n).1++[(s (itSt s q n).2).1],(s (itSt s q n).2).2)
theorem z3u (s:Nat×Bool→α×(Nat×Bool)) (q:Nat×Bool):∀n,(itSt s q n).1.length=n
 |0=>rfl
 |n+1=>by simp[itSt,z3u s q n]
theorem z2x {b:Byt} {s:Nat×Bool→α×(Nat×Bool)} (h:∀q,Inb b q→Inb b (s q).2) (q:Nat×Bool) (hq:Inb b q):∀n,Inb b (itSt s q n).2
 |0=>hq
 |n+1=>h _ (z2x h q hq n)
theorem z67 (r:Rd α):∀(n:Nat) (b:Byt),manyR r (n+1) b=(manyR r n b).bind fun p=>(r p.2).map fun x=>(p.1++[x.1],x.2)
 |0,b=>by
  simp only[manyR,Option.bind_some,List.nil_append]
  cases r b with
  |none=>rfl
  |some p=>rfl
 |n+1,b=>by
  have ih:=z67 r n;have e1:manyR r (n+1+1) b=(r b).bind fun p=>(manyR r (n+1) p.2).map fun q=>(p.1::q.1,q.2):=rfl
  have e2:manyR r (n+1) b=(r b).bind fun p=>(manyR r n p.2).map fun q=>(p.1::q.1,q.2):=rfl
  rw[e1,e2]
  cases r b with
  |none=>rfl
  |some p =>
   simp only[Option.bind_some,ih]
   cases manyR r n p.2 with
   |none=>rfl
   |some x =>
    simp only[Option.bind_some,Option.map_some]
    cases r x.2 with
    |none=>rfl
    |some y=>rfl
theorem z4D {r:Rd α} (h:EndsR r):∀n,EndsR (manyR r n)
 |0,b,x,t,hr=>by
  simp only[manyR,Option.some.injEq,Prod.mk.injEq]at hr;exact⟨[],by rw[hr.2];rfl⟩
 |n+1,b,x,t,hr=>by
  simp only[manyR]at hr
  cases h3:r b with
  |none=>simp[h3]at hr
  |some p =>
   simp only[h3,Option.bind_some]at hr
   cases h4:manyR r n p.2 with
   |none=>simp[h4]at hr
   |some p2 =>
    simp only[h4,Option.map_some,Option.some.injEq,Prod.mk.injEq]at hr;obtain⟨rfl,rfl⟩:=hr;obtain⟨w,hw⟩:=h _ _ _ h3;obtain⟨w2,hw2⟩:=z4D h n _ _ _ h4;exact⟨w++w2,by rw[hw,hw2,List.append_assoc]⟩
theorem z2B {b:Byt} {r:Rd α} {s:Nat×Bool→α×(Nat×Bool)} (h:StepsR b r s) (he:EndsR r):∀n,StepsR b (manyR r n) (fun q=>itSt s q n)
 |0=>{
  some_:=fun a x t ha hr=>by
   simp only[manyR,Option.some.injEq,Prod.mk.injEq]at hr;obtain⟨rfl,rfl⟩:=hr;simp only[itSt,List.length_drop];rw[show b.length-(b.length-a)=a by omega]
  none_:=fun a _ hr=>by simp[manyR]at hr
  bad:=fun a=>rfl
  inb:=fun q hq=>hq }
 |n+1=>{
  some_:=fun a x t ha hr=>by
   rw[z67]at hr
   cases h3:manyR r n (b.drop a) with
   |none=>simp[h3]at hr
   |some p =>
    obtain⟨l,u⟩:=p;simp only[h3,Option.bind_some]at hr
    cases h4:r u with
    |none=>simp[h4]at hr
    |some y =>
     obtain⟨y,v⟩:=y;simp only[h4,Option.map_some,Option.some.injEq,Prod.mk.injEq]at hr;obtain⟨rfl,rfl⟩:=hr;obtain⟨e1,e2,e3⟩:=(z4D he n).drop ha h3;have e4:=(z2B h he n).some_ a l u ha h3;have e5:=h.some_ (b.length-u.length) y v (by omega) (by rw[e1];exact h4)
     simp only[itSt,e4,e5]
  none_:=fun a ha hr=>by
   rw[z67]at hr
   cases h3:manyR r n (b.drop a) with
   |none=>exact z3t h.bad _ ((z2B h he n).none_ a ha h3)
   |some p =>
    obtain⟨l,u⟩:=p;simp only[h3,Option.bind_some]at hr
    cases h4:r u with
    |some y=>simp[h4]at hr
    |none =>
     obtain⟨e1,e2,e3⟩:=(z4D he n).drop ha h3;have e4:=(z2B h he n).some_ a l u ha h3;have e5:=h.none_ (b.length-u.length) (by omega) (by rw[e1];exact h4)
     simp only[itSt,e4,e5]
  bad:=fun a=>z3t h.bad _ ((z2B h he n).bad a)
  inb:=fun q hq=>z2x h.inb q hq (n+1) }
def rowSt (most:Nat) (b:Byt) (s:Nat×Bool→α×(Nat×Bool)) (q:Nat×Bool):List α×(Nat×Bool):=itSt s (runR (numR most) 0 b q).2 (runR (numR most) 0 b q).1
theorem ends_num (most:Nat):EndsR (numR most):=fun b x t h=>by
 simp only[numR]at h
 cases h3:getN 0 b with
 |none=>simp[h3]at h
 |some p =>
  simp only[h3,Option.bind_some]at h;split at h
  · simp only[Option.some.injEq]at h;subst h;exact⟨_,(z5o b 0 x t (by omega) h3).1⟩
  · cases h
theorem z68 {b:Byt} {r:Rd α} {s:Nat×Bool→α×(Nat×Bool)} (h:StepsR b r s) (he:EndsR r) (most:Nat):StepsR b (rowR most r) (rowSt most b s) where
 some_ a x t ha hr:=by
  simp only[rowR]at hr
  cases h3:numR most (b.drop a) with
  |none=>simp[h3]at hr
  |some p =>
   obtain⟨n,u⟩:=p;simp only[h3,Option.bind_some]at hr;obtain⟨e1,e2,e3⟩:=(ends_num most).drop ha h3;simp only[rowSt,z14 h3];exact(z2B h he n).some_ (b.length-u.length) x t (by omega) (by rw[e1];exact hr)
 none_ a ha hr:=by
  simp only[rowR]at hr
  cases h3:numR most (b.drop a) with
  |none =>
   simp only[rowSt,z1j h3];rfl
  |some p =>
   obtain⟨n,u⟩:=p;simp only[h3,Option.bind_some]at hr;obtain⟨e1,e2,e3⟩:=(ends_num most).drop ha h3;simp only[rowSt,z14 h3];exact(z2B h he n).none_ (b.length-u.length) (by omega) (by rw[e1];exact hr)
 bad a:=by
  simp only[rowSt,z0Q];rfl
 inb q hq:=z2x h.inb _ (z0l _ _ _ _ hq) _
theorem zeX {r:Rd α} (h:EndsR r) (most:Nat):EndsR (rowR most r):=fun b x t hr=>by
 simp only[rowR]at hr
 cases h3:numR most b with
 |none=>simp[h3]at hr
 |some p =>
  simp only[h3,Option.bind_some]at hr;obtain⟨w,hw⟩:=ends_num most _ _ _ h3;obtain⟨w2,hw2⟩:=z4D h _ _ _ _ hr;exact⟨w++w2,by rw[hw,hw2,List.append_assoc]⟩
theorem z0T (most:Nat):EndsR (textR most):=fun b x t h=>by
 simp only[textR]at h
 cases h3:numR most b with
 |none=>simp[h3]at h
 |some p =>
  simp only[h3,Option.bind_some]at h;split at h
  · simp only[Option.some.injEq,Prod.mk.injEq]at h;obtain⟨_,rfl⟩:=h;obtain⟨w,hw⟩:=ends_num most _ _ _ h3;exact⟨w++p.2.take p.1,by rw[List.append_assoc,List.take_append_drop];exact hw⟩
  · cases h
theorem ends_byte:EndsR byteR:=byte_fits.ends
theorem StepsR.top {b:Byt} {rd:Rd α} {st:Nat×Bool→α×(Nat×Bool)} (h:StepsR b rd st) :
  (∀x t,rd b=some (x,t)→st (0,false)=(x,(b.length-t.length,false)))∧(rd b=none→(st (0,false)).2.2=true) :=
 ⟨fun x t hr=>h.some_ 0 x t (Nat.zero_le _) hr,fun hr=>h.none_ 0 (Nat.zero_le _) hr⟩
end
end Go.Cod
