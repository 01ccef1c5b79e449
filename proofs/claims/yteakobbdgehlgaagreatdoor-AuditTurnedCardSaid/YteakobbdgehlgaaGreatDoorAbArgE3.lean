/- The abstract run as a function that can be computed: what it answers is what the call answers. No condition. -/
import Derived.Test.YteakobbdgehlgaaGreatDoorAbStepE3
import Derived.ProofKit
import Derived.Carry
import Derived.OpenShut
set_option linter.unusedSimpArgs false
set_option linter.unusedVariables false
set_option linter.unusedSectionVars false
namespace Go.Ab
open Go
def zhg:Value→Value→Bool
 |.bool a,.bool b=>a==b
 |.int k a,.int k' b=>decide (k=k')&&decide (a=b)
 |.float k a,.float k' b=>decide (k=k')&&decide (a=b)
 |.string a,.string b=>decide (a.data.toList=b.data.toList)
 |.pointer none,.pointer none=>true
 |.slice none 0 0,.slice none 0 0=>true
 |.nilFunc,.nilFunc=>true
 |.nilIface,.nilIface=>true
 |.map none,.map none=>true
 |_,_=>false
mutual
def AV.same:AV→AV→Bool
 |.any,.any=>true
 |.pl u,.pl v=>zhg u v
 |.nils,.nils=>true
 |.sl n xs,.sl m ys=>decide (n=m)&&sameL xs ys
 |.rp xs,.rp ys=>sameL xs ys
 |.ptr a b,.ptr c d=>decide (a=c)&&decide (b=d)
 |.osl a b,.osl c d=>decide (a=c)&&decide (b=d)
 |.ep a b c d,.ep a' b' c' d'=>decide (a=a')&&decide (b=b')&&decide (c=c')&&decide (d=d')
 |.psl a b c,.psl a' b' c'=>decide (a=a')&&decide (b=b')&&decide (c=c')
 |.zsl,.zsl=>true
 |.win a b c d,.win a' b' c' d'=>decide (a=a')&&decide (b=b')&&decide (c=c')&&decide (d=d')
 |.agg xs,.agg ys=>sameL xs ys
 |.tup xs,.tup ys=>sameL xs ys
 |.fn f as bs,.fn g cs ds=>decide (f=g)&&sameL as cs&&sameL bs ds
 |_,_=>false
def sameL:List AV→List AV→Bool
 |[],[]=>true
 |x::xs,y::ys=>x.same y&&sameL xs ys
 |_,_=>false
end
def AO.still:AO→Bool
 |.boxm _|.allocm _|.bsl true .. |.store .. |.app .. |.strm _|.mks .. |.copy .. |.appz .. |.slco .. |.clr .. =>false
 |_=>true
/- What is reckoned is reckoned at once: each such step hands on what it was given,brought to its form. -/
def frcL {α β:Type}:List β→(List β→α)→α
 |[],k=>k []
 |x::xs,k=>frcL xs fun ys=>k (x::ys)
@[simp] theorem frcL_eq {α β:Type}:∀(l:List β) (k:List β→α),frcL l k=k l
 |[],_=>rfl
 |x::xs,k=>by rw[frcL,frcL_eq xs]
def frcN {α:Type} (n:Nat) (k:Nat→α):α :=
 match n with
 |0=>k 0
 |m+1=>k (m+1)
@[simp] theorem frcN_eq {α:Type} (n:Nat) (k:Nat→α):frcN n k=k n:=by cases n<;>rfl
def frcI {α:Type} (n:Int) (k:Int→α):α :=
 match n with
 |.ofNat m=>frcN m fun m=>k (.ofNat m)
 |.negSucc m=>frcN m fun m=>k (.negSucc m)
@[simp] theorem frcI_eq {α:Type} (n:Int) (k:Int→α):frcI n k=k n:=by cases n<;>simp[frcI]
def frcV {α:Type} (v:AV) (k:AV→α):α :=
 match v with
 |.pl (.int d n)=>frcI n fun n=>k (.pl (.int d n))
 |.pl (.bool true)=>k (.pl (.bool true))
 |.pl (.bool false)=>k (.pl (.bool false))
 |.pl (.float d n)=>frcN n fun n=>k (.pl (.float d n))
 |.pl (.string ⟨⟨l⟩⟩)=>frcL l fun l=>k (.pl (.string ⟨⟨l⟩⟩))
 |.sl n xs=>frcL xs fun xs=>k (.sl n xs)
 |.rp xs=>frcL xs fun xs=>k (.rp xs)
 |.agg xs=>frcL xs fun xs=>k (.agg xs)
 |.tup xs=>frcL xs fun xs=>k (.tup xs)
 |.ptr a b=>frcN a fun a=>frcN b fun b=>k (.ptr a b)
 |.osl a b=>frcN a fun a=>frcN b fun b=>k (.osl a b)
 |.ep a b c d=>frcN a fun a=>frcN b fun b=>frcN c fun c=>frcN d fun d=>k (.ep a b c d)
 |.psl a b c=>frcN a fun a=>frcN b fun b=>frcN c fun c=>k (.psl a b c)
 |v=>k v
@[simp] theorem frcV_eq {α:Type} (v:AV) (k:AV→α):frcV v k=k v:=by
 unfold frcV;split<;>simp
def frcT {α:Type}:St→(St→α)→α
 |[],k=>k []
 |.box cs::s,k=>frcL cs fun cs=>frcT s fun s=>k (.box cs::s)
 |.row n cs::s,k=>frcL cs fun cs=>frcT s fun s=>k (.row n cs::s)
 |o::s,k=>frcT s fun s=>k (o::s)
@[simp] theorem frcT_eq {α:Type}:∀(l:St) (k:St→α),frcT l k=k l
 |[],_=>rfl
 |.box cs::s,k=>by simp[frcT,frcT_eq s]
 |.row n cs::s,k=>by simp[frcT,frcT_eq s]
 |.dead::s,k=>by simp[frcT,frcT_eq s]
 |.glo g vs::s,k=>by simp[frcT,frcT_eq s]
def frcO {α:Type} (o:AOp) (σ:St) (k:St→α):α :=
 match o with
 |.prim ao=>if ao.still then k σ else frcT σ k
 |.call _ _=>frcL σ k
 |.fresh _ _ _=>k σ
 |.flo _=>k σ
 |.adopt _ _ _ _=>k σ
@[simp] theorem frcO_eq {α:Type} (o:AOp) (σ:St) (k:St→α):frcO o σ k=k σ:=by
 unfold frcO;split
 · split<;>simp
 · simp
 · rfl
 · rfl
 · rfl
abbrev Run:=FuncId→List AV→St→Option (AV×St)
mutual
def belB (n:Nat):AV→Bool
 |.any|.pl _|.nils|.zsl=>true
 |.psl l _ _=>decide (l<n)
 |.win _ l _ _=>decide (l<n)
 |.sl _ xs=>belL n xs
 |.rp cs=>belL n cs
 |.ptr l _=>decide (l<n)
 |.osl l _=>decide (l<n)
 |.ep l _ _ _=>decide (l<n)
 |.agg cs=>belL n cs
 |.tup cs=>belL n cs
 |.fn _ fs cs=>belL n fs&&belL n cs
def belL (n:Nat):List AV→Bool
 |[]=>true
 |x::xs=>belB n x&&belL n xs
end
mutual
theorem zhh (n:Nat):∀a:AV,belB n a=true→Bel n a
 |.any,_=>.any
 |.pl v,_=>.pl v
 |.nils,_=>.nils
 |.sl sz xs,h=>.sl sz xs (Bel.of_mem (z3E n xs (by simpa[belB] using h)))
 |.rp cs,h=>.rp cs (Bel.of_mem (z3E n cs (by simpa[belB] using h)))
 |.ptr l o,h=>.ptr l o (by simpa[belB] using h)
 |.osl l o,h=>.osl l o (by simpa[belB] using h)
 |.ep l a b c,h=>.ep l a b c (by simpa[belB] using h)
 |.psl l a b,h=>.psl l a b (by simpa[belB] using h)
 |.zsl,_=>.zsl
 |.win a l b c,h=>.win a l b c (by simpa[belB] using h)
 |.agg cs,h=>.agg cs (Bel.of_mem (z3E n cs (by simpa[belB] using h)))
 |.tup cs,h=>.tup cs (Bel.of_mem (z3E n cs (by simpa[belB] using h)))
 |.fn f fs cs,h=>by
  simp[belB]at h;exact .fn f fs cs (Bel.of_mem (z3E n fs h.1)) (Bel.of_mem (z3E n cs h.2))
theorem z3E (n:Nat):∀xs:List AV,belL n xs=true→∀x∈xs,Bel n x
 |[],_=>by simp
 |x::xs,h=>by
  simp[belL]at h;intro y hy;rcases List.mem_cons.1 hy with hxy|hy
  · rw[hxy];exact zhh n x h.1
  · exact z3E n xs h.2 y hy
end
structure Ext (P:Program) where
 f:FuncId
 go:List AV→St→Option (AV×St)
 ok:∀args σ r σ',go args σ=some (r,σ')→Ans P f args σ r σ'
section
variable {P:Program} {run:Run} (hrun:∀f args σ r σ',run f args σ=some (r,σ')→Ans P f args σ r σ')
include hrun
end
theorem Rep.of_bel {M:Nat→Prop} {R R':Ref→Value→Prop} {w:World} {x:AV} {v:Value} (hb:Bel 0 x) (h:Rep M R w x v):Rep M R' w x v:=by
 induction h with
 |any v=>exact .any v
 |pl v=>exact .pl v
 |nils=>exact .nils
 |sl0 sz a cap=>exact .sl0 sz a cap
 |sl sz xs b o cap f hcap hc _ ih =>
  refine .sl sz xs b o cap f hcap hc fun i j hi hj=>ih i j hi hj ?_
  cases hb with
  |sl _ _ h =>
   have:=h i hi;revert hj
   cases hx:xs[i] with
   |agg cs=>intro hj;rw[hx]at this;cases this with|agg _ h'=>exact h' j hj
   |_=>intro hj;rw[hx]at this;simpa[AV.cells] using this
 |rp cs b o f hc _ ih =>
  refine .rp cs b o f hc fun j hj=>ih j hj ?_
  cases hb with
  |rp _ h=>exact h j hj
 |ptr l off b o h=>cases hb with|ptr _ _ h=>exact absurd h (Nat.not_lt_zero _)
 |osl l n a len cap h=>cases hb with|osl _ _ h=>exact absurd h (Nat.not_lt_zero _)
 |ep l n i off b o h=>cases hb with|ep _ _ _ _ h=>exact absurd h (Nat.not_lt_zero _)
 |psl l off n b o h=>cases hb with|psl _ _ _ h=>exact absurd h (Nat.not_lt_zero _)
 |zsl a=>exact .zsl a
 |win sz l n lo b o cap hl h=>cases hb with|win _ _ _ _ h=>exact absurd h (Nat.not_lt_zero _)
 |agg cs vs hl _ ih =>
  refine .agg cs vs hl fun j hj u0=>ih j hj u0 ?_
  cases hb with
  |agg _ h=>exact h j hj
 |tup cs vs hl _ ih =>
  refine .tup cs vs hl fun j hj u0=>ih j hj u0 ?_
  cases hb with
  |tup _ h=>exact h j hj
 |fn g fs cs us vs hl hl' _ _ ih ih' =>
  cases hb with
  |fn _ _ _ h h'=>exact .fn g fs cs us vs hl hl' (fun j hj u0=>ih j hj u0 (h j hj)) (fun j hj u0=>ih' j hj u0 (h' j hj))
theorem After.frame {M:Nat→Prop} {σ:St} {ν:Nat→Value} {w w':World} {r:AV} {v:Value} (g:Good M σ ν w) (h:After M [] ν w r [] v w'):After M σ ν w r σ v w':=by
 obtain⟨M',ν',g',l,hr⟩:=h
 have y0:∀b,¬Own [] ν b:=by
  rintro b ⟨i,⟨o,ho,_⟩,_⟩;simp at ho
 have hk:∀b,b<w.heap.size→w'.heap[b]?=w.heap[b]?:=fun b hb=>l.keep b hb (y0 b)
 have u0:∀b,b<w.heap.size→(M' b↔M b):=fun b hb=>⟨l.mute b hb,fun hm=>l.outer b hb hm (y0 b)⟩
 refine⟨M',ν,⟨fun i o ho=>(g.ob i o ho).mono (fun b hb hm=>⟨fun h=>hm ((u0 b hb).1 h),hk b hb⟩) (fun _ _ h=>h) (fun b j0 hd hm=>?_),g'.lt,g.apart⟩,?_,?_⟩
 · have q0:=(g.ob i o ho).lt hd j0;exact⟨(u0 b q0).2 hm,hk b q0⟩
 · exact⟨l.size,fun b hb _=>hk b hb,l.mute,fun b hb hm _=>(u0 b hb).2 hm,fun _ _ h=>h,fun _ _ h=>h,l.out⟩
 · refine hr.mono (fun b _ hm=>⟨hm,rfl⟩) fun r v h=>?_
   cases r<;>simp[RefOK]at h
theorem Ans.frame {P:Program} {f:FuncId} {args:List AV} {r:AV} (h:Ans P f args [] r []) (hb:∀a∈args,Bel 0 a) (σ:St):Ans P f args σ r σ:=by
 intro M ν w vs g hr;have g0:Good M [] ν w:=⟨fun l o ho=>by simp at ho,g.lt,fun l l' b ⟨o,ho,_⟩=>by simp at ho⟩
 have hr0:Reps M (RefOK [] ν) w args vs:=⟨hr.1,fun j hj u0=>(hr.2 j hj u0).of_bel (hb _ (List.getElem_mem hj))⟩
 rcases h M ν w vs g0 hr0 with⟨h1,h2⟩|⟨v,w',h1,h2⟩
 · refine .inl ⟨h1,?_⟩;exact h2.mono fun e w' ⟨v,he,ha⟩=>⟨v,he,ha.frame g⟩
 · exact .inr ⟨v,w',h1,h2.frame g⟩
theorem z5b {P:Program} {K:Env→St→Prop}:∀(ds:List DOper) (env:Env) (S:List St) (σ:St) (ob ob':List St→Prop),(∀T,ob T→ob' T)→axd P K ds env S σ ob→axd P K ds env S σ ob'
 |[],env,S,σ,ob,ob',h,hx=>⟨h _ hx.1,hx.2⟩
 |d::ds,env,S,σ,ob,ob',h,hx=>by
  unfold axd at hx⊢
  cases hw:wantA env d.o.guard with
  |none=>rw[hw]at hx;exact hx
  |some b =>
   rw[hw]at hx
   cases b with
   |true =>
    simp only at hx⊢;split at hx
    · rename_i he;rw[if_pos he];exact zcr (fun r s hk=>z5b ds _ _ _ _ _ h hk) hx
    · rename_i he;rw[if_neg he];obtain⟨r,h1,h2⟩:=hx;exact⟨r,h1,z5b ds _ _ _ _ _ (fun T ht=>⟨h T ht.1,ht.2⟩) h2⟩
   |false=>exact z5b ds _ _ _ _ _ h hx
section
variable {P:Program} {n0:Nat} {k:List Fr} {B:Bs} {env:Env} {S:List St} {σ:St} {ob:List St→Prop}
def CS (P:Program) (n0:Nat) (f:FuncId) (args:List AV) (d:Option Tmp) (lo hi:Nat) (l:List DOper) (k:List Fr) (B:Bs) (env:Env) (S:List St) (σ:St) (ob:List St→Prop):Prop :=
 ∃r,Ans P f args σ r σ∧D P n0 l k B (putA env d r) S σ (fun T=>ob T∧∀s∈(T.take (hi+1)).drop lo,Ans P f args s r s)
theorem z01 (d:Option Tmp) (f:Operand) (args:List Operand) (bef:List Nat) (lo hi:Nat) (l:List DOper):D P n0 (⟨⟨d,none,.call f args⟩,bef,false,lo,hi⟩::l) k B env S σ ob=(match aev env f with
  |.fn g fs cs=>CS P n0 g (fs++args.map (aev env)++cs) d lo hi l k B env S σ ob
  |_=>False):=by
 unfold CS D;simp only[axd,wantA,Bool.false_eq_true,if_false,stay];cases aev env f<;>simp
theorem CS.intro {f:FuncId} {args:List AV} {d:Option Tmp} {lo hi:Nat} {l:List DOper} {r:AV} (h:∀s,Ans P f args s r s) (h':D P n0 l k B (putA env d r) S σ ob):CS P n0 f args d lo hi l k B env S σ ob:=by
 refine⟨r,h σ,?_⟩;unfold D at h'⊢;exact z5b _ _ _ _ _ _ (fun T ht=>⟨ht,fun s _=>h s⟩) h'
end
def Sub (a b:AV):Prop:=∀(M:Nat→Prop) (R:Ref→Value→Prop) (w:World) (v:Value),Rep M R w a v→Rep M R w b v
theorem Sub.refl (a:AV):Sub a a:=fun _ _ _ _ h=>h
theorem Sub.any (a:AV):Sub a .any:=fun _ _ _ v _=>.any v
theorem Sub.nils (sz:Nat):Sub .nils (.sl sz []):=fun _ _ _ v h=>by cases h;exact .sl0 _ _ _
theorem Sub.zsl (sz:Nat):Sub .zsl (.sl sz []):=fun _ _ _ v h=>by cases h;exact .sl0 _ _ _
inductive Subs:List AV→List AV→Prop
 |nil:Subs [] []
 |cons {a b:AV} {as bs:List AV} (h:Sub a b) (t:Subs as bs):Subs (a::as) (b::bs)
theorem Subs.refl:∀as:List AV,Subs as as
 |[]=>.nil
 |a::as=>.cons (.refl a) (Subs.refl as)
theorem Subs.reps {M:Nat→Prop} {R:Ref→Value→Prop} {w:World}:∀{as bs:List AV} {vs:List Value},Subs as bs→Reps M R w as vs→Reps M R w bs vs
 |_,_,[],.nil,h=>h
 |_,_,_::_,.nil,h=>by simp[Reps]at h
 |_,_,[],.cons _ _,h=>by simp[Reps]at h
 |_,_,_::_,.cons h t,hr=>.cons (h _ _ _ _ hr.head) (t.reps hr.tail)
theorem Sub.tup {as bs:List AV} (h:Subs as bs):Sub (.tup as) (.tup bs):=fun _ _ _ _ hr=>by
 obtain⟨vs,rfl,h2⟩:=hr.tup_inv;exact .of_tup (h.reps h2)
theorem Sub.agg {as bs:List AV} (h:Subs as bs):Sub (.agg as) (.agg bs):=fun _ _ _ _ hr=>by
 obtain⟨vs,rfl,h2⟩:=hr.agg_inv;exact .of_agg (h.reps h2)
section
variable {P:Program} {f:FuncId} {args args':List AV} {σ σ':St} {r r':AV}
theorem Ans.sub (h:Ans P f args σ r σ') (ha:Subs args' args) (hr:Sub r r'):Ans P f args' σ r' σ':=by
 intro M ν w vs g hvs;have key:∀v w',After M σ ν w r σ' v w'→After M σ ν w r' σ' v w':=fun v w' ⟨M',ν',g',l',r1⟩=>⟨M',ν',g',l',hr _ _ _ _ r1⟩
 rcases h M ν w vs g (ha.reps hvs) with⟨h1,h2⟩|⟨v,w',h1,h2⟩
 · exact .inl ⟨h1,h2.mono fun e w' ⟨v,he,h3⟩=>⟨v,he,key v w' h3⟩⟩
 · exact .inr ⟨v,w',h1,key v w' h2⟩
theorem Ans.subR (h:Ans P f args σ r σ') (hr:Sub r r'):Ans P f args σ r' σ':=h.sub (.refl _) hr
theorem Ans.subA (h:Ans P f args σ r σ') (ha:Subs args' args):Ans P f args' σ r σ':=h.sub ha (.refl _)
theorem Ans.shut {sz n:Nat} {xs:List AV} (h:Ans P f args σ (.osl σ.length n) (σ++[.row sz xs])) (hn:n=xs.length) (hb:Bel σ.length (.sl sz xs)):Ans P f args σ (.sl sz xs) σ:=by
 intro M ν w vs g hvs;have u0:(σ++[Ob.row sz xs])[σ.length]?=some (.row sz xs):=by simp
 have hs:sealV (σ++[Ob.row sz xs]) (.osl σ.length n)=some (.sl sz xs,(σ++[Ob.row sz xs]).set σ.length .dead):=by
  simp only[sealV,u0,hn,if_true]
 have ht:((σ++[Ob.row sz xs]).set σ.length .dead).take σ.length=σ:=by simp
 have key:∀v w',After M σ ν w (.osl σ.length n) (σ++[.row sz xs]) v w'→After M σ ν w (.sl sz xs) σ v w':=by
  rintro v w' ⟨M',ν',g',l',r1⟩;obtain⟨M2,g2,l2,r2⟩:=z5a g' hs r1;have y0:∀o∈((σ++[Ob.row sz xs]).set σ.length .dead).take σ.length,BelO σ.length o:=by rw[ht];exact g.bel
  have g3:=g2.take y0;have l3:=(l'.trans l2).take (m:=σ.length) (Nat.le_refl _);have r3:=r2.take hb;rw[ht]at g3 l3 r3;exact⟨M2,ν',g3,l3,r3⟩
 rcases h M ν w vs g hvs with⟨h1,h2⟩|⟨v,w',h1,h2⟩
 · exact .inl ⟨h1,h2.mono fun e w' ⟨v,he,h3⟩=>⟨v,he,key v w' h3⟩⟩
 · exact .inr ⟨v,w',h1,key v w' h2⟩
theorem Reps.split {M:Nat→Prop} {R:Ref→Value→Prop} {w:World}:∀{a b:List AV} {vs:List Value},Reps M R w (a++b) vs→∃us ws,vs=us++ws∧Reps M R w a us∧Reps M R w b ws
 |[],b,vs,h=>⟨[],vs,rfl,.nil,h⟩
 |x::a,b,[],h=>by simp[Reps]at h
 |x::a,b,v::vs,h=>by
  obtain⟨us,ws,rfl,h1,h2⟩:=Reps.split (a:=a) (b:=b) h.tail;exact⟨v::us,ws,rfl,.cons h.head h1,h2⟩
end
end Go.Ab
namespace Go.Cod
abbrev Byt:=List UInt8
abbrev Rd (α:Type):=Byt→Option (α×Byt)
structure Fits {α:Type} (rd:Rd α) (wr:α→Byt) (ok:α→Prop):Prop where
 fwd:∀a t,ok a→rd (wr a++t)=some (a,t)
 bwd:∀b a t,rd b=some (a,t)→ok a∧b=wr a++t
def putN (n:Nat):Byt:=if h:n<128 then[n.toUInt8] else(n%128+128).toUInt8::putN (n/128)
termination_by n
decreasing_by omega
theorem z2w {n:Nat} (h:n<128):putN n=[n.toUInt8]:=by rw[putN];simp[h]
theorem z4L {n:Nat} (h:¬n<128):putN n=(n%128+128).toUInt8::putN (n/128):=by rw[putN];simp[h]
theorem z9t (n:Nat):putN n≠[]:=by
 by_cases h:n<128
 · rw[z2w h];simp
 · rw[z4L h];simp
def getN:Nat→Rd Nat
 |_,[]=>none
 |i,c::t=>if(i=9∧1<c.toNat)∨(0<i∧c.toNat=0) then none else
  if c.toNat<128 then some (c.toNat,t) else(getN (i+1) t).map fun p=>(c.toNat-128+128*p.1,p.2)
theorem toNat_toUInt8 {n:Nat} (h:n<256):n.toUInt8.toNat=n:=by
 simp only[Nat.toUInt8,UInt8.toNat_ofNat'];omega
theorem toUInt8_toNat (c:UInt8):c.toNat.toUInt8=c:=by simp[Nat.toUInt8]
theorem zeV:∀(n i:Nat) (t:Byt),i≤9→n<2^(64-7*i)→(0<i→0<n)→getN i (putN n++t)=some (n,t):=by
 intro n
 induction n using Nat.strongRecOn with
 |ind n ih =>
  intro i t hi hn h0;by_cases h:n<128
  · rw[z2w h];simp only[List.cons_append,List.nil_append,getN,toNat_toUInt8 (show n<256 by omega)]
    rw[if_neg,if_pos h];rintro(⟨rfl,h1⟩|⟨h1,h2⟩)
    · simp at hn;omega
    · have:=h0 h1;omega
  · rw[z4L h]
    have hi9:i<9:=by
     rcases Nat.lt_or_eq_of_le hi with h1|rfl
     · exact h1
     · simp at hn;omega
    have hc:(n%128+128).toUInt8.toNat=n%128+128:=toNat_toUInt8 (by omega)
    simp only[List.cons_append,getN,hc];rw[if_neg (by omega),if_neg (by omega)]
    have e:64-7*i=7+(64-7*(i+1)):=by omega
    have hd:n/128<2^(64-7*(i+1)):=by
     rw[e,Nat.pow_add]at hn;exact Nat.div_lt_of_lt_mul (by simpa using hn)
    rw[ih (n/128) (by omega) (i+1) t (by omega) hd (fun _=>by omega)]
    simp only[Option.map_some];congr 2
    omega
theorem z7l:∀(b:Byt) (i n:Nat) (t:Byt),i≤9→getN i b=some (n,t)→b=putN n++t∧n<2^(64-7*i)∧(0<i→0<n):=by
 intro b
 induction b with
 |nil=>intro i n t _ h;simp[getN]at h
 |cons c b ih =>
  intro i n t hi h;simp only[getN]at h;split at h
  · cases h
  · rename_i hc;have hlt:c.toNat<256:=c.toNat_lt;split at h
    · rename_i h1;simp only[Option.some.injEq,Prod.mk.injEq]at h;obtain⟨rfl,rfl⟩:=h;refine⟨by rw[z2w h1,toUInt8_toNat];rfl,?_,by omega⟩
      rcases Nat.lt_or_eq_of_le hi with h2|rfl
      · have:7≤64-7*i:=by omega
        calc c.toNat<2^7:=by omega
         _≤2^(64-7*i):=Nat.pow_le_pow_right (by decide) this
      · simp;omega
    · rename_i h1
      have hi9:i<9:=by
       rcases Nat.lt_or_eq_of_le hi with h2|rfl
       · exact h2
       · omega
      cases hg:getN (i+1) b with
      |none=>simp[hg]at h
      |some p =>
       obtain⟨m,u⟩:=p;simp only[hg,Option.map_some,Option.some.injEq,Prod.mk.injEq]at h;obtain⟨rfl,rfl⟩:=h;obtain⟨e,hm,h0⟩:=ih (i+1) m u (by omega) hg
       have u0:=h0 (by omega)
       have hx:¬(c.toNat-128+128*m<128):=by omega
       refine⟨?_,?_,by omega⟩
       · rw[z4L hx,show(c.toNat-128+128*m)/128=m by omega,show(c.toNat-128+128*m)%128+128=c.toNat by omega,toUInt8_toNat,e]
         rfl
       · have e2:64-7*i=7+(64-7*(i+1)):=by omega
         rw[e2,Nat.pow_add];have:c.toNat-128<128:=by omega
         omega
theorem zeW {i:Nat} {b:Byt} {n:Nat} {t:Byt} (h:getN i b=some (n,t)):t.length<b.length:=by
 induction b generalizing i n t with
 |nil=>simp[getN]at h
 |cons c b ih =>
  simp only[getN]at h;split at h
  · cases h
  · split at h
    · simp only[Option.some.injEq,Prod.mk.injEq]at h;rw[h.2];simp
    · cases hg:getN (i+1) b with
      |none=>simp[hg]at h
      |some p =>
       obtain⟨m,u⟩:=p;simp only[hg,Option.map_some,Option.some.injEq,Prod.mk.injEq]at h;have:=ih hg;rw[←h.2];simp;omega
def numR (most:Nat):Rd Nat:=fun b=>(getN 0 b).bind fun p=>if p.1≤most then some p else none
theorem z1i {most:Nat} (hm:most<2^64):Fits (numR most) putN (fun n=>n≤most) where
 fwd n t h:=by
  have hn:n<2^(64-7*0):=by simp only[Nat.mul_zero,Nat.sub_zero];omega
  simp only[numR,zeV n 0 t (by omega) hn (by omega),Option.bind_some,h,if_true]
 bwd b n t h:=by
  simp only[numR]at h
  cases hg:getN 0 b with
  |none=>simp[hg]at h
  |some p =>
   obtain⟨m,u⟩:=p;simp only[hg,Option.bind_some]at h;split at h
   · rename_i hle;simp only[Option.some.injEq,Prod.mk.injEq]at h;obtain⟨rfl,rfl⟩:=h;exact⟨hle,(z7l b 0 m u (by omega) hg).1⟩
   · cases h
def textR (most:Nat):Rd ByteArray:=fun b=>(numR most b).bind fun p=>if p.1≤p.2.length then some (⟨(p.2.take p.1).toArray⟩,p.2.drop p.1) else none
def txtB (s:ByteArray):Byt:=putN s.size++s.data.toList
theorem z1k (s:ByteArray):s.data.toList.length=s.size:=Array.length_toList
theorem zcF (s:ByteArray):(⟨s.data.toList.toArray⟩:ByteArray)=s:=by rw[Array.toArray_toList]
theorem z1w {most:Nat} (hm:most<2^64):Fits (textR most) txtB (fun s=>s.size≤most) where
 fwd s t h:=by
  simp only[textR,txtB,List.append_assoc,(z1i hm).fwd s.size _ h,Option.bind_some,List.length_append,z1k];rw[if_pos (by omega)]
  congr 2
  · rw[List.take_left' (z1k s)]
  · rw[List.drop_left' (z1k s)]
 bwd b s t h:=by
  simp only[textR]at h
  cases hg:numR most b with
  |none=>simp[hg]at h
  |some p =>
   obtain⟨m,u⟩:=p;simp only[hg,Option.bind_some]at h;split at h
   · rename_i hle;simp only[Option.some.injEq,Prod.mk.injEq]at h;obtain⟨rfl,rfl⟩:=h;obtain⟨h1,h2⟩:=(z1i hm).bwd b m u hg;have hs:(⟨(u.take m).toArray⟩:ByteArray).size=m:=by show(u.take m).toArray.size=m;rw[List.size_toArray,List.length_take];omega
     refine⟨by rw[hs];exact h1,?_⟩
     rw[h2,txtB,hs];simp
   · cases h
def byteR:Rd UInt8
 |[]=>none
 |c::t=>some (c,t)
theorem byte_fits:Fits byteR (fun c=>[c]) (fun _=>True) where
 fwd c t _:=rfl
 bwd b c t h:=by
  cases b with
  |nil=>cases h
  |cons d b=>simp only[byteR,Option.some.injEq,Prod.mk.injEq]at h;obtain⟨rfl,rfl⟩:=h;exact⟨trivial,rfl⟩
def wrdB (w:Nat):Byt:=[(w/2^56).toUInt8,(w/2^48).toUInt8,(w/2^40).toUInt8,(w/2^32).toUInt8,(w/2^24).toUInt8,(w/2^16).toUInt8,(w/2^8).toUInt8,w.toUInt8]
def wordR:Rd Nat
 |a::b::c::d::e::f::g::h::t=>some (((((((a.toNat*256+b.toNat)*256+c.toNat)*256+d.toNat)*256+e.toNat)*256+f.toNat)*256+g.toNat)*256+h.toNat,t)
 |_=>none
theorem toUInt8_mod (n:Nat):n.toUInt8.toNat=n%256:=by simp[Nat.toUInt8]
theorem word_fits:Fits wordR wrdB (fun w=>w<2^64) where
 fwd w t h:=by
  simp only[wrdB,List.cons_append,List.nil_append,wordR,toUInt8_mod];congr 2
  omega
 bwd b w t h:=by
  match b,h with
  |a::b::c::d::e::f::g::i::u,h =>
   simp only[wordR,Option.some.injEq,Prod.mk.injEq]at h;obtain⟨hw,rfl⟩:=h;have:=a.toNat_lt;have:=b.toNat_lt;have:=c.toNat_lt;have:=d.toNat_lt;have:=e.toNat_lt;have:=f.toNat_lt;have:=g.toNat_lt;have:=i.toNat_lt;refine⟨by omega,?_⟩
   have key:∀(x:UInt8) (n:Nat),n%256=x.toNat→n.toUInt8=x:=fun x n hn=>by
    apply UInt8.toNat_inj.1;rw[toUInt8_mod,hn]
   simp only[wrdB,List.cons_append,List.nil_append];rw[key a _ (by omega),key b _ (by omega),key c _ (by omega),key d _ (by omega),key e _ (by omega),key f _ (by omega),key g _ (by omega),key i _ (by omega)]
section
variable {α β:Type} {rd:Rd α} {wr:α→Byt} {ok:α→Prop}
theorem Fits.rest (h:Fits rd wr ok) {b:Byt} {a:α} {t:Byt} (hr:rd b=some (a,t)):t.length≤b.length∧b.drop (b.length-t.length)=t∧(wr a).length=b.length-t.length:=by
 have:=(h.bwd b a t hr).2;subst this;simp
def seqR (r1:Rd α) (r2:Rd β):Rd (α×β):=fun b=>(r1 b).bind fun p=>(r2 p.2).map fun q=>((p.1,q.1),q.2)
theorem z0N {r1:Rd α} {w1:α→Byt} {ok1:α→Prop} {r2:Rd β} {w2:β→Byt} {ok2:β→Prop} (h1:Fits r1 w1 ok1) (h2:Fits r2 w2 ok2) :
  Fits (seqR r1 r2) (fun p=>w1 p.1++w2 p.2) (fun p=>ok1 p.1∧ok2 p.2) where
 fwd p t h:=by simp only[seqR,List.append_assoc,h1.fwd _ _ h.1,Option.bind_some,h2.fwd _ _ h.2,Option.map_some]
 bwd b p t h:=by
  simp only[seqR]at h
  cases ha:r1 b with
  |none=>simp[ha]at h
  |some x =>
   obtain⟨a,u⟩:=x;simp only[ha,Option.bind_some]at h
   cases hb:r2 u with
   |none=>simp[hb]at h
   |some y =>
    obtain⟨c,v⟩:=y;simp only[hb,Option.map_some,Option.some.injEq,Prod.mk.injEq]at h;obtain⟨rfl,rfl⟩:=h;obtain⟨o1,rfl⟩:=h1.bwd _ _ _ ha;obtain⟨o2,rfl⟩:=h2.bwd _ _ _ hb;exact⟨⟨o1,o2⟩,by rw[List.append_assoc]⟩
def onlyR (r:Rd α) (p:α→Bool):Rd α:=fun b=>(r b).bind fun x=>if p x.1 then some x else none
theorem z3F (h:Fits rd wr ok) (p:α→Bool):Fits (onlyR rd p) wr (fun a=>ok a∧p a=true) where
 fwd a t ho:=by simp only[onlyR,h.fwd a t ho.1,Option.bind_some,ho.2,if_true]
 bwd b a t hr:=by
  simp only[onlyR]at hr
  cases ha:rd b with
  |none=>simp[ha]at hr
  |some x =>
   simp only[ha,Option.bind_some]at hr;split at hr
   · rename_i hp;simp only[Option.some.injEq]at hr;subst hr;exact⟨⟨(h.bwd _ _ _ ha).1,hp⟩,(h.bwd _ _ _ ha).2⟩
   · cases hr
theorem Fits.weaken {ok':α→Prop} (h:Fits rd wr ok) (he:∀a,ok a↔ok' a):Fits rd wr ok':=⟨fun a t ho=>h.fwd a t ((he a).2 ho),fun b a t hr=>⟨(he a).1 (h.bwd b a t hr).1,(h.bwd b a t hr).2⟩⟩
def z1K (r:Rd α) (f:α→β):Rd β:=fun b=>(r b).map fun p=>(f p.1,p.2)
theorem dress_fits (h:Fits rd wr ok) {f:α→β} {g:β→α} {ok':β→Prop} {wr':β→Byt} (hf:∀a,ok a→ok' (f a)∧wr' (f a)=wr a) (hg:∀b,ok' b→ok (g b)∧f (g b)=b):Fits (z1K rd f) wr' ok' where
 fwd b t hb:=by
  obtain⟨h1,h2⟩:=hg b hb;have:=(hf _ h1).2;rw[h2]at this;simp only[z1K,this,h.fwd _ _ h1,Option.map_some,h2]
 bwd b x t hr:=by
  simp only[z1K]at hr
  cases ha:rd b with
  |none=>simp[ha]at hr
  |some p =>
   simp only[ha,Option.map_some,Option.some.injEq,Prod.mk.injEq]at hr;obtain⟨rfl,rfl⟩:=hr;obtain⟨h1,h2⟩:=h.bwd _ _ _ ha;exact⟨(hf _ h1).1,by rw[(hf _ h1).2];exact h2⟩
def manyR (r:Rd α):Nat→Rd (List α)
 |0=>fun b=>some ([],b)
 |n+1=>fun b=>(r b).bind fun p=>(manyR r n p.2).map fun q=>(p.1::q.1,q.2)
def z17 (wr:α→Byt) (l:List α):Byt:=l.flatMap wr
theorem zag (h:Fits rd wr ok):∀(l:List α) (t:Byt),(∀a∈l,ok a)→manyR rd l.length (z17 wr l++t)=some (l,t)
 |[],t,_=>rfl
 |a::l,t,ho=>by
  simp only[List.length_cons,manyR,z17,List.flatMap_cons,List.append_assoc,h.fwd a _ (ho a (by simp)),Option.bind_some]
  have:=zag h l t fun x hx=>ho x (by simp[hx])
  simp only[z17]at this;rw[this];rfl
theorem zah (h:Fits rd wr ok):∀(n:Nat) (b:Byt) (l:List α) (t:Byt),manyR rd n b=some (l,t)→l.length=n∧(∀a∈l,ok a)∧b=z17 wr l++t
 |0,b,l,t,hr=>by
  simp only[manyR,Option.some.injEq,Prod.mk.injEq]at hr;obtain⟨rfl,rfl⟩:=hr;exact⟨rfl,by simp,rfl⟩
 |n+1,b,l,t,hr=>by
  simp only[manyR]at hr
  cases ha:rd b with
  |none=>simp[ha]at hr
  |some p =>
   simp only[ha,Option.bind_some]at hr
   cases hm:manyR rd n p.2 with
   |none=>simp[hm]at hr
   |some q =>
    simp only[hm,Option.map_some,Option.some.injEq,Prod.mk.injEq]at hr;obtain⟨rfl,rfl⟩:=hr;obtain⟨h1,h2⟩:=h.bwd b p.1 p.2 ha;obtain⟨h3,h4,h5⟩:=zah h n p.2 q.1 q.2 hm;refine⟨by simp[h3],fun a hx=>?_,?_⟩
    · rcases List.mem_cons.1 hx with rfl|hx
      · exact h1
      · exact h4 a hx
    · rw[h2,h5];simp[z17,List.append_assoc]
def rowR (most:Nat) (r:Rd α):Rd (List α):=fun b=>(numR most b).bind fun p=>manyR r p.1 p.2
def z2x (wr:α→Byt) (l:List α):Byt:=putN l.length++z17 wr l
theorem z7m {most:Nat} (hm:most<2^64) (h:Fits rd wr ok):Fits (rowR most rd) (z2x wr) (fun l=>l.length≤most∧∀a∈l,ok a) where
 fwd l t ho:=by simp only[rowR,z2x,List.append_assoc,(z1i hm).fwd _ _ ho.1,Option.bind_some,zag h l t ho.2]
 bwd b l t hr:=by
  simp only[rowR]at hr
  cases ha:numR most b with
  |none=>simp[ha]at hr
  |some p =>
   simp only[ha,Option.bind_some]at hr;obtain⟨h1,h2⟩:=(z1i hm).bwd b p.1 p.2 ha;obtain⟨h3,h4,h5⟩:=zah h p.1 p.2 l t hr;exact⟨⟨by rw[h3];exact h1,h4⟩,by rw[h2,h5,z2x,h3,List.append_assoc]⟩
theorem Fits.cut (h:Fits rd wr ok) {a:α} (ho:ok a) {k:Nat} (hk:k<(wr a).length):rd ((wr a).take k)=none:=by
 cases hr:rd ((wr a).take k) with
 |none=>rfl
 |some p =>
  obtain⟨x,t⟩:=p;obtain⟨h1,h2⟩:=h.bwd _ _ _ hr;have h3:wr a=wr x++(t++(wr a).drop k):=by rw[←List.append_assoc,←h2,List.take_append_drop]
  have h4:=h.fwd a [] ho;rw[List.append_nil,h3,h.fwd x _ h1]at h4;simp only[Option.some.injEq,Prod.mk.injEq,List.append_eq_nil_iff,List.drop_eq_nil_iff]at h4;omega
theorem Fits.apart (h:Fits rd wr ok) {a b:α} (ha:ok a) (hb:ok b) (he:wr a=wr b):a=b:=by
 have h1:=h.fwd a [] ha;rw[he,h.fwd b [] hb]at h1;simpa using h1.symm
end
def took (q:Nat×Bool) (n:Nat) (ok:Bool):Nat×Bool:=if q.2|| !ok then(q.1,true) else(q.1+n,false)
def runR {α:Type} (rd:Rd α) (z:α) (b:Byt) (q:Nat×Bool):α×(Nat×Bool) :=
 if q.2 then(z,q) else match rd (b.drop q.1) with
  |none=>(z,(q.1,true))
  |some p=>(p.1,(b.length-p.2.length,false))
theorem z0O {α:Type} (rd:Rd α) (z:α) (b:Byt) (a:Nat):runR rd z b (a,true)=(z,(a,true)):=rfl
theorem z0V {α:Type} {rd:Rd α} {z:α} {b:Byt} {a:Nat} (h:rd (b.drop a)=none):runR rd z b (a,false)=(z,(a,true)):=by simp[runR,h]
theorem z0L {α:Type} {rd:Rd α} {z:α} {b:Byt} {a:Nat} {x:α} {t:Byt} (h:rd (b.drop a)=some (x,t)):runR rd z b (a,false)=(x,(b.length-t.length,false)):=by simp[runR,h]
def Inb (b:Byt) (q:Nat×Bool):Prop:=q.1≤b.length
theorem z0h {α:Type} (rd:Rd α) (z:α) (b:Byt) (q:Nat×Bool) (h:Inb b q):Inb b (runR rd z b q).2:=by
 unfold runR Inb at *;split
 · exact h
 · split
   · exact h
   · simp only;omega
theorem z1r (b:Byt) (q:Nat×Bool) (ok:Bool) (h:Inb b q):Inb b (took q 0 ok):=by
 unfold took Inb at *;split
 · exact h
 · exact h
def EndsR {α:Type} (rd:Rd α):Prop:=∀b x t,rd b=some (x,t)→∃w,b=w++t
section
variable {α β:Type}
theorem Fits.ends {rd:Rd α} {wr:α→Byt} {ok:α→Prop} (h:Fits rd wr ok):EndsR rd:=fun b x t hr=>⟨_,(h.bwd b x t hr).2⟩
theorem EndsR.drop {rd:Rd α} (h:EndsR rd) {b:Byt} {a:Nat} {x:α} {t:Byt} (ha:a≤b.length) (hr:rd (b.drop a)=some (x,t)) :
  b.drop (b.length-t.length)=t∧a≤b.length-t.length∧t.length≤b.length:=by
 obtain⟨w,hw⟩:=h _ _ _ hr;have hl:b.length-a=w.length+t.length:=by rw[←List.length_drop,hw,List.length_append]
 have e:b.length-t.length=a+w.length:=by omega
 refine⟨?_,by omega,by omega⟩
 rw[e,←List.drop_drop,hw,List.drop_left]
structure StepsR (b:Byt) (rd:Rd α) (st:Nat×Bool→α×(Nat×Bool)):Prop where
 some_:∀a x t,a≤b.length→rd (b.drop a)=some (x,t)→st (a,false)=(x,(b.length-t.length,false))
 none_:∀a,a≤b.length→rd (b.drop a)=none→(st (a,false)).2.2=true
 bad:∀a,(st (a,true)).2.2=true
 inb:∀q,Inb b q→Inb b (st q).2
theorem z0i (b:Byt) (rd:Rd α) (z:α):StepsR b rd (runR rd z b) where
 some_ a x t _ h:=z0L h
 none_ a _ h:=by rw[z0V h]
 bad a:=rfl
 inb:=z0h rd z b
theorem z3i {st:Nat×Bool→α×(Nat×Bool)} (h:∀a,(st (a,true)).2.2=true) (q:Nat×Bool) (hq:q.2=true):(st q).2.2=true:=by
 obtain⟨a,b⟩:=q;subst hq;exact h a
def seqSt (s1:Nat×Bool→α×(Nat×Bool)) (s2:Nat×Bool→β×(Nat×Bool)) (q:Nat×Bool):(α×β)×(Nat×Bool):=(((s1 q).1,(s2 (s1 q).2).1),(s2 (s1 q).2).2)
theorem z0C {b:Byt} {r1:Rd α} {r2:Rd β} {s1:Nat×Bool→α×(Nat×Bool)} {s2:Nat×Bool→β×(Nat×Bool)} (h1:StepsR b r1 s1) (h2:StepsR b r2 s2) (he:EndsR r1) :
  StepsR b (seqR r1 r2) (seqSt s1 s2) where
 some_ a x t ha h:=by
  simp only[seqR]at h
  cases h3:r1 (b.drop a) with
  |none=>simp[h3]at h
  |some p =>
   obtain⟨y,u⟩:=p;simp only[h3,Option.bind_some]at h
   cases h4:r2 u with
   |none=>simp[h4]at h
   |some p2 =>
    obtain⟨z,v⟩:=p2;simp only[h4,Option.map_some,Option.some.injEq,Prod.mk.injEq]at h;obtain⟨rfl,rfl⟩:=h;obtain⟨e1,e2,e3⟩:=he.drop ha h3;have e4:=h2.some_ (b.length-u.length) z v (by omega) (by rw[e1];exact h4)
    simp only[seqSt,h1.some_ a y u ha h3,e4]
 none_ a ha h:=by
  simp only[seqR]at h
  cases h3:r1 (b.drop a) with
  |none=>exact z3i h2.bad _ (h1.none_ a ha h3)
  |some p =>
   obtain⟨y,u⟩:=p;simp only[h3,Option.bind_some]at h
   cases h4:r2 u with
   |some p2=>simp[h4]at h
   |none =>
    obtain⟨e1,e2,e3⟩:=he.drop ha h3;have e4:=h2.none_ (b.length-u.length) (by omega) (by rw[e1];exact h4)
    simp only[seqSt,h1.some_ a y u ha h3,e4]
 bad a:=z3i h2.bad _ (h1.bad a)
 inb q hq:=h2.inb _ (h1.inb q hq)
theorem z1s {r1:Rd α} {r2:Rd β} (h1:EndsR r1) (h2:EndsR r2):EndsR (seqR r1 r2):=fun b x t h=>by
 simp only[seqR]at h
 cases h3:r1 b with
 |none=>simp[h3]at h
 |some p =>
  simp only[h3,Option.bind_some]at h
  cases h4:r2 p.2 with
  |none=>simp[h4]at h
  |some p2 =>
   simp only[h4,Option.map_some,Option.some.injEq,Prod.mk.injEq]at h;obtain⟨rfl,rfl⟩:=h;obtain⟨w,hw⟩:=h1 _ _ _ h3;obtain⟨w2,u0⟩:=h2 _ _ _ h4;exact⟨w++w2,by rw[hw,u0,List.append_assoc]⟩
def z1W (s:Nat×Bool→α×(Nat×Bool)) (f:α→β) (q:Nat×Bool):β×(Nat×Bool):=(f (s q).1,(s q).2)
theorem z0W {b:Byt} {r:Rd α} {s:Nat×Bool→α×(Nat×Bool)} (h:StepsR b r s) (f:α→β):StepsR b (z1K r f) (z1W s f) where
 some_ a x t ha hr:=by
  simp only[z1K]at hr
  cases h3:r (b.drop a) with
  |none=>simp[h3]at hr
  |some p =>
   simp only[h3,Option.map_some,Option.some.injEq,Prod.mk.injEq]at hr;obtain⟨rfl,rfl⟩:=hr;simp only[z1W,h.some_ a p.1 p.2 ha h3]
 none_ a ha hr:=by
  simp only[z1K]at hr
  cases h3:r (b.drop a) with
  |none=>exact h.none_ a ha h3
  |some p=>simp[h3]at hr
 bad a:=h.bad a
 inb q hq:=h.inb q hq
theorem z1l {r:Rd α} (h:EndsR r) (f:α→β):EndsR (z1K r f):=fun b x t hr=>by
 simp only[z1K]at hr
 cases h3:r b with
 |none=>simp[h3]at hr
 |some p =>
  simp only[h3,Option.map_some,Option.some.injEq,Prod.mk.injEq]at hr;obtain⟨rfl,rfl⟩:=hr;exact h _ _ _ h3
def z0P (s:Nat×Bool→α×(Nat×Bool)) (p:α→Bool) (q:Nat×Bool):α×(Nat×Bool):=((s q).1,took (s q).2 0 (p (s q).1))
theorem z1d {b:Byt} {r:Rd α} {s:Nat×Bool→α×(Nat×Bool)} (h:StepsR b r s) (p:α→Bool):StepsR b (onlyR r p) (z0P s p) where
 some_ a x t ha hr:=by
  simp only[onlyR]at hr
  cases h3:r (b.drop a) with
  |none=>simp[h3]at hr
  |some y =>
   simp only[h3,Option.bind_some]at hr;split at hr
   · rename_i hp;simp only[Option.some.injEq]at hr;subst hr;simp only[z0P,h.some_ a x t ha h3,took,hp,Bool.not_true,Bool.or_false,Bool.false_eq_true,if_false,Nat.add_zero]
   · cases hr
 none_ a ha hr:=by
  simp only[onlyR]at hr;simp only[z0P,took]
  cases h3:r (b.drop a) with
  |none=>simp[h.none_ a ha h3]
  |some y =>
   simp only[h3,Option.bind_some]at hr;split at hr
   · cases hr
   · rename_i hp;simp[h.some_ a y.1 y.2 ha h3,hp]
 bad a:=by simp[z0P,took,h.bad a]
 inb q hq:=z1r b _ _ (h.inb q hq)
theorem z8p {r:Rd α} (h:EndsR r) (p:α→Bool):EndsR (onlyR r p):=fun b x t hr=>by
 simp only[onlyR]at hr
 cases h3:r b with
 |none=>simp[h3]at hr
 |some y =>
  simp only[h3,Option.bind_some]at hr;split at hr
  · simp only[Option.some.injEq]at hr;subst hr;exact h _ _ _ h3
  · cases hr
def itSt (s:Nat×Bool→α×(Nat×Bool)) (q:Nat×Bool):Nat→List α×(Nat×Bool)
 |0=>([],q)
 |n+1=>((itSt s q n).1++[(s (itSt s q n).2).1],(s (itSt s q n).2).2)
theorem z3j (s:Nat×Bool→α×(Nat×Bool)) (q:Nat×Bool):∀n,(itSt s q n).1.length=n
 |0=>rfl
 |n+1=>by simp[itSt,z3j s q n]
theorem z2n {b:Byt} {s:Nat×Bool→α×(Nat×Bool)} (h:∀q,Inb b q→Inb b (s q).2) (q:Nat×Bool) (hq:Inb b q):∀n,Inb b (itSt s q n).2
 |0=>hq
 |n+1=>h _ (z2n h q hq n)
theorem z5O (r:Rd α):∀(n:Nat) (b:Byt),manyR r (n+1) b=(manyR r n b).bind fun p=>(r p.2).map fun x=>(p.1++[x.1],x.2)
 |0,b=>by
  simp only[manyR,Option.bind_some,List.nil_append]
  cases r b with
  |none=>rfl
  |some p=>rfl
 |n+1,b=>by
  have ih:=z5O r n;have e1:manyR r (n+1+1) b=(r b).bind fun p=>(manyR r (n+1) p.2).map fun q=>(p.1::q.1,q.2):=rfl
  have e2:manyR r (n+1) b=(r b).bind fun p=>(manyR r n p.2).map fun q=>(p.1::q.1,q.2):=rfl
  rw[e1,e2]
  cases r b with
  |none=>rfl
  |some p =>
   simp only[Option.bind_some,ih]
   cases manyR r n p.2 with
   |none=>rfl
   |some x =>
    simp only[Option.bind_some,Option.map_some]
    cases r x.2 with
    |none=>rfl
    |some y=>rfl
theorem z4o {r:Rd α} (h:EndsR r):∀n,EndsR (manyR r n)
 |0,b,x,t,hr=>by
  simp only[manyR,Option.some.injEq,Prod.mk.injEq]at hr;exact⟨[],by rw[hr.2];rfl⟩
 |n+1,b,x,t,hr=>by
  simp only[manyR]at hr
  cases h3:r b with
  |none=>simp[h3]at hr
  |some p =>
   simp only[h3,Option.bind_some]at hr
   cases h4:manyR r n p.2 with
   |none=>simp[h4]at hr
   |some p2 =>
    simp only[h4,Option.map_some,Option.some.injEq,Prod.mk.injEq]at hr;obtain⟨rfl,rfl⟩:=hr;obtain⟨w,hw⟩:=h _ _ _ h3;obtain⟨w2,u0⟩:=z4o h n _ _ _ h4;exact⟨w++w2,by rw[hw,u0,List.append_assoc]⟩
theorem z2t {b:Byt} {r:Rd α} {s:Nat×Bool→α×(Nat×Bool)} (h:StepsR b r s) (he:EndsR r):∀n,StepsR b (manyR r n) (fun q=>itSt s q n)
 |0=>{
  some_:=fun a x t ha hr=>by
   simp only[manyR,Option.some.injEq,Prod.mk.injEq]at hr;obtain⟨rfl,rfl⟩:=hr;simp only[itSt,List.length_drop];rw[show b.length-(b.length-a)=a by omega]
  none_:=fun a _ hr=>by simp[manyR]at hr
  bad:=fun a=>rfl
  inb:=fun q hq=>hq }
 |n+1=>{
  some_:=fun a x t ha hr=>by
   rw[z5O]at hr
   cases h3:manyR r n (b.drop a) with
   |none=>simp[h3]at hr
   |some p =>
    obtain⟨l,u⟩:=p;simp only[h3,Option.bind_some]at hr
    cases h4:r u with
    |none=>simp[h4]at hr
    |some y =>
     obtain⟨y,v⟩:=y;simp only[h4,Option.map_some,Option.some.injEq,Prod.mk.injEq]at hr;obtain⟨rfl,rfl⟩:=hr;obtain⟨e1,e2,e3⟩:=(z4o he n).drop ha h3;have e4:=(z2t h he n).some_ a l u ha h3;have e5:=h.some_ (b.length-u.length) y v (by omega) (by rw[e1];exact h4)
     simp only[itSt,e4,e5]
  none_:=fun a ha hr=>by
   rw[z5O]at hr
   cases h3:manyR r n (b.drop a) with
   |none=>exact z3i h.bad _ ((z2t h he n).none_ a ha h3)
   |some p =>
    obtain⟨l,u⟩:=p;simp only[h3,Option.bind_some]at hr
    cases h4:r u with
    |some y=>simp[h4]at hr
    |none =>
     obtain⟨e1,e2,e3⟩:=(z4o he n).drop ha h3;have e4:=(z2t h he n).some_ a l u ha h3;have e5:=h.none_ (b.length-u.length) (by omega) (by rw[e1];exact h4)
     simp only[itSt,e4,e5]
  bad:=fun a=>z3i h.bad _ ((z2t h he n).bad a)
  inb:=fun q hq=>z2n h.inb q hq (n+1) }
def rowSt (most:Nat) (b:Byt) (s:Nat×Bool→α×(Nat×Bool)) (q:Nat×Bool):List α×(Nat×Bool):=itSt s (runR (numR most) 0 b q).2 (runR (numR most) 0 b q).1
theorem ends_num (most:Nat):EndsR (numR most):=fun b x t h=>by
 simp only[numR]at h
 cases h3:getN 0 b with
 |none=>simp[h3]at h
 |some p =>
  simp only[h3,Option.bind_some]at h;split at h
  · simp only[Option.some.injEq]at h;subst h;exact⟨_,(z7l b 0 x t (by omega) h3).1⟩
  · cases h
theorem z5P {b:Byt} {r:Rd α} {s:Nat×Bool→α×(Nat×Bool)} (h:StepsR b r s) (he:EndsR r) (most:Nat):StepsR b (rowR most r) (rowSt most b s) where
 some_ a x t ha hr:=by
  simp only[rowR]at hr
  cases h3:numR most (b.drop a) with
  |none=>simp[h3]at hr
  |some p =>
   obtain⟨n,u⟩:=p;simp only[h3,Option.bind_some]at hr;obtain⟨e1,e2,e3⟩:=(ends_num most).drop ha h3;simp only[rowSt,z0L h3];exact(z2t h he n).some_ (b.length-u.length) x t (by omega) (by rw[e1];exact hr)
 none_ a ha hr:=by
  simp only[rowR]at hr
  cases h3:numR most (b.drop a) with
  |none =>
   simp only[rowSt,z0V h3];rfl
  |some p =>
   obtain⟨n,u⟩:=p;simp only[h3,Option.bind_some]at hr;obtain⟨e1,e2,e3⟩:=(ends_num most).drop ha h3;simp only[rowSt,z0L h3];exact(z2t h he n).none_ (b.length-u.length) (by omega) (by rw[e1];exact hr)
 bad a:=by
  simp only[rowSt,z0O];rfl
 inb q hq:=z2n h.inb _ (z0h _ _ _ _ hq) _
theorem zf5 {r:Rd α} (h:EndsR r) (most:Nat):EndsR (rowR most r):=fun b x t hr=>by
 simp only[rowR]at hr
 cases h3:numR most b with
 |none=>simp[h3]at hr
 |some p =>
  simp only[h3,Option.bind_some]at hr;obtain⟨w,hw⟩:=ends_num most _ _ _ h3;obtain⟨w2,u0⟩:=z4o h _ _ _ _ hr;exact⟨w++w2,by rw[hw,u0,List.append_assoc]⟩
theorem z1X (most:Nat):EndsR (textR most):=fun b x t h=>by
 simp only[textR]at h
 cases h3:numR most b with
 |none=>simp[h3]at h
 |some p =>
  simp only[h3,Option.bind_some]at h;split at h
  · simp only[Option.some.injEq,Prod.mk.injEq]at h;obtain⟨_,rfl⟩:=h;obtain⟨w,hw⟩:=ends_num most _ _ _ h3;exact⟨w++p.2.take p.1,by rw[List.append_assoc,List.take_append_drop];exact hw⟩
  · cases h
theorem ends_byte:EndsR byteR:=byte_fits.ends
theorem StepsR.top {b:Byt} {rd:Rd α} {st:Nat×Bool→α×(Nat×Bool)} (h:StepsR b rd st) :
  (∀x t,rd b=some (x,t)→st (0,false)=(x,(b.length-t.length,false)))∧(rd b=none→(st (0,false)).2.2=true) :=
 ⟨fun x t hr=>h.some_ 0 x t (Nat.zero_le _) hr,fun hr=>h.none_ 0 (Nat.zero_le _) hr⟩
end
end Go.Cod
namespace Go.Ab
open Go.ChangeShapes Go.WideShapes Go.RowKit
structure Kept (W W':World):Prop where
 size:W.heap.size≤W'.heap.size
 block:∀b,b<W.heap.size→W'.heap[b]?=W.heap[b]?
 os:W'.os=W.os
 output:W'.output=W.output
theorem Kept.frame {W W':World} (h:Kept W W') (may:MemPlace→Prop):W.keptBut W' may:=by
 refine⟨h.os,h.output,fun i hi=>?_⟩
 rw[h.block i hi];split<;>simp_all
theorem Kept.same {W W':World} (h:Kept W W') {p:MemPlace} (hp:p.block<W.heap.size):W.sameAt W' p:=by
 cases p with
 |cell b o=>exact World.cell?_of_block (w:=W) (h.block b hp)
 |map b=>exact h.block b hp
abbrev noR:Ref→Value→Prop:=RefOK [] fun _=>.nilFunc
theorem z4w {H:Type} {enc:TypeId×Value→H} {P:Program} (hl:laidOutB P=true) {W W':World} (hk:Kept W W') {sp:Nat→Bool} :
  ∀{ts:List TypeId} {vs:List Value} {ds:List (DataW H)} {ps:List MemPlace},(∀t∈ts,P.readableRec t=true∧t<P.types.size)→DataW.TrodAll enc P W 0 (fun _=>true) true ts vs ds ps →
   (∀p∈ps,p.block<W.heap.size∧sp p.block=true)→DataW.TrodAll enc P W' 0 sp true ts vs ds ps
 |[],_,_,_,_,h,_=>by
  obtain⟨rfl,rfl,rfl⟩:=trodAll_nil h;rfl
 |t::ts,vs,ds,ps,ht,h,hp=>by
  obtain⟨v,vs1,d,ds1,a,b,rfl,rfl,rfl,h1,h2⟩:=trodAll_cons h
  exact⟨a,b,WideElems.Trod_stays hl (ht t (List.mem_cons_self)).1 (ht t (List.mem_cons_self)).2 h1 (fun x hx=>hk.same (hp x (by simp[hx])).1) (fun x hx=>(hp x (by simp[hx])).2),
   z4w hl hk (fun t' u0=>ht t' (List.mem_cons_of_mem _ u0)) h2 (fun x hx=>hp x (by simp[hx])),rfl⟩
theorem zfn {H:Type} {enc:TypeId×Value→H} {P:Program} {fn:Func} {s:ChangeSpec} {W W':World} {args:Array Value} {ds gs:List (DataW H)} {before:List MemPlace} {tb:TypeId}
  (hl:laidOutB P=true) (hts:∀t∈fn.params.toList,P.readableRec t=true∧t<P.types.size) (hvars:s.vars=[]) (hres:fn.resultTypes=#[tb]) (hb:P.underlying tb=some .bool)
  (hW:DataW.Whole enc P fn.params.toList s.vars false W args.toList ds gs before) (hspec:∀ds:List (DataW H),ds.length=fn.params.size→(s.fn H ds).results=[.lit (.bool true)]∧(s.fn H ds).args=ds∧(s.fn H ds).vars=[])
  (hk:Kept W W'):s.post enc P fn false true false false W args (.bool true) W':=by
 have u0:=hW.lt;obtain⟨p,q,hA,hV,rfl,hfz,hnd⟩:=id hW;have y0:=hV;rw[hvars]at y0;obtain⟨rfl,rfl⟩:=trodVars_none y0
 have hlen:ds.length=fn.params.size:=by
  have:∀{ts:List TypeId} {vs:List Value} {ds:List (DataW H)} {ps:List MemPlace},DataW.TrodAll enc P W 0 (fun _=>true) true ts vs ds ps→ds.length=ts.length:=by
   intro ts
   induction ts with
   |nil=>intro vs ds ps h;obtain⟨_,rfl,_⟩:=trodAll_nil h;rfl
   |cons t ts ih=>intro vs ds ps h;obtain⟨v,vs1,d,ds1,a,b,rfl,rfl,rfl,h1,h2⟩:=trodAll_cons h;simp[ih h2]
  simpa using this hA
 obtain⟨e1,e2,e3⟩:=hspec ds hlen;refine⟨ds,[],p++[],[],p,[],hW,?_,?_,?_,hk.frame _,fun h=>by cases h⟩
 · rw[List.append_nil,e1,hres];exact⟨[],[],shut_bool hb true,rfl,rfl⟩
 · rw[List.append_nil,e2];exact z4w hl hk hts hA fun x hx=>⟨u0 x (by simp[hx]),by simpa using u0 x (by simp[hx])⟩
 · rw[List.append_nil,e3,hvars];exact rfl
end Go.Ab
namespace Go.Ab
abbrev noM:Nat→Prop:=fun _=>False
def Reads (P:Program) (t:TypeId) (f:Nat) (Q:List AV→Prop):Prop :=
 ∀(H:Type) (enc:TypeId×Value→H) (W:World) (cs:List Value) (x:DataW H×List MemPlace),DataW.trod enc P W 0 (fun _=>true) true f t cs=some x →
  ∃xs,Reps noM noR W xs cs∧Q xs
section
variable {P:Program} {t:TypeId} {W:World}
theorem zaG:Reps noM noR W [] []:=⟨rfl,fun j h=>by simp at h⟩
theorem z3o {x:AV} {v:Value} (h:Rep noM noR W x v):Reps noM noR W [x] [v] :=
 ⟨rfl,fun j h1 h2=>by
  match j,h1,h2 with
  |0,_,_=>exact h⟩
theorem z6a {a b:List AV} {c d:List Value} (h:Reps noM noR W a c) (h':Reps noM noR W b d):Reps noM noR W (a++b) (c++d):=by
 refine⟨by simp[h.1,h'.1],fun j h1 h2=>?_⟩
 by_cases hj:j<a.length
 · rw[List.getElem_append_left hj,List.getElem_append_left (by have:=h.1;omega)]
   exact h.2 j hj _
 · have e:=h.1;simp only[List.length_append]at h1 h2;rw[List.getElem_append_right (by omega),List.getElem_append_right (by omega)]
   have:=h'.2 (j-a.length) (by omega) (by omega)
   simpa[e] using this
theorem Reads.mono {f:Nat} {Q Q':List AV→Prop} (h:Reads P t f Q) (hq:∀xs,Q xs→Q' xs):Reads P t f Q':=by
 intro H enc W cs x hx;obtain⟨xs,h1,h2⟩:=h H enc W cs x hx;exact⟨xs,h1,hq _ h2⟩
theorem Reads.zero {Q:List AV→Prop}:Reads P t 0 Q:=by
 intro H enc W cs x hx;simp[DataW.trod]at hx
def QInt (k:IntKind):List AV→Prop:=fun xs=>∃n,(Lit.int k n).wf=true∧xs=[.pl (.int k n)]
def QBool:List AV→Prop:=fun xs=>∃b,xs=[.pl (.bool b)]
theorem Reads.int {k:IntKind} (h:P.underlying t=some (.int k)) (f:Nat):Reads P t f (QInt k):=by
 intro H enc W cs x hx;obtain⟨n,rfl,_,hw⟩:=DataW.trod_int h hx;exact⟨_,z3o (.pl _),n,hw,rfl⟩
theorem Reads.bool (h:P.underlying t=some .bool) (f:Nat):Reads P t f QBool:=by
 intro H enc W cs x hx;obtain⟨n,rfl,_⟩:=DataW.trod_bool h hx;exact⟨_,z3o (.pl _),n,rfl⟩
def QStr:List (List AV→Prop)→List AV→Prop
 |[],xs=>xs=[]
 |Q::Qs,xs=>∃a b,xs=a++b∧Q a∧QStr Qs b
def laidF (P:Program):Nat→List Field→Option Nat
 |o,[]=>some o
 |o,f::fs=>if f.offset=o then laidF P (o+P.cellsOf f.type) fs else none
theorem zaH:∀{l:List Field} {o E:Nat},laidF P o l=some E→o≤E
 |[],o,E,h=>by simp[laidF]at h;omega
 |f::l,o,E,h=>by
  simp only[laidF]at h;split at h
  · have:=zaH h;omega
  · simp at h
theorem z4x {α:Type} (cs:List α) (o s E:Nat) (h:o+s≤E):(cs.drop o).take (E-o)=(cs.drop o).take s++(cs.drop (o+s)).take (E-(o+s)):=by
 have:E-o=s+(E-(o+s)):=by omega
 rw[this,List.take_add,List.drop_drop]
theorem z53 {H:Type} {enc:TypeId×Value→H} {cs:List Value} {n:Nat}:∀(l:List Field) (Qs:List (List AV→Prop)) (o E:Nat),laidF P o l=some E→E≤cs.length→l.length=Qs.length →
  (∀p∈l.zip Qs,Reads P p.1.type n p.2)→(∀g∈l,∃y,DataW.trod enc P W 0 (fun _=>true) true n g.type ((cs.drop g.offset).take (P.cellsOf g.type))=some y) →
  ∃xs,Reps noM noR W xs ((cs.drop o).take (E-o))∧QStr Qs xs
 |[],[],o,E,h,_,_,_,_=>by
  simp[laidF]at h;subst h;exact⟨[],by simpa using zaG,rfl⟩
 |[],_::_,_,_,_,_,h,_,_=>by simp at h
 |_::_,[],_,_,_,_,h,_,_=>by simp at h
 |g::l,Q::Qs,o,E,h,hE,hl,hr,hg=>by
  simp only[laidF]at h;split at h
  · rename_i ho;have hle:=zaH h;obtain⟨y,hy⟩:=hg g List.mem_cons_self;obtain⟨a,ha,hQ⟩:=hr (g,Q) (by simp) H enc W _ _ hy
    obtain⟨b,hb,u0⟩:=z53 l Qs _ E h hE (by simpa using hl) (fun p hp=>hr p (by simp[hp])) (fun g' y0=>hg g' (by simp[y0]))
    refine⟨a++b,?_,a,b,rfl,hQ,u0⟩;rw[z4x cs o (P.cellsOf g.type) E hle];rw[ho]at ha;exact z6a ha hb
  · simp at h
theorem Reads.struct {fs:Array Field} {Qs:List (List AV→Prop)} {f:Nat} (h:P.underlying t=some (.struct fs)) (hl:laidF P 0 fs.toList=some (P.cellsOf t)) (hq:fs.toList.length=Qs.length)
  (hr:∀p∈fs.toList.zip Qs,Reads P p.1.type f p.2):Reads P t (f+1) (QStr Qs):=by
 intro H enc W cs x hx;obtain⟨xs,n,hn,_,hlen,hxl,u0⟩:=DataW.trod_struct h hx;obtain rfl:f=n:=by omega
 obtain⟨ys,h1,h2⟩:=z53 (W:=W) (enc:=enc) (cs:=cs) fs.toList Qs 0 (P.cellsOf t) hl (by omega) hq hr (fun g hg=>by
  obtain⟨i,hi,rfl⟩:=List.getElem_of_mem hg;have y0:i<fs.size:=by simpa using hi
  have:=u0 i (fs[i]) (by simp[y0])
  rw[List.getElem?_eq_getElem (by omega)]at this
  exact⟨_,by simpa using this⟩)
 refine⟨ys,?_,h2⟩;have:(cs.drop 0).take (P.cellsOf t-0)=cs:=by simp[←hlen]
 rwa [this]at h1
theorem Reads.array {n:Nat} {e:TypeId} {Q:List AV→Prop} {f:Nat} (h:P.underlying t=some (.array n e)) (hc:n*P.cellsOf e=P.cellsOf t) (hr:Reads P e f Q):Reads P t (f+1) (QStr (List.replicate n Q)):=by
 intro H enc W cs x hx;obtain⟨xs,m,hm,_,hlen,hxl,u0⟩:=DataW.trod_array h hx;obtain rfl:f=m:=by omega
 have key:∀k,k≤n→∃xs,Reps noM noR W xs ((cs.drop ((n-k)*P.cellsOf e)).take (n*P.cellsOf e-(n-k)*P.cellsOf e))∧QStr (List.replicate k Q) xs:=by
  intro k
  induction k with
  |zero=>intro _;exact⟨[],by simpa using zaG,rfl⟩
  |succ k ih =>
   intro hk;obtain⟨b,hb,y0⟩:=ih (by omega)
   have h1:=u0 (n-(k+1)) (by omega)
   rw[List.getElem?_eq_getElem (by omega)]at h1
   obtain⟨a,ha,q0⟩:=hr H enc W _ _ h1;refine⟨a++b,?_,a,b,rfl,q0,y0⟩
   have e1:(n-(k+1))*P.cellsOf e+P.cellsOf e=(n-k)*P.cellsOf e:=by
    have:n-k=(n-(k+1))+1:=by omega
    rw[this,Nat.add_mul,Nat.one_mul]
   have e2:(n-k)*P.cellsOf e≤n*P.cellsOf e:=Nat.mul_le_mul_right _ (by omega)
   rw[z4x cs ((n-(k+1))*P.cellsOf e) (P.cellsOf e) (n*P.cellsOf e) (by omega),e1]
   exact z6a ha hb
 obtain⟨ys,h1,h2⟩:=key n (Nat.le_refl _);refine⟨ys,?_,h2⟩;have:(cs.drop ((n-n)*P.cellsOf e)).take (n*P.cellsOf e-(n-n)*P.cellsOf e)=cs:=by simp[hc,←hlen]
 rwa [this]at h1
def wrapC (ag:Bool) (y:List AV):AV:=if ag then .agg y else y.headD .any
def QSlice (sz:Nat) (ag:Bool) (Q:List AV→Prop):List AV→Prop:=fun xs =>
 xs=[.nils]∨∃ys:List (List AV),(∀y∈ys,Q y)∧ys.length≤maxLen∧xs=[.sl sz (ys.map (wrapC ag))]
theorem Reads.slice {e:TypeId} {Q:List AV→Prop} {f sz:Nat} (ag:Bool) (h:P.underlying t=some (.slice e)) (hsz:P.cellsOf e=sz) (hpos:0<sz) (hr:Reads P e f Q)
  (hQ:∀y,Q y→y.length=sz→(wrapC ag y).cells=y):Reads P t (f+1) (QSlice sz ag Q):=by
 subst hsz;intro H enc W cs x hx;rcases DataW.trod_slice h hx with⟨rfl,_⟩|⟨a,len,cap,elems,rest,n,hn,rfl,_,_,hlc,hcm,hel,hget,_,_⟩
 · exact⟨[.nils],z3o .nils,.inl rfl⟩
 · obtain rfl:f=n:=by omega
   by_cases h0:len=0
   · subst h0;exact⟨[.sl _ []],z3o (.sl0 _ _ _),.inr ⟨[],by simp,by simp,rfl⟩⟩
   have u0:∀i,i<len→∃ci:List Value,ci.length=P.cellsOf e∧(∀j,j<P.cellsOf e→W.cell? ((a.add (i*P.cellsOf e)).add j)=ci[j]?)∧∃y,Reps noM noR W y ci∧Q y:=by
    intro i hi;have h1:=hget i hi;rw[List.getElem?_eq_getElem (by omega)]at h1
    obtain⟨ci,h2,h3⟩:=Option.bind_eq_some_iff.1 h1;obtain⟨_,h4,h5⟩:=World.cells?_some h2;obtain⟨y,h6,h7⟩:=hr H enc W _ _ h3;exact⟨ci,h4,h5,y,h6,h7⟩
   have q0:a.spot=none:=by
    obtain⟨ci,h4,h5,_⟩:=u0 0 (by omega)
    have:=h5 0 hpos;rw[Nat.zero_mul]at this;simp only[Addr.add,if_true]at this;rw[List.getElem?_eq_getElem (by omega)]at this
    cases hs:a.spot with
    |none=>rfl
    |some s =>
     exfalso
     simp only[World.cell?,hs,Option.isSome_some,if_true]at this;split at this<;>simp at this
   obtain⟨b,o,sp⟩:=a;simp only at q0;subst q0
   have m0:∀k j,((⟨b,o,none⟩:Addr).add k).add j=⟨b,o+(k+j),none⟩:=by
    intro k j;unfold Addr.add;split<;>split<;>simp_all<;>omega
   let g:Nat→List AV:=fun i=>if hi:i<len then Classical.choose (Classical.choose_spec (u0 i hi)).2.2 else[]
   have hg:∀i (hi:i<len),Reps noM noR W (g i) (Classical.choose (u0 i hi))∧Q (g i):=by
    intro i hi;simp only[g,dif_pos hi];exact Classical.choose_spec (Classical.choose_spec (u0 i hi)).2.2
   have hc:∀i (hi:i<len),(Classical.choose (u0 i hi)).length=P.cellsOf e∧∀j,j<P.cellsOf e→W.cell? ⟨b,o+(i*P.cellsOf e+j),none⟩=(Classical.choose (u0 i hi))[j]?:=by
    intro i hi;have:=Classical.choose_spec (u0 i hi);exact⟨this.1,fun j hj=>by rw[←m0];exact this.2.1 j hj⟩
   have hw:∀i (hi:i<len),(wrapC ag (g i)).cells=g i:=fun i hi=>hQ _ (hg i hi).2 (by rw[(hg i hi).1.1,(hc i hi).1])
   refine⟨[.sl (P.cellsOf e) (((List.range len).map g).map (wrapC ag))],z3o ?_,.inr ⟨(List.range len).map g,?_,by simp;omega,rfl⟩⟩
   · have hl:(((List.range len).map g).map (wrapC ag)).length=len:=by simp
     have k0:∀i (hi:i<(((List.range len).map g).map (wrapC ag)).length),(((List.range len).map g).map (wrapC ag))[i]=wrapC ag (g i):=by intro i hi;simp
     have:=Rep.sl (M:=noM) (R:=noR) (w:=W) (P.cellsOf e) (((List.range len).map g).map (wrapC ag)) b o cap (fun i j=>(W.cell? ⟨b,o+(i*P.cellsOf e+j),none⟩).getD .nilFunc) (by rw[hl];exact hlc)
      (fun i j hi hj=>by
       have y0:i<len:=by rw[hl]at hi;exact hi
       rw[k0,hw i y0,(hg i y0).1.1,(hc i y0).1]at hj;refine⟨hj,id,?_⟩;rw[(hc i y0).2 j hj,List.getElem?_eq_getElem (by rw[(hc i y0).1];exact hj)]
       rfl)
      (fun i j hi hj=>by
       have y0:i<len:=by rw[hl]at hi;exact hi
       have j0:j<P.cellsOf e:=by rw[k0,hw i y0,(hg i y0).1.1,(hc i y0).1]at hj;exact hj
       have h1:=(hg i y0).1.2 j (by rw[(hg i y0).1.1,(hc i y0).1];exact j0) (by rw[(hc i y0).1];exact j0)
       simp only[(hc i y0).2 j j0,List.getElem?_eq_getElem (show j<(Classical.choose (u0 i y0)).length by rw[(hc i y0).1];exact j0),Option.getD_some]
       have e1:((((List.range len).map g).map (wrapC ag))[i]).cells=g i:=by rw[k0,hw i y0]
       simp only[e1]
       exact h1)
     rw[hl]at this;exact this
   · intro y hy;simp only[List.mem_map,List.mem_range]at hy;obtain⟨i,hi,rfl⟩:=hy;exact(hg i hi).2
theorem Reads.arg {Q:List AV→Prop} {H:Type} {enc:TypeId×Value→H} {v:Value} {d:DataW H} {ps:List MemPlace} (hr:∀f,Reads P t f Q) (hv:v.cells.toList=[v]) (h:DataW.Trod enc P W 0 (fun _=>true) true t v d ps) :
  ∃x,Rep noM noR W x v∧Q [x]:=by
 obtain⟨f,hf⟩:=h;rw[hv]at hf;obtain⟨xs,h1,h2⟩:=hr f H enc W _ _ hf
 match xs,h1 with
 |[x],h1=>exact⟨x,h1.2 0 (by simp) (by simp),h2⟩
 |[],h1=>exact absurd h1.1 (by simp)
 |_::_::_,h1=>exact absurd h1.1 (by simp)
end
end Go.Ab
