/- The abstract run as a function that can be computed: what it answers is what the call answers. No condition. -/
import Derived.Test.YtmkmhhjkdaklbaaGreatAbStepu
import Derived.ProofKit
import Derived.Carry
import Derived.OpenShut
set_option linter.unusedSimpArgs false
set_option linter.unusedVariables false
set_option linter.unusedSectionVars false
namespace Go.Ab
open Go
def z9v:Value→Value→Bool
 |.bool a,.bool b=>a==b
 |.int k a,.int k' b=>decide (k=k')&&decide (a=b)
 |.float k a,.float k' b=>decide (k=k')&&decide (a=b)
 |.string a,.string b=>decide (a.data.toList=b.data.toList)
 |.pointer none,.pointer none=>true
 |.slice none 0 0,.slice none 0 0=>true
 |.nilFunc,.nilFunc=>true
 |.nilIface,.nilIface=>true
 |.map none,.map none=>true
 |_,_=>false
theorem zbk {a b:Value} (h:z9v a b=true):a=b:=by
 unfold z9v at h;split at h<;>simp at h
 · rw[h]
 · rw[h.1,h.2]
 · rw[h.1,h.2]
 · rename_i a b;have:a.data=b.data:=h;cases a;cases b;simp at this;rw[this]
 all_goals rfl
mutual
def AV.same:AV→AV→Bool
 |.any,.any=>true
 |.pl u,.pl v=>z9v u v
 |.nils,.nils=>true
 |.sl n xs,.sl m ys=>decide (n=m)&&sameL xs ys
 |.rp xs,.rp ys=>sameL xs ys
 |.ptr a b,.ptr c d=>decide (a=c)&&decide (b=d)
 |.osl a b,.osl c d=>decide (a=c)&&decide (b=d)
 |.ep a b c d,.ep a' b' c' d'=>decide (a=a')&&decide (b=b')&&decide (c=c')&&decide (d=d')
 |.psl a b c,.psl a' b' c'=>decide (a=a')&&decide (b=b')&&decide (c=c')
 |.zsl,.zsl=>true
 |.win a b c d,.win a' b' c' d'=>decide (a=a')&&decide (b=b')&&decide (c=c')&&decide (d=d')
 |.agg xs,.agg ys=>sameL xs ys
 |.tup xs,.tup ys=>sameL xs ys
 |.fn f as bs,.fn g cs ds=>decide (f=g)&&sameL as cs&&sameL bs ds
 |_,_=>false
def sameL:List AV→List AV→Bool
 |[],[]=>true
 |x::xs,y::ys=>x.same y&&sameL xs ys
 |_,_=>false
end
mutual
theorem AV.same_eq:∀(a b:AV),a.same b=true→a=b
 |.any,b,h=>by cases b<;>simp[AV.same]at h;rfl
 |.pl u,b,h=>by cases b<;>simp[AV.same]at h;rw[zbk h]
 |.nils,b,h=>by cases b<;>simp[AV.same]at h;rfl
 |.sl n xs,b,h=>by cases b<;>simp[AV.same]at h;rw[h.1,sameL_eq _ _ h.2]
 |.rp xs,b,h=>by cases b<;>simp[AV.same]at h;rw[sameL_eq _ _ h]
 |.ptr _ _,b,h=>by cases b<;>simp[AV.same]at h;rw[h.1,h.2]
 |.osl _ _,b,h=>by cases b<;>simp[AV.same]at h;rw[h.1,h.2]
 |.ep _ _ _ _,b,h=>by cases b<;>simp[AV.same]at h;obtain⟨⟨⟨h1,h2⟩,h3⟩,h4⟩:=h;rw[h1,h2,h3,h4]
 |.psl _ _ _,b,h=>by cases b<;>simp[AV.same]at h;obtain⟨⟨h1,h2⟩,h3⟩:=h;rw[h1,h2,h3]
 |.zsl,b,h=>by cases b<;>simp[AV.same]at h;rfl
 |.win _ _ _ _,b,h=>by cases b<;>simp[AV.same]at h;obtain⟨⟨⟨h1,h2⟩,h3⟩,h4⟩:=h;rw[h1,h2,h3,h4]
 |.agg xs,b,h=>by cases b<;>simp[AV.same]at h;rw[sameL_eq _ _ h]
 |.tup xs,b,h=>by cases b<;>simp[AV.same]at h;rw[sameL_eq _ _ h]
 |.fn f as bs,b,h=>by cases b<;>simp[AV.same]at h;obtain⟨⟨h1,h2⟩,h3⟩:=h;rw[h1,sameL_eq _ _ h2,sameL_eq _ _ h3]
theorem sameL_eq:∀(a b:List AV),sameL a b=true→a=b
 |[],b,h=>by cases b<;>simp[sameL]at h;rfl
 |x::xs,b,h=>by cases b<;>simp[sameL]at h;rw[AV.same_eq _ _ h.1,sameL_eq _ _ h.2]
end
def AO.still:AO→Bool
 |.boxm _|.allocm _|.bsl true .. |.store .. |.app .. |.strm _|.mks .. |.copy .. |.appz .. |.slco .. |.clr .. =>false
 |_=>true
/- What is reckoned is reckoned at once: each such step hands on what it was given,brought to its form. -/
def frcL {α β:Type}:List β→(List β→α)→α
 |[],k=>k []
 |x::xs,k=>frcL xs fun ys=>k (x::ys)
@[simp] theorem frcL_eq {α β:Type}:∀(l:List β) (k:List β→α),frcL l k=k l
 |[],_=>rfl
 |x::xs,k=>by rw[frcL,frcL_eq xs]
def frcN {α:Type} (n:Nat) (k:Nat→α):α :=
 match n with
 |0=>k 0
 |m+1=>k (m+1)
@[simp] theorem frcN_eq {α:Type} (n:Nat) (k:Nat→α):frcN n k=k n:=by cases n<;>rfl
def frcI {α:Type} (n:Int) (k:Int→α):α :=
 match n with
 |.ofNat m=>frcN m fun m=>k (.ofNat m)
 |.negSucc m=>frcN m fun m=>k (.negSucc m)
@[simp] theorem frcI_eq {α:Type} (n:Int) (k:Int→α):frcI n k=k n:=by cases n<;>simp[frcI]
def frcV {α:Type} (v:AV) (k:AV→α):α :=
 match v with
 |.pl (.int d n)=>frcI n fun n=>k (.pl (.int d n))
 |.pl (.bool true)=>k (.pl (.bool true))
 |.pl (.bool false)=>k (.pl (.bool false))
 |.pl (.float d n)=>frcN n fun n=>k (.pl (.float d n))
 |.pl (.string ⟨⟨l⟩⟩)=>frcL l fun l=>k (.pl (.string ⟨⟨l⟩⟩))
 |.sl n xs=>frcL xs fun xs=>k (.sl n xs)
 |.rp xs=>frcL xs fun xs=>k (.rp xs)
 |.agg xs=>frcL xs fun xs=>k (.agg xs)
 |.tup xs=>frcL xs fun xs=>k (.tup xs)
 |.ptr a b=>frcN a fun a=>frcN b fun b=>k (.ptr a b)
 |.osl a b=>frcN a fun a=>frcN b fun b=>k (.osl a b)
 |.ep a b c d=>frcN a fun a=>frcN b fun b=>frcN c fun c=>frcN d fun d=>k (.ep a b c d)
 |.psl a b c=>frcN a fun a=>frcN b fun b=>frcN c fun c=>k (.psl a b c)
 |v=>k v
@[simp] theorem frcV_eq {α:Type} (v:AV) (k:AV→α):frcV v k=k v:=by
 unfold frcV;split<;>simp
def frcT {α:Type}:St→(St→α)→α
 |[],k=>k []
 |.box cs::s,k=>frcL cs fun cs=>frcT s fun s=>k (.box cs::s)
 |.row n cs::s,k=>frcL cs fun cs=>frcT s fun s=>k (.row n cs::s)
 |o::s,k=>frcT s fun s=>k (o::s)
@[simp] theorem frcT_eq {α:Type}:∀(l:St) (k:St→α),frcT l k=k l
 |[],_=>rfl
 |.box cs::s,k=>by simp[frcT,frcT_eq s]
 |.row n cs::s,k=>by simp[frcT,frcT_eq s]
 |.dead::s,k=>by simp[frcT,frcT_eq s]
 |.glo g vs::s,k=>by simp[frcT,frcT_eq s]
def frcO {α:Type} (o:AOp) (σ:St) (k:St→α):α :=
 match o with
 |.prim ao=>if ao.still then k σ else frcT σ k
 |.call _ _=>frcL σ k
 |.fresh _ _ _=>k σ
 |.flo _=>k σ
 |.adopt _ _ _ _=>k σ
@[simp] theorem frcO_eq {α:Type} (o:AOp) (σ:St) (k:St→α):frcO o σ k=k σ:=by
 unfold frcO;split
 · split<;>simp
 · simp
 · rfl
 · rfl
 · rfl
abbrev Run:=FuncId→List AV→St→Option (AV×St)
mutual
def belB (n:Nat):AV→Bool
 |.any|.pl _|.nils|.zsl=>true
 |.psl l _ _=>decide (l<n)
 |.win _ l _ _=>decide (l<n)
 |.sl _ xs=>belL n xs
 |.rp cs=>belL n cs
 |.ptr l _=>decide (l<n)
 |.osl l _=>decide (l<n)
 |.ep l _ _ _=>decide (l<n)
 |.agg cs=>belL n cs
 |.tup cs=>belL n cs
 |.fn _ fs cs=>belL n fs&&belL n cs
def belL (n:Nat):List AV→Bool
 |[]=>true
 |x::xs=>belB n x&&belL n xs
end
mutual
theorem zgK (n:Nat):∀a:AV,belB n a=true→Bel n a
 |.any,_=>.any
 |.pl v,_=>.pl v
 |.nils,_=>.nils
 |.sl sz xs,h=>.sl sz xs (Bel.of_mem (z3I n xs (by simpa[belB] using h)))
 |.rp cs,h=>.rp cs (Bel.of_mem (z3I n cs (by simpa[belB] using h)))
 |.ptr l o,h=>.ptr l o (by simpa[belB] using h)
 |.osl l o,h=>.osl l o (by simpa[belB] using h)
 |.ep l a b c,h=>.ep l a b c (by simpa[belB] using h)
 |.psl l a b,h=>.psl l a b (by simpa[belB] using h)
 |.zsl,_=>.zsl
 |.win a l b c,h=>.win a l b c (by simpa[belB] using h)
 |.agg cs,h=>.agg cs (Bel.of_mem (z3I n cs (by simpa[belB] using h)))
 |.tup cs,h=>.tup cs (Bel.of_mem (z3I n cs (by simpa[belB] using h)))
 |.fn f fs cs,h=>by
  simp[belB]at h;exact .fn f fs cs (Bel.of_mem (z3I n fs h.1)) (Bel.of_mem (z3I n cs h.2))
theorem z3I (n:Nat):∀xs:List AV,belL n xs=true→∀x∈xs,Bel n x
 |[],_=>by simp
 |x::xs,h=>by
  simp[belL]at h;intro y hy;rcases List.mem_cons.1 hy with hxy|hy
  · rw[hxy];exact zgK n x h.1
  · exact z3I n xs h.2 y hy
end
structure Ext (P:Program) where
 f:FuncId
 go:List AV→St→Option (AV×St)
 ok:∀args σ r σ',go args σ=some (r,σ')→Ans P f args σ r σ'
section
variable {P:Program} {run:Run} (hrun:∀f args σ r σ',run f args σ=some (r,σ')→Ans P f args σ r σ')
include hrun
end
theorem Rep.of_bel {M:Nat→Prop} {R R':Ref→Value→Prop} {w:World} {x:AV} {v:Value} (hb:Bel 0 x) (h:Rep M R w x v):Rep M R' w x v:=by
 induction h with
 |any v=>exact .any v
 |pl v=>exact .pl v
 |nils=>exact .nils
 |sl0 sz a cap=>exact .sl0 sz a cap
 |sl sz xs b o cap f hcap hc _ ih =>
  refine .sl sz xs b o cap f hcap hc fun i j hi hj=>ih i j hi hj ?_
  cases hb with
  |sl _ _ h =>
   have:=h i hi;revert hj
   cases hx:xs[i] with
   |agg cs=>intro hj;rw[hx]at this;cases this with|agg _ h'=>exact h' j hj
   |_=>intro hj;rw[hx]at this;simpa[AV.cells] using this
 |rp cs b o f hc _ ih =>
  refine .rp cs b o f hc fun j hj=>ih j hj ?_
  cases hb with
  |rp _ h=>exact h j hj
 |ptr l off b o h=>cases hb with|ptr _ _ h=>exact absurd h (Nat.not_lt_zero _)
 |osl l n a len cap h=>cases hb with|osl _ _ h=>exact absurd h (Nat.not_lt_zero _)
 |ep l n i off b o h=>cases hb with|ep _ _ _ _ h=>exact absurd h (Nat.not_lt_zero _)
 |psl l off n b o h=>cases hb with|psl _ _ _ h=>exact absurd h (Nat.not_lt_zero _)
 |zsl a=>exact .zsl a
 |win sz l n lo b o cap hl h=>cases hb with|win _ _ _ _ h=>exact absurd h (Nat.not_lt_zero _)
 |agg cs vs hl _ ih =>
  refine .agg cs vs hl fun j hj hj'=>ih j hj hj' ?_
  cases hb with
  |agg _ h=>exact h j hj
 |tup cs vs hl _ ih =>
  refine .tup cs vs hl fun j hj hj'=>ih j hj hj' ?_
  cases hb with
  |tup _ h=>exact h j hj
 |fn g fs cs us vs hl hl' _ _ ih ih' =>
  cases hb with
  |fn _ _ _ h h'=>exact .fn g fs cs us vs hl hl' (fun j hj hj'=>ih j hj hj' (h j hj)) (fun j hj hj'=>ih' j hj hj' (h' j hj))
theorem After.frame {M:Nat→Prop} {σ:St} {ν:Nat→Value} {w w':World} {r:AV} {v:Value} (g:Good M σ ν w) (h:After M [] ν w r [] v w'):After M σ ν w r σ v w':=by
 obtain⟨M',ν',g',l,hr⟩:=h
 have hno:∀b,¬Own [] ν b:=by
  rintro b ⟨i,⟨o,ho,_⟩,_⟩;simp at ho
 have hk:∀b,b<w.heap.size→w'.heap[b]?=w.heap[b]?:=fun b hb=>l.keep b hb (hno b)
 have hMM:∀b,b<w.heap.size→(M' b↔M b):=fun b hb=>⟨l.mute b hb,fun hm=>l.outer b hb hm (hno b)⟩
 refine⟨M',ν,⟨fun i o ho=>(g.ob i o ho).mono (fun b hb hm=>⟨fun h=>hm ((hMM b hb).1 h),hk b hb⟩) (fun _ _ h=>h) (fun b hbl hd hm=>?_),g'.lt,g.apart⟩,?_,?_⟩
 · have hlt:=(g.ob i o ho).lt hd hbl;exact⟨(hMM b hlt).2 hm,hk b hlt⟩
 · exact⟨l.size,fun b hb _=>hk b hb,l.mute,fun b hb hm _=>(hMM b hb).2 hm,fun _ _ h=>h,fun _ _ h=>h,l.out⟩
 · refine hr.mono (fun b _ hm=>⟨hm,rfl⟩) fun r v h=>?_
   cases r<;>simp[RefOK]at h
theorem Ans.frame {P:Program} {f:FuncId} {args:List AV} {r:AV} (h:Ans P f args [] r []) (hb:∀a∈args,Bel 0 a) (σ:St):Ans P f args σ r σ:=by
 intro M ν w vs g hr;have g0:Good M [] ν w:=⟨fun l o ho=>by simp at ho,g.lt,fun l l' b ⟨o,ho,_⟩=>by simp at ho⟩
 have hr0:Reps M (RefOK [] ν) w args vs:=⟨hr.1,fun j hj hj'=>(hr.2 j hj hj').of_bel (hb _ (List.getElem_mem hj))⟩
 rcases h M ν w vs g0 hr0 with⟨h1,h2⟩|⟨v,w',h1,h2⟩
 · refine .inl ⟨h1,?_⟩;exact h2.mono fun e w' ⟨v,he,ha⟩=>⟨v,he,ha.frame g⟩
 · exact .inr ⟨v,w',h1,h2.frame g⟩
theorem z5i {P:Program} {K:Env→St→Prop}:∀(ds:List DOper) (env:Env) (S:List St) (σ:St) (ob ob':List St→Prop),(∀T,ob T→ob' T)→axd P K ds env S σ ob→axd P K ds env S σ ob'
 |[],env,S,σ,ob,ob',h,hx=>⟨h _ hx.1,hx.2⟩
 |d::ds,env,S,σ,ob,ob',h,hx=>by
  unfold axd at hx⊢
  cases hw:wantA env d.o.guard with
  |none=>rw[hw]at hx;exact hx
  |some b =>
   rw[hw]at hx
   cases b with
   |true =>
    simp only at hx⊢;split at hx
    · rename_i he;rw[if_pos he];exact zch (fun r s hk=>z5i ds _ _ _ _ _ h hk) hx
    · rename_i he;rw[if_neg he];obtain⟨r,h1,h2⟩:=hx;exact⟨r,h1,z5i ds _ _ _ _ _ (fun T ht=>⟨h T ht.1,ht.2⟩) h2⟩
   |false=>exact z5i ds _ _ _ _ _ h hx
section
variable {P:Program} {n0:Nat} {k:List Fr} {B:Bs} {env:Env} {S:List St} {σ:St} {ob:List St→Prop}
def CS (P:Program) (n0:Nat) (f:FuncId) (args:List AV) (d:Option Tmp) (lo hi:Nat) (l:List DOper) (k:List Fr) (B:Bs) (env:Env) (S:List St) (σ:St) (ob:List St→Prop):Prop :=
 ∃r,Ans P f args σ r σ∧D P n0 l k B (putA env d r) S σ (fun T=>ob T∧∀s∈(T.take (hi+1)).drop lo,Ans P f args s r s)
theorem z00 (d:Option Tmp) (f:Operand) (args:List Operand) (bef:List Nat) (lo hi:Nat) (l:List DOper):D P n0 (⟨⟨d,none,.call f args⟩,bef,false,lo,hi⟩::l) k B env S σ ob=(match aev env f with
  |.fn g fs cs=>CS P n0 g (fs++args.map (aev env)++cs) d lo hi l k B env S σ ob
  |_=>False):=by
 unfold CS D;simp only[axd,wantA,Bool.false_eq_true,if_false,stay];cases aev env f<;>simp
theorem CS.intro {f:FuncId} {args:List AV} {d:Option Tmp} {lo hi:Nat} {l:List DOper} {r:AV} (h:∀s,Ans P f args s r s) (h':D P n0 l k B (putA env d r) S σ ob):CS P n0 f args d lo hi l k B env S σ ob:=by
 refine⟨r,h σ,?_⟩;unfold D at h'⊢;exact z5i _ _ _ _ _ _ (fun T ht=>⟨ht,fun s _=>h s⟩) h'
end
end Go.Ab
namespace Go.Ab
open Go Go.ChangeShapes Go.WideShapes Go.RowKit
structure Kept (W W':World):Prop where
 size:W.heap.size≤W'.heap.size
 block:∀b,b<W.heap.size→W'.heap[b]?=W.heap[b]?
 os:W'.os=W.os
 output:W'.output=W.output
theorem Kept.frame {W W':World} (h:Kept W W') (may:MemPlace→Prop):W.keptBut W' may:=by
 refine⟨h.os,h.output,fun i hi=>?_⟩
 rw[h.block i hi];split<;>simp_all
theorem Kept.same {W W':World} (h:Kept W W') {p:MemPlace} (hp:p.block<W.heap.size):W.sameAt W' p:=by
 cases p with
 |cell b o=>exact World.cell?_of_block (w:=W) (h.block b hp)
 |map b=>exact h.block b hp
theorem zeT (W:World) (ν:Nat→Value):Good (fun _=>False) [] ν W :=
 ⟨fun l o h=>by simp at h,fun b h=>h.elim,fun l l' b h=>by obtain⟨o,h,_⟩:=h;simp at h⟩
abbrev noR:Ref→Value→Prop:=RefOK [] fun _=>.nilFunc
theorem Ans.law {P : Program} {f : FuncId} {fn : Func} {args : List AV} {r : AV} {σ' : St} (hf : P.funcs[f]? = some fn) (hname : (fn.name == "runtime.NumGoroutine") = false) (hbody : fn.body.isNone = false)
  (h:Ans P f args [] r σ') {W:World} {vs:List Value} (hv:Reps (fun _=>False) noR W args vs) :
  Calls P f vs.toArray W fun e W'=>∃v,e=.returned v∧Kept W W'∧∃M' R',Rep M' R' W' r v:=by
 rcases h _ _ W vs (zeT W _) hv with⟨_,h⟩|⟨v,w',h,_⟩
 · refine h.mono fun e W' ⟨v,he,M',ν',g',l',hr⟩=>⟨v,he,⟨l'.size,fun b hb=>l'.keep b hb ?_,l'.out.1,l'.out.2⟩,M',_,hr⟩
   rintro⟨l,⟨o,ho,_⟩,_⟩;simp at ho
 · exfalso
   have h1 : fn.name ≠ "runtime.NumGoroutine" := by simpa using hname
   have h2:fn.body≠none:=by intro e;simp[e]at hbody
   simp[callFunc,hf,h1,h2]at h
theorem z4A {H:Type} {enc:TypeId×Value→H} {P:Program} (hl:laidOutB P=true) {W W':World} (hk:Kept W W') {sp:Nat→Bool} :
  ∀{ts:List TypeId} {vs:List Value} {ds:List (DataW H)} {ps:List MemPlace},(∀t∈ts,P.readableRec t=true∧t<P.types.size)→DataW.TrodAll enc P W 0 (fun _=>true) true ts vs ds ps →
   (∀p∈ps,p.block<W.heap.size∧sp p.block=true)→DataW.TrodAll enc P W' 0 sp true ts vs ds ps
 |[],_,_,_,_,h,_=>by
  obtain⟨rfl,rfl,rfl⟩:=trodAll_nil h;rfl
 |t::ts,vs,ds,ps,ht,h,hp=>by
  obtain⟨v,vs1,d,ds1,a,b,rfl,rfl,rfl,h1,h2⟩:=trodAll_cons h
  exact⟨a,b,WideElems.Trod_stays hl (ht t (List.mem_cons_self)).1 (ht t (List.mem_cons_self)).2 h1 (fun x hx=>hk.same (hp x (by simp[hx])).1) (fun x hx=>(hp x (by simp[hx])).2),
   z4A hl hk (fun t' ht'=>ht t' (List.mem_cons_of_mem _ ht')) h2 (fun x hx=>hp x (by simp[hx])),rfl⟩
theorem zeU {H:Type} {enc:TypeId×Value→H} {P:Program} {fn:Func} {s:ChangeSpec} {W W':World} {args:Array Value} {ds gs:List (DataW H)} {before:List MemPlace} {tb:TypeId}
  (hl:laidOutB P=true) (hts:∀t∈fn.params.toList,P.readableRec t=true∧t<P.types.size) (hvars:s.vars=[]) (hres:fn.resultTypes=#[tb]) (hb:P.underlying tb=some .bool)
  (hW:DataW.Whole enc P fn.params.toList s.vars false W args.toList ds gs before) (hspec:∀ds:List (DataW H),ds.length=fn.params.size→(s.fn H ds).results=[.lit (.bool true)]∧(s.fn H ds).args=ds∧(s.fn H ds).vars=[])
  (hk:Kept W W'):s.post enc P fn false true false false W args (.bool true) W':=by
 have hlt:=hW.lt;obtain⟨p,q,hA,hV,rfl,hfz,hnd⟩:=id hW;have hV':=hV;rw[hvars]at hV';obtain⟨rfl,rfl⟩:=trodVars_none hV'
 have hlen:ds.length=fn.params.size:=by
  have:∀{ts:List TypeId} {vs:List Value} {ds:List (DataW H)} {ps:List MemPlace},DataW.TrodAll enc P W 0 (fun _=>true) true ts vs ds ps→ds.length=ts.length:=by
   intro ts
   induction ts with
   |nil=>intro vs ds ps h;obtain⟨_,rfl,_⟩:=trodAll_nil h;rfl
   |cons t ts ih=>intro vs ds ps h;obtain⟨v,vs1,d,ds1,a,b,rfl,rfl,rfl,h1,h2⟩:=trodAll_cons h;simp[ih h2]
  simpa using this hA
 obtain⟨e1,e2,e3⟩:=hspec ds hlen;refine⟨ds,[],p++[],[],p,[],hW,?_,?_,?_,hk.frame _,fun h=>by cases h⟩
 · rw[List.append_nil,e1,hres];exact⟨[],[],shut_bool hb true,rfl,rfl⟩
 · rw[List.append_nil,e2];exact z4A hl hk hts hA fun x hx=>⟨hlt x (by simp[hx]),by simpa using hlt x (by simp[hx])⟩
 · rw[List.append_nil,e3,hvars];exact rfl
end Go.Ab
namespace Go.Ab
open Go Go.ChangeShapes Go.WideShapes
abbrev noM:Nat→Prop:=fun _=>False
def Reads (P:Program) (t:TypeId) (f:Nat) (Q:List AV→Prop):Prop :=
 ∀(H:Type) (enc:TypeId×Value→H) (W:World) (cs:List Value) (x:DataW H×List MemPlace),DataW.trod enc P W 0 (fun _=>true) true f t cs=some x →
  ∃xs,Reps noM noR W xs cs∧Q xs
section
variable {P:Program} {t:TypeId} {W:World}
theorem zax:Reps noM noR W [] []:=⟨rfl,fun j h=>by simp at h⟩
theorem z3s {x:AV} {v:Value} (h:Rep noM noR W x v):Reps noM noR W [x] [v] :=
 ⟨rfl,fun j h1 h2=>by
  match j,h1,h2 with
  |0,_,_=>exact h⟩
theorem z64 {a b:List AV} {c d:List Value} (h:Reps noM noR W a c) (h':Reps noM noR W b d):Reps noM noR W (a++b) (c++d):=by
 refine⟨by simp[h.1,h'.1],fun j h1 h2=>?_⟩
 by_cases hj:j<a.length
 · rw[List.getElem_append_left hj,List.getElem_append_left (by have:=h.1;omega)]
   exact h.2 j hj _
 · have e:=h.1;simp only[List.length_append]at h1 h2;rw[List.getElem_append_right (by omega),List.getElem_append_right (by omega)]
   have:=h'.2 (j-a.length) (by omega) (by omega)
   simpa[e] using this
theorem Reads.mono {f:Nat} {Q Q':List AV→Prop} (h:Reads P t f Q) (hq:∀xs,Q xs→Q' xs):Reads P t f Q':=by
 intro H enc W cs x hx;obtain⟨xs,h1,h2⟩:=h H enc W cs x hx;exact⟨xs,h1,hq _ h2⟩
theorem Reads.zero {Q:List AV→Prop}:Reads P t 0 Q:=by
 intro H enc W cs x hx;simp[DataW.trod]at hx
def QInt (k:IntKind):List AV→Prop:=fun xs=>∃n,(Lit.int k n).wf=true∧xs=[.pl (.int k n)]
def QBool:List AV→Prop:=fun xs=>∃b,xs=[.pl (.bool b)]
theorem Reads.int {k:IntKind} (h:P.underlying t=some (.int k)) (f:Nat):Reads P t f (QInt k):=by
 intro H enc W cs x hx;obtain⟨n,rfl,_,hw⟩:=DataW.trod_int h hx;exact⟨_,z3s (.pl _),n,hw,rfl⟩
theorem Reads.bool (h:P.underlying t=some .bool) (f:Nat):Reads P t f QBool:=by
 intro H enc W cs x hx;obtain⟨n,rfl,_⟩:=DataW.trod_bool h hx;exact⟨_,z3s (.pl _),n,rfl⟩
def QStr:List (List AV→Prop)→List AV→Prop
 |[],xs=>xs=[]
 |Q::Qs,xs=>∃a b,xs=a++b∧Q a∧QStr Qs b
def laidF (P:Program):Nat→List Field→Option Nat
 |o,[]=>some o
 |o,f::fs=>if f.offset=o then laidF P (o+P.cellsOf f.type) fs else none
theorem zay:∀{l:List Field} {o E:Nat},laidF P o l=some E→o≤E
 |[],o,E,h=>by simp[laidF]at h;omega
 |f::l,o,E,h=>by
  simp only[laidF]at h;split at h
  · have:=zay h;omega
  · simp at h
theorem z4B {α:Type} (cs:List α) (o s E:Nat) (h:o+s≤E):(cs.drop o).take (E-o)=(cs.drop o).take s++(cs.drop (o+s)).take (E-(o+s)):=by
 have:E-o=s+(E-(o+s)):=by omega
 rw[this,List.take_add,List.drop_drop]
theorem z57 {H:Type} {enc:TypeId×Value→H} {cs:List Value} {n:Nat}:∀(l:List Field) (Qs:List (List AV→Prop)) (o E:Nat),laidF P o l=some E→E≤cs.length→l.length=Qs.length →
  (∀p∈l.zip Qs,Reads P p.1.type n p.2)→(∀g∈l,∃y,DataW.trod enc P W 0 (fun _=>true) true n g.type ((cs.drop g.offset).take (P.cellsOf g.type))=some y) →
  ∃xs,Reps noM noR W xs ((cs.drop o).take (E-o))∧QStr Qs xs
 |[],[],o,E,h,_,_,_,_=>by
  simp[laidF]at h;subst h;exact⟨[],by simpa using zax,rfl⟩
 |[],_::_,_,_,_,_,h,_,_=>by simp at h
 |_::_,[],_,_,_,_,h,_,_=>by simp at h
 |g::l,Q::Qs,o,E,h,hE,hl,hr,hg=>by
  simp only[laidF]at h;split at h
  · rename_i ho;have hle:=zay h;obtain⟨y,hy⟩:=hg g List.mem_cons_self;obtain⟨a,ha,hQ⟩:=hr (g,Q) (by simp) H enc W _ _ hy
    obtain⟨b,hb,hQs⟩:=z57 l Qs _ E h hE (by simpa using hl) (fun p hp=>hr p (by simp[hp])) (fun g' hg'=>hg g' (by simp[hg']))
    refine⟨a++b,?_,a,b,rfl,hQ,hQs⟩;rw[z4B cs o (P.cellsOf g.type) E hle];rw[ho]at ha;exact z64 ha hb
  · simp at h
theorem Reads.struct {fs:Array Field} {Qs:List (List AV→Prop)} {f:Nat} (h:P.underlying t=some (.struct fs)) (hl:laidF P 0 fs.toList=some (P.cellsOf t)) (hq:fs.toList.length=Qs.length)
  (hr:∀p∈fs.toList.zip Qs,Reads P p.1.type f p.2):Reads P t (f+1) (QStr Qs):=by
 intro H enc W cs x hx;obtain⟨xs,n,hn,_,hlen,hxl,hget⟩:=DataW.trod_struct h hx;obtain rfl:f=n:=by omega
 obtain⟨ys,h1,h2⟩:=z57 (W:=W) (enc:=enc) (cs:=cs) fs.toList Qs 0 (P.cellsOf t) hl (by omega) hq hr (fun g hg=>by
  obtain⟨i,hi,rfl⟩:=List.getElem_of_mem hg;have hi':i<fs.size:=by simpa using hi
  have:=hget i (fs[i]) (by simp[hi'])
  rw[List.getElem?_eq_getElem (by omega)]at this
  exact⟨_,by simpa using this⟩)
 refine⟨ys,?_,h2⟩;have:(cs.drop 0).take (P.cellsOf t-0)=cs:=by simp[←hlen]
 rwa [this]at h1
theorem Reads.array {n:Nat} {e:TypeId} {Q:List AV→Prop} {f:Nat} (h:P.underlying t=some (.array n e)) (hc:n*P.cellsOf e=P.cellsOf t) (hr:Reads P e f Q):Reads P t (f+1) (QStr (List.replicate n Q)):=by
 intro H enc W cs x hx;obtain⟨xs,m,hm,_,hlen,hxl,hget⟩:=DataW.trod_array h hx;obtain rfl:f=m:=by omega
 have key:∀k,k≤n→∃xs,Reps noM noR W xs ((cs.drop ((n-k)*P.cellsOf e)).take (n*P.cellsOf e-(n-k)*P.cellsOf e))∧QStr (List.replicate k Q) xs:=by
  intro k
  induction k with
  |zero=>intro _;exact⟨[],by simpa using zax,rfl⟩
  |succ k ih =>
   intro hk;obtain⟨b,hb,hQb⟩:=ih (by omega)
   have h1:=hget (n-(k+1)) (by omega)
   rw[List.getElem?_eq_getElem (by omega)]at h1
   obtain⟨a,ha,hQa⟩:=hr H enc W _ _ h1;refine⟨a++b,?_,a,b,rfl,hQa,hQb⟩
   have e1:(n-(k+1))*P.cellsOf e+P.cellsOf e=(n-k)*P.cellsOf e:=by
    have:n-k=(n-(k+1))+1:=by omega
    rw[this,Nat.add_mul,Nat.one_mul]
   have e2:(n-k)*P.cellsOf e≤n*P.cellsOf e:=Nat.mul_le_mul_right _ (by omega)
   rw[z4B cs ((n-(k+1))*P.cellsOf e) (P.cellsOf e) (n*P.cellsOf e) (by omega),e1]
   exact z64 ha hb
 obtain⟨ys,h1,h2⟩:=key n (Nat.le_refl _);refine⟨ys,?_,h2⟩;have:(cs.drop ((n-n)*P.cellsOf e)).take (n*P.cellsOf e-(n-n)*P.cellsOf e)=cs:=by simp[hc,←hlen]
 rwa [this]at h1
def wrapC (ag:Bool) (y:List AV):AV:=if ag then .agg y else y.headD .any
def QSlice (sz:Nat) (ag:Bool) (Q:List AV→Prop):List AV→Prop:=fun xs =>
 xs=[.nils]∨∃ys:List (List AV),(∀y∈ys,Q y)∧ys.length≤maxLen∧xs=[.sl sz (ys.map (wrapC ag))]
theorem Reads.slice {e:TypeId} {Q:List AV→Prop} {f sz:Nat} (ag:Bool) (h:P.underlying t=some (.slice e)) (hsz:P.cellsOf e=sz) (hpos:0<sz) (hr:Reads P e f Q)
  (hQ:∀y,Q y→y.length=sz→(wrapC ag y).cells=y):Reads P t (f+1) (QSlice sz ag Q):=by
 subst hsz;intro H enc W cs x hx;rcases DataW.trod_slice h hx with⟨rfl,_⟩|⟨a,len,cap,elems,rest,n,hn,rfl,_,_,hlc,hcm,hel,hget,_,_⟩
 · exact⟨[.nils],z3s .nils,.inl rfl⟩
 · obtain rfl:f=n:=by omega
   by_cases h0:len=0
   · subst h0;exact⟨[.sl _ []],z3s (.sl0 _ _ _),.inr ⟨[],by simp,by simp,rfl⟩⟩
   have hcell:∀i,i<len→∃ci:List Value,ci.length=P.cellsOf e∧(∀j,j<P.cellsOf e→W.cell? ((a.add (i*P.cellsOf e)).add j)=ci[j]?)∧∃y,Reps noM noR W y ci∧Q y:=by
    intro i hi;have h1:=hget i hi;rw[List.getElem?_eq_getElem (by omega)]at h1
    obtain⟨ci,h2,h3⟩:=Option.bind_eq_some_iff.1 h1;obtain⟨_,h4,h5⟩:=World.cells?_some h2;obtain⟨y,h6,h7⟩:=hr H enc W _ _ h3;exact⟨ci,h4,h5,y,h6,h7⟩
   have hspot:a.spot=none:=by
    obtain⟨ci,h4,h5,_⟩:=hcell 0 (by omega)
    have:=h5 0 hpos;rw[Nat.zero_mul]at this;simp only[Addr.add,if_true]at this;rw[List.getElem?_eq_getElem (by omega)]at this
    cases hs:a.spot with
    |none=>rfl
    |some s =>
     exfalso
     simp only[World.cell?,hs,Option.isSome_some,if_true]at this;split at this<;>simp at this
   obtain⟨b,o,sp⟩:=a;simp only at hspot;subst hspot
   have hadd:∀k j,((⟨b,o,none⟩:Addr).add k).add j=⟨b,o+(k+j),none⟩:=by
    intro k j;unfold Addr.add;split<;>split<;>simp_all<;>omega
   let g:Nat→List AV:=fun i=>if hi:i<len then Classical.choose (Classical.choose_spec (hcell i hi)).2.2 else[]
   have hg:∀i (hi:i<len),Reps noM noR W (g i) (Classical.choose (hcell i hi))∧Q (g i):=by
    intro i hi;simp only[g,dif_pos hi];exact Classical.choose_spec (Classical.choose_spec (hcell i hi)).2.2
   have hc:∀i (hi:i<len),(Classical.choose (hcell i hi)).length=P.cellsOf e∧∀j,j<P.cellsOf e→W.cell? ⟨b,o+(i*P.cellsOf e+j),none⟩=(Classical.choose (hcell i hi))[j]?:=by
    intro i hi;have:=Classical.choose_spec (hcell i hi);exact⟨this.1,fun j hj=>by rw[←hadd];exact this.2.1 j hj⟩
   have hw:∀i (hi:i<len),(wrapC ag (g i)).cells=g i:=fun i hi=>hQ _ (hg i hi).2 (by rw[(hg i hi).1.1,(hc i hi).1])
   refine⟨[.sl (P.cellsOf e) (((List.range len).map g).map (wrapC ag))],z3s ?_,.inr ⟨(List.range len).map g,?_,by simp;omega,rfl⟩⟩
   · have hl:(((List.range len).map g).map (wrapC ag)).length=len:=by simp
     have hi':∀i (hi:i<(((List.range len).map g).map (wrapC ag)).length),(((List.range len).map g).map (wrapC ag))[i]=wrapC ag (g i):=by intro i hi;simp
     have:=Rep.sl (M:=noM) (R:=noR) (w:=W) (P.cellsOf e) (((List.range len).map g).map (wrapC ag)) b o cap (fun i j=>(W.cell? ⟨b,o+(i*P.cellsOf e+j),none⟩).getD .nilFunc) (by rw[hl];exact hlc)
      (fun i j hi hj=>by
       have hi2:i<len:=by rw[hl]at hi;exact hi
       rw[hi',hw i hi2,(hg i hi2).1.1,(hc i hi2).1]at hj;refine⟨hj,id,?_⟩;rw[(hc i hi2).2 j hj,List.getElem?_eq_getElem (by rw[(hc i hi2).1];exact hj)]
       rfl)
      (fun i j hi hj=>by
       have hi2:i<len:=by rw[hl]at hi;exact hi
       have hj2:j<P.cellsOf e:=by rw[hi',hw i hi2,(hg i hi2).1.1,(hc i hi2).1]at hj;exact hj
       have h1:=(hg i hi2).1.2 j (by rw[(hg i hi2).1.1,(hc i hi2).1];exact hj2) (by rw[(hc i hi2).1];exact hj2)
       simp only[(hc i hi2).2 j hj2,List.getElem?_eq_getElem (show j<(Classical.choose (hcell i hi2)).length by rw[(hc i hi2).1];exact hj2),Option.getD_some]
       have e1:((((List.range len).map g).map (wrapC ag))[i]).cells=g i:=by rw[hi',hw i hi2]
       simp only[e1]
       exact h1)
     rw[hl]at this;exact this
   · intro y hy;simp only[List.mem_map,List.mem_range]at hy;obtain⟨i,hi,rfl⟩:=hy;exact(hg i hi).2
theorem Reads.arg {Q:List AV→Prop} {H:Type} {enc:TypeId×Value→H} {v:Value} {d:DataW H} {ps:List MemPlace} (hr:∀f,Reads P t f Q) (hv:v.cells.toList=[v]) (h:DataW.Trod enc P W 0 (fun _=>true) true t v d ps) :
  ∃x,Rep noM noR W x v∧Q [x]:=by
 obtain⟨f,hf⟩:=h;rw[hv]at hf;obtain⟨xs,h1,h2⟩:=hr f H enc W _ _ hf
 match xs,h1 with
 |[x],h1=>exact⟨x,h1.2 0 (by simp) (by simp),h2⟩
 |[],h1=>exact absurd h1.1 (by simp)
 |_::_::_,h1=>exact absurd h1.1 (by simp)
theorem Reads.argS {Q:List AV→Prop} {H:Type} {enc:TypeId×Value→H} {cs:Array Value} {d:DataW H} {ps:List MemPlace} (hr:∀f,Reads P t f Q) (h:DataW.Trod enc P W 0 (fun _=>true) true t (.agg cs) d ps) :
  ∃xs,Rep noM noR W (.agg xs) (.agg cs)∧Q xs:=by
 obtain⟨f,hf⟩:=h;obtain⟨xs,h1,h2⟩:=hr f H enc W _ _ hf;refine⟨xs,?_,h2⟩;have:=Rep.agg (M:=noM) (R:=noR) (w:=W) xs cs.toList h1.1 h1.2;simpa using this
end
end Go.Ab
