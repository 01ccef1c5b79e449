/- The abstract run as a function that can be computed: what it answers is what the call answers. No condition. -/
import Derived.Test.YtmkmhhjkdaklbaaGreatAbStepq
set_option linter.unusedSimpArgs false
set_option linter.unusedVariables false
set_option linter.unusedSectionVars false
namespace Go.Ab
open Go
def z3S:Value→Value→Bool
 |.bool a,.bool b=>a==b
 |.int k a,.int k' b=>decide (k=k')&&decide (a=b)
 |.float k a,.float k' b=>decide (k=k')&&decide (a=b)
 |.string a,.string b=>decide (a.data.toList=b.data.toList)
 |.pointer none,.pointer none=>true
 |.slice none 0 0,.slice none 0 0=>true
 |.nilFunc,.nilFunc=>true
 |.nilIface,.nilIface=>true
 |.map none,.map none=>true
 |_,_=>false
theorem z4D {a b:Value} (h:z3S a b=true):a=b:=by
 unfold z3S at h
 split at h<;>simp at h
 · rw[h]
 · rw[h.1,h.2]
 · rw[h.1,h.2]
 · rename_i a b
   have:a.data=b.data:=h
   cases a;cases b;simp at this;rw[this]
 all_goals rfl
mutual
def AV.same:AV→AV→Bool
 |.any,.any=>true
 |.pl u,.pl v=>z3S u v
 |.nils,.nils=>true
 |.sl n xs,.sl m ys=>decide (n=m)&&sameL xs ys
 |.rp xs,.rp ys=>sameL xs ys
 |.ptr a b,.ptr c d=>decide (a=c)&&decide (b=d)
 |.osl a b,.osl c d=>decide (a=c)&&decide (b=d)
 |.ep a b c d,.ep a' b' c' d'=>decide (a=a')&&decide (b=b')&&decide (c=c')&&decide (d=d')
 |.psl a b c,.psl a' b' c'=>decide (a=a')&&decide (b=b')&&decide (c=c')
 |.zsl,.zsl=>true
 |.win a b c d,.win a' b' c' d'=>decide (a=a')&&decide (b=b')&&decide (c=c')&&decide (d=d')
 |.agg xs,.agg ys=>sameL xs ys
 |.tup xs,.tup ys=>sameL xs ys
 |.fn f as bs,.fn g cs ds=>decide (f=g)&&sameL as cs&&sameL bs ds
 |_,_=>false
def sameL:List AV→List AV→Bool
 |[],[]=>true
 |x::xs,y::ys=>x.same y&&sameL xs ys
 |_,_=>false
end
mutual
theorem AV.same_eq:∀(a b:AV),a.same b=true→a=b
 |.any,b,h=>by cases b<;>simp[AV.same]at h;rfl
 |.pl u,b,h=>by cases b<;>simp[AV.same]at h;rw[z4D h]
 |.nils,b,h=>by cases b<;>simp[AV.same]at h;rfl
 |.sl n xs,b,h=>by cases b<;>simp[AV.same]at h;rw[h.1,z1g _ _ h.2]
 |.rp xs,b,h=>by cases b<;>simp[AV.same]at h;rw[z1g _ _ h]
 |.ptr _ _,b,h=>by cases b<;>simp[AV.same]at h;rw[h.1,h.2]
 |.osl _ _,b,h=>by cases b<;>simp[AV.same]at h;rw[h.1,h.2]
 |.ep _ _ _ _,b,h=>by cases b<;>simp[AV.same]at h;obtain⟨⟨⟨h1,h2⟩,h3⟩,h4⟩:=h;rw[h1,h2,h3,h4]
 |.psl _ _ _,b,h=>by cases b<;>simp[AV.same]at h;obtain⟨⟨h1,h2⟩,h3⟩:=h;rw[h1,h2,h3]
 |.zsl,b,h=>by cases b<;>simp[AV.same]at h;rfl
 |.win _ _ _ _,b,h=>by cases b<;>simp[AV.same]at h;obtain⟨⟨⟨h1,h2⟩,h3⟩,h4⟩:=h;rw[h1,h2,h3,h4]
 |.agg xs,b,h=>by cases b<;>simp[AV.same]at h;rw[z1g _ _ h]
 |.tup xs,b,h=>by cases b<;>simp[AV.same]at h;rw[z1g _ _ h]
 |.fn f as bs,b,h=>by cases b<;>simp[AV.same]at h;obtain⟨⟨h1,h2⟩,h3⟩:=h;rw[h1,z1g _ _ h2,z1g _ _ h3]
theorem z1g:∀(a b:List AV),sameL a b=true→a=b
 |[],b,h=>by cases b<;>simp[sameL]at h;rfl
 |x::xs,b,h=>by cases b<;>simp[sameL]at h;rw[AV.same_eq _ _ h.1,z1g _ _ h.2]
end
def AO.still:AO→Bool
 |.boxm _|.allocm _|.bsl true .. |.store .. |.app .. |.strm _|.mks .. |.copy .. |.appz .. |.slco .. |.clr .. =>false
 |_=>true
def AO.free:AO→Bool
 |.boxm _|.allocm _|.bsl true .. |.store .. |.app .. |.load .. |.iadrs .. |.lenv _|.giadr .. |.strm _|.mks .. |.copy .. |.appz .. |.slco .. |.clr .. |.slcw .. |.isnil .. |.b2s _=>false
 |_=>true
theorem z5M {ρ:Operand→AV} {σ σ':St} {ao:AO} {r:AV} (hs:ao.still=true) (h:aop ρ σ ao=some (r,σ')):σ'=σ:=by
 cases ao with
 |bsl own sz ag n z ps=>cases own<;>simp[AO.still]at hs;simp[aop]at h;grind
 |boxm x=>simp[AO.still]at hs
 |allocm z=>simp[AO.still]at hs
 |store n a x=>simp[AO.still]at hs
 |app sz x y=>simp[AO.still]at hs
 |strm x=>simp[AO.still]at hs
 |mks sz ag z x y=>simp[AO.still]at hs
 |copy x y=>simp[AO.still]at hs
 |appz sz ag z x y=>simp[AO.still]at hs
 |slco sz x lo hi=>simp[AO.still]at hs
 |clr sz ag z x=>simp[AO.still]at hs
 |_=>simp only[aop]at h<;>grind [Option.map_eq_some_iff]
theorem z70 {ρ:Operand→AV} {σ σ':St} {ao:AO} {r:AV} (hs:ao.free=true) (h:aop ρ σ ao=some (r,σ')) (s:St):aop ρ s ao=some (r,s):=by
 cases ao with
 |bsl own sz ag n z ps=>cases own<;>simp[AO.free]at hs;simp[aop]at h⊢;grind
 |boxm x=>simp[AO.free]at hs
 |allocm z=>simp[AO.free]at hs
 |store n a x=>simp[AO.free]at hs
 |app sz x y=>simp[AO.free]at hs
 |strm x=>simp[AO.free]at hs
 |mks sz ag z x y=>simp[AO.free]at hs
 |copy x y=>simp[AO.free]at hs
 |appz sz ag z x y=>simp[AO.free]at hs
 |slco sz x lo hi=>simp[AO.free]at hs
 |clr sz ag z x=>simp[AO.free]at hs
 |slcw sz x lo=>simp[AO.free]at hs
 |isnil neg p x=>simp[AO.free]at hs
 |b2s x=>simp[AO.free]at hs
 |giadr k sz len i=>simp[AO.free]at hs
 |load n ag x=>simp[AO.free]at hs
 |iadrs sz x i=>simp[AO.free]at hs
 |lenv x=>simp[AO.free]at hs
 |_=>simp only[aop]at h⊢<;>(repeat' split at h)<;>simp_all<;>grind
/- What is reckoned is reckoned at once: each such step hands on what it was given,brought to its form. -/
def frcL {α β:Type}:List β→(List β→α)→α
 |[],k=>k []
 |x::xs,k=>frcL xs fun ys=>k (x::ys)
@[simp] theorem frcL_eq {α β:Type}:∀(l:List β) (k:List β→α),frcL l k=k l
 |[],_=>rfl
 |x::xs,k=>by rw[frcL,frcL_eq xs]
def frcN {α:Type} (n:Nat) (k:Nat→α):α :=
 match n with
 |0=>k 0
 |m+1=>k (m+1)
@[simp] theorem frcN_eq {α:Type} (n:Nat) (k:Nat→α):frcN n k=k n:=by cases n<;>rfl
def frcI {α:Type} (n:Int) (k:Int→α):α :=
 match n with
 |.ofNat m=>frcN m fun m=>k (.ofNat m)
 |.negSucc m=>frcN m fun m=>k (.negSucc m)
@[simp] theorem frcI_eq {α:Type} (n:Int) (k:Int→α):frcI n k=k n:=by cases n<;>simp[frcI]
def frcV {α:Type} (v:AV) (k:AV→α):α :=
 match v with
 |.pl (.int d n)=>frcI n fun n=>k (.pl (.int d n))
 |.pl (.bool true)=>k (.pl (.bool true))
 |.pl (.bool false)=>k (.pl (.bool false))
 |.pl (.float d n)=>frcN n fun n=>k (.pl (.float d n))
 |.pl (.string ⟨⟨l⟩⟩)=>frcL l fun l=>k (.pl (.string ⟨⟨l⟩⟩))
 |.sl n xs=>frcL xs fun xs=>k (.sl n xs)
 |.rp xs=>frcL xs fun xs=>k (.rp xs)
 |.agg xs=>frcL xs fun xs=>k (.agg xs)
 |.tup xs=>frcL xs fun xs=>k (.tup xs)
 |.ptr a b=>frcN a fun a=>frcN b fun b=>k (.ptr a b)
 |.osl a b=>frcN a fun a=>frcN b fun b=>k (.osl a b)
 |.ep a b c d=>frcN a fun a=>frcN b fun b=>frcN c fun c=>frcN d fun d=>k (.ep a b c d)
 |.psl a b c=>frcN a fun a=>frcN b fun b=>frcN c fun c=>k (.psl a b c)
 |v=>k v
@[simp] theorem frcV_eq {α:Type} (v:AV) (k:AV→α):frcV v k=k v:=by
 unfold frcV
 split<;>simp
def frcT {α:Type}:St→(St→α)→α
 |[],k=>k []
 |.box cs::s,k=>frcL cs fun cs=>frcT s fun s=>k (.box cs::s)
 |.row n cs::s,k=>frcL cs fun cs=>frcT s fun s=>k (.row n cs::s)
 |o::s,k=>frcT s fun s=>k (o::s)
@[simp] theorem frcT_eq {α:Type}:∀(l:St) (k:St→α),frcT l k=k l
 |[],_=>rfl
 |.box cs::s,k=>by simp[frcT,frcT_eq s]
 |.row n cs::s,k=>by simp[frcT,frcT_eq s]
 |.dead::s,k=>by simp[frcT,frcT_eq s]
 |.glo g vs::s,k=>by simp[frcT,frcT_eq s]
def frcO {α:Type} (o:AOp) (σ:St) (k:St→α):α :=
 match o with
 |.prim ao=>if ao.still then k σ else frcT σ k
 |.call _ _=>frcL σ k
 |.fresh _ _ _=>k σ
 |.flo _=>k σ
 |.adopt _ _ _ _=>k σ
@[simp] theorem frcO_eq {α:Type} (o:AOp) (σ:St) (k:St→α):frcO o σ k=k σ:=by
 unfold frcO
 split
 · split<;>simp
 · simp
 · rfl
 · rfl
 · rfl
def z8J:Ob→Ob→Bool
 |.dead,.dead=>true
 |.box a,.box b=>sameL a b
 |.row n a,.row m b=>decide (n=m)&&sameL a b
 |_,_=>false
def z1G:St→St→Bool
 |[],[]=>true
 |.glo g vs::s,.glo g' vs'::s'=>decide (g=g')&&(vs.length==vs'.length)&&(vs.zip vs').all (fun p=>z3S p.1 p.2)&&z1G s s'
 |a::s,b::s'=>z8J a b&&z1G s s'
 |_,_=>false
theorem z71:∀{vs vs':List Value},(vs.length==vs'.length)=true→(vs.zip vs').all (fun p=>z3S p.1 p.2)=true→vs=vs'
 |[],[],_,_=>rfl
 |[],_::_,h,_=>by simp at h
 |_::_,[],h,_=>by simp at h
 |a::vs,b::vs',h,h'=>by
  simp only[List.zip_cons_cons,List.all_cons,Bool.and_eq_true]at h'
  rw[z4D h'.1,z71 (by simpa using h) h'.2]
theorem z8K {a b:Ob} (h:z8J a b=true):a=b:=by
 unfold z8J at h
 split at h
 · rfl
 · rw[z1g _ _ h]
 · simp only[Bool.and_eq_true,decide_eq_true_eq]at h
   rw[h.1,z1g _ _ h.2]
 · cases h
theorem z2b:∀{a b:St},z1G a b=true→a=b
 |[],[],_=>rfl
 |[],_::_,h=>by simp[z1G]at h
 |a::s,[],h=>by cases a<;>simp[z1G]at h
 |a::s,b::s',h=>by
  unfold z1G at h
  split at h
  · rename_i h1 h2;cases h1
  · rename_i g vs t g' vs' t' h1 h2
    simp only[List.cons.injEq]at h1 h2
    obtain⟨rfl,rfl⟩:=h1
    obtain⟨rfl,rfl⟩:=h2
    simp only[Bool.and_eq_true,decide_eq_true_eq]at h
    rw[h.1.1.1,z71 h.1.1.2 h.1.2,z2b h.2]
  · rename_i x t y t' _ h1 h2
    simp only[List.cons.injEq]at h1 h2
    obtain⟨rfl,rfl⟩:=h1
    obtain⟨rfl,rfl⟩:=h2
    simp only[Bool.and_eq_true]at h
    rw[z8K h.1,z2b h.2]
  · cases h
abbrev Run:=FuncId→List AV→St→Option (AV×St)
def evOp (run:Run) (env:Env) (σ:St):AOp→Option (AV×St)
 |.prim ao=>aop (aev env) σ ao
 |.call f args=>match aev env f with
  |.fn g fs cs=>run g (fs++args.map (aev env)++cs) σ
  |_=>none
 |.fresh n d x=>if d<env.length∧(aev env x).okc∧(aev env x).cells.length=n then some (.rp (aev env x).cells,σ) else none
 |.flo _|.adopt _ _ _ _=>none
def evOps (run:Run):List AOper→Env→St→Option (Env×St)
 |[],env,σ=>some (env,σ)
 |o::os,env,σ=>match wantA env o.guard with
  |some true=>match evOp run env σ o.op with
   |some (r,σ')=>frcV r fun r=>frcL (putA env o.dst r) fun env'=>frcO o.op σ' fun σ'=>evOps run os env' σ'
   |none=>none
  |some false=>frcL (putA env o.dst (.tup [])) fun env'=>evOps run os env' σ
  |none=>none
def stayB (env:Env) (ao:AO) (r:AV) (s:St):Bool :=
 match aop (aev env) s ao with
 |some (r',_)=>r.same r'
 |none=>false
def stayC (run:Run) (env:Env) (o:AOp) (r:AV) (s:St):Bool :=
 match evOp run env s o with
 |some (r',s')=>r.same r'&&z1G s s'
 |none=>false
def evDs (run:Run):List DOper→Env→List St→St→(List St→Bool)→Option (Env×St)
 |[],env,S,σ,ob=>if ob S then some (env,σ) else none
 |d::ds,env,S,σ,ob=>match wantA env d.o.guard with
  |some true=>if d.eff then(match evOp run env σ d.o.op with
    |some (r,σ')=>frcV r fun r=>frcL (putA env d.o.dst r) fun env'=>frcO d.o.op σ' fun σ'=>evDs run ds env' (S++[σ']) σ' ob
    |none=>none)
   else(match d.o.op with
    |.prim ao=>match aop (aev env) σ ao with
     |some (r,_)=>frcV r fun r=>frcL (putA env d.o.dst r) fun env'=>if ao.free then evDs run ds env' S σ ob
      else if ao.still then evDs run ds env' S σ (fun T=>ob T&&((T.take (d.hi+1)).drop d.lo).all (stayB env ao r))
      else none
     |none=>none
    |.call f args=>match evOp run env σ (.call f args) with
     |some (r,σ')=>frcV r fun r=>frcL (putA env d.o.dst r) fun env'=>if z1G σ σ' then
      evDs run ds env' S σ (fun T=>ob T&&((T.take (d.hi+1)).drop d.lo).all (stayC run env (.call f args) r)) else none
     |none=>none
    |_=>none)
  |some false=>frcL (putA env d.o.dst (.tup [])) fun env'=>evDs run ds env' (if d.eff then S++[σ] else S) σ ob
  |none=>none
mutual
def belB (n:Nat):AV→Bool
 |.any|.pl _|.nils|.zsl=>true
 |.psl l _ _=>decide (l<n)
 |.win _ l _ _=>decide (l<n)
 |.sl _ xs=>belL n xs
 |.rp cs=>belL n cs
 |.ptr l _=>decide (l<n)
 |.osl l _=>decide (l<n)
 |.ep l _ _ _=>decide (l<n)
 |.agg cs=>belL n cs
 |.tup cs=>belL n cs
 |.fn _ fs cs=>belL n fs&&belL n cs
def belL (n:Nat):List AV→Bool
 |[]=>true
 |x::xs=>belB n x&&belL n xs
end
mutual
theorem z8L (n:Nat):∀a:AV,belB n a=true→Bel n a
 |.any,_=>.any
 |.pl v,_=>.pl v
 |.nils,_=>.nils
 |.sl sz xs,h=>.sl sz xs (Bel.of_mem (z1w n xs (by simpa[belB] using h)))
 |.rp cs,h=>.rp cs (Bel.of_mem (z1w n cs (by simpa[belB] using h)))
 |.ptr l o,h=>.ptr l o (by simpa[belB] using h)
 |.osl l o,h=>.osl l o (by simpa[belB] using h)
 |.ep l a b c,h=>.ep l a b c (by simpa[belB] using h)
 |.psl l a b,h=>.psl l a b (by simpa[belB] using h)
 |.zsl,_=>.zsl
 |.win a l b c,h=>.win a l b c (by simpa[belB] using h)
 |.agg cs,h=>.agg cs (Bel.of_mem (z1w n cs (by simpa[belB] using h)))
 |.tup cs,h=>.tup cs (Bel.of_mem (z1w n cs (by simpa[belB] using h)))
 |.fn f fs cs,h=>by
  simp[belB]at h
  exact .fn f fs cs (Bel.of_mem (z1w n fs h.1)) (Bel.of_mem (z1w n cs h.2))
theorem z1w (n:Nat):∀xs:List AV,belL n xs=true→∀x∈xs,Bel n x
 |[],_=>by simp
 |x::xs,h=>by
  simp[belL]at h
  intro y hy
  rcases List.mem_cons.1 hy with hxy|hy
  · rw[hxy];exact z8L n x h.1
  · exact z1w n xs h.2 y hy
end
def belOB (n:Nat):Ob→Bool
 |.dead|.glo _ _=>true
 |.box cs=>belL n cs
 |.row _ xs=>belL n xs
theorem z72 {n:Nat} {o:Ob} (h:belOB n o=true):BelO n o:=by
 cases o with
 |dead=>trivial
 |glo g vs=>trivial
 |box cs=>exact z1w n cs h
 |row sz xs=>exact z1w n xs h
def evG (n0:Nat) (g:Ghost) (env:Env) (σ:St):Option (Env×St) :=
 match g with
 |.clear ts=>some (z1V env ts,σ)
 |.shut t=>match tmpA env t with
  |.agg cs=>match sealL σ cs with
   |some (cs',σ')=>some (env.set t (.agg cs'),σ')
   |none=>none
  |v=>match sealV σ v with
   |some (v',σ')=>some (env.set t v',σ')
   |none=>none
 |.own t sz=>match tmpA env t with
  |.nils=>some (env.set t (.osl σ.length 0),σ++[.row sz []])
  |_=>none
 |.keep j=>if belL (n0+j) env&&(σ.take (n0+j)).all (belOB (n0+j))&&decide (n0+j≤σ.length) then some (env,σ.take (n0+j)) else none
 |.weak t sz=>some (env.set t (weakA sz (tmpA env t)),σ)
 |.shutc t j sz=>(z6X sz j σ (tmpA env t)).map fun σ'=>(env,σ')
def iter (step:Env→St→Option (AExit×Env×St)) (clr:List Tmp):Nat→Env→St→Option (AExit×Env×St)
 |0,_,_=>none
 |n+1,env,σ=>match step env σ with
  |some (.normal,env',σ')=>frcL (z1V env' clr) fun env'=>iter step clr n env' σ'
  |r=>r
def evC (run:Run) (n0 m:Nat):ACode→Env→St→Option (AExit×Env×St)
 |.skip,env,σ=>some (.normal,env,σ)
 |.ops l,env,σ=>match evOps run l env σ with
  |some (env',σ')=>some (.normal,env',σ')
  |none=>none
 |.draw l,env,σ=>match evDs run l env [σ] σ (fun _=>true) with
  |some (env',σ')=>some (.normal,env',σ')
  |none=>none
 |.seq a b,env,σ=>match evC run n0 m a env σ with
  |some (.normal,env',σ')=>evC run n0 m b env' σ'
  |r=>r
 |.cond c a b,env,σ=>match boolA (aev env c) with
  |some true=>evC run n0 m a env σ
  |some false=>evC run n0 m b env σ
  |none=>none
 |.block id a,env,σ=>match evC run n0 m a env σ with
  |some (.exit j,env',σ')=>if j=id then some (.normal,env',σ') else some (.exit j,env',σ')
  |r=>r
 |.loop clr a,env,σ=>frcL (z1V env clr) fun env=>iter (evC run n0 m a) clr m env σ
 |.exit id,env,σ=>some (.exit id,env,σ)
 |.ret,env,σ=>some (.ret,env,σ)
 |.ghost g a,env,σ=>match evG n0 g env σ with
  |some (env',σ')=>frcL env' fun env'=>frcT σ' fun σ'=>evC run n0 m a env' σ'
  |none=>none
 |.after a g,env,σ=>match evC run n0 m a env σ with
  |some (.normal,env',σ')=>(match evG n0 g env' σ' with
   |some (env'',σ'')=>frcL env'' fun env''=>frcT σ'' fun σ''=>some (.normal,env'',σ'')
   |none=>none)
  |r=>r
structure Fun (P:Program) where
 f:FuncId
 own:List Tmp
 x:ACode
 rvs:List RV
 n:Nat
 t:Text P f own x rvs n
structure Ext (P:Program) where
 f:FuncId
 go:List AV→St→Option (AV×St)
 ok:∀args σ r σ',go args σ=some (r,σ')→Ans P f args σ r σ'
def findF {P:Program} (f:FuncId):List (Fun P)→Option (Fun P)
 |[]=>none
 |F::Fs=>if F.f=f then some F else findF f Fs
def findE {P:Program} (f:FuncId):List (Ext P)→Option (Ext P)
 |[]=>none
 |F::Fs=>if F.f=f then some F else findE f Fs
def trimmed (n0:Nat) (r:AV) (σ:St):AV×St :=
 if belB n0 r&&(σ.take n0).all (belOB n0)&&decide (n0≤σ.length) then(r,σ.take n0) else(r,σ)
def evFB {P:Program} (C:List (Fun P)) (E:List (Ext P)) (m:Nat) (run:Run):Run:=fun f args σ =>
 match findF f C with
 |some F=>match frcL (args++List.replicate (F.n-args.length) .any) fun env=>evC run σ.length m F.x env σ with
  |some (.exit _,_,_)=>none
  |some (_,env',σ')=>match resA env' σ' F.rvs with
   |some r=>some (trimmed σ.length r σ')
   |none=>none
  |none=>none
 |none=>match findE f E with
  |some X=>X.go args σ
  |none=>none
section
variable {P:Program} {run:Run} (hrun:∀f args σ r σ',run f args σ=some (r,σ')→Ans P f args σ r σ')
include hrun
theorem z8M {env:Env} {σ:St} {o:AOp} {r:AV} {σ':St} {K:AV→St→Prop} (h:evOp run env σ o=some (r,σ')) (hK:K r σ'):axop P env σ o K:=by
 cases o with
 |prim ao=>simp only[evOp]at h;simp only[axop,h];exact hK
 |call f args =>
  simp only[evOp]at h
  simp only[axop]
  cases hf:aev env f<;>rw[hf]at h<;>simp only[reduceCtorEq]at h
  exact⟨r,σ',hrun _ _ _ _ _ h,hK⟩
 |fresh n d x =>
  simp only[evOp]at h
  simp only[axop]
  split at h
  · rename_i hc
    rw[if_pos hc]
    simp only[Option.some.injEq,Prod.mk.injEq]at h
    rw[←h.1,←h.2]at hK;exact hK
  · simp at h
 |flo n=>cases h
 |adopt own d n x=>cases h
theorem za7 {K:Env→St→Prop}:∀(l:List AOper) (env:Env) (σ:St) (env':Env) (σ':St),evOps run l env σ=some (env',σ')→K env' σ'→axops P K l env σ:=by
 intro l
 induction l with
 |nil=>intro env σ env' σ' h hK;simp only[evOps,Option.some.injEq,Prod.mk.injEq]at h;rw[←h.1,←h.2]at hK;exact hK
 |cons o os ih =>
  intro env σ env' σ' h hK
  simp only[evOps,frcV_eq,frcL_eq,frcO_eq]at h
  simp only[axops]
  split at h
  · rename_i hw
    simp only[hw]
    split at h
    · rename_i r s he
      exact z8M hrun he (ih _ _ _ _ h hK)
    · simp at h
  · rename_i hw
    simp only[hw]
    exact ih _ _ _ _ h hK
  · simp at h
theorem zbK {K:Env→St→Prop}:∀(l:List DOper) (env:Env) (S:List St) (σ:St) (ob:List St→Bool) (obP:List St→Prop) (env':Env) (σ':St),(∀T,ob T=true→obP T) →
  evDs run l env S σ ob=some (env',σ')→K env' σ'→axd P K l env S σ obP:=by
 intro l
 induction l with
 |nil =>
  intro env S σ ob obP env' σ' hob h hK
  simp only[evDs]at h
  split at h
  · rename_i hb
    simp only[Option.some.injEq,Prod.mk.injEq]at h;rw[←h.1,←h.2]at hK
    exact⟨hob _ hb,hK⟩
  · simp at h
 |cons d ds ih =>
  intro env S σ ob obP env' σ' hob h hK
  simp only[evDs,frcV_eq,frcL_eq,frcO_eq]at h
  simp only[axd]
  split at h
  · rename_i hw
    simp only[hw]
    split at h
    · rename_i he
      simp only[he,if_true]
      split at h
      · rename_i r s hr
        exact z8M hrun hr (ih _ _ _ _ _ _ _ hob h hK)
      · simp at h
    · rename_i he
      simp only[he,Bool.false_eq_true,if_false]
      split at h
      · rename_i ao hao
        split at h
        · rename_i r s hr
          split at h
          · rename_i hf
            refine⟨r,?_,ih _ _ _ ob _ _ _ (fun T hT=>⟨hob T hT,fun s _=>?_⟩) h hK⟩
            · simp only[hao,stay];exact z70 hf hr _
            · simp only[hao,stay];exact z70 hf hr _
          · split at h
            · rename_i hs
              refine⟨r,?_,ih _ _ _ _ _ _ _ (fun T hT=>?_) h hK⟩
              · simp only[hao,stay]
                have:=z5M hs hr
                rw[hr,this]
              · simp only[Bool.and_eq_true]at hT
                refine⟨hob T hT.1,fun s hsm=>?_⟩
                have h2:=List.all_eq_true.1 hT.2 s hsm
                simp only[hao,stay]
                simp only[stayB]at h2
                split at h2
                · rename_i r' s' hr'
                  rw[hr',AV.same_eq _ _ h2,z5M hs hr']
                · simp at h2
            · simp at h
        · simp at h
      · rename_i f args hao
        split at h
        · rename_i r s hr
          split at h
          · rename_i hs
            have hst:=z2b hs
            subst hst
            have stayOf:∀(s0:St) (r0:AV),evOp run env s0 (.call f args)=some (r0,s0)→stay P env (.call f args) r0 s0:=by
             intro s0 r0 h0
             simp only[evOp]at h0
             simp only[stay]
             cases hf:aev env f<;>rw[hf]at h0<;>simp only[reduceCtorEq]at h0
             exact hrun _ _ _ _ _ h0
            refine⟨r,?_,ih _ _ _ _ _ _ _ (fun T hT=>?_) h hK⟩
            · rw[hao];exact stayOf _ _ hr
            · simp only[Bool.and_eq_true]at hT
              refine⟨hob T hT.1,fun s hsm=>?_⟩
              have h2:=List.all_eq_true.1 hT.2 s hsm
              simp only[stayC]at h2
              split at h2
              · rename_i r' s' hr'
                simp only[Bool.and_eq_true]at h2
                have e1:=AV.same_eq _ _ h2.1
                have e2:=z2b h2.2
                subst e1;subst e2
                rw[hao];exact stayOf _ _ hr'
              · cases h2
          · simp at h
        · simp at h
      · simp at h
  · rename_i hw
    simp only[hw]
    exact ih _ _ _ _ _ _ _ hob h hK
  · simp at h
omit hrun in
theorem zba {n0:Nat} {g:Ghost} {env env':Env} {σ σ':St} {K:Env→St→Prop} (h:evG n0 g env σ=some (env',σ')) (hK:K env' σ'):gh n0 g env σ K:=by
 cases g with
 |clear ts=>simp only[evG,Option.some.injEq,Prod.mk.injEq]at h;rw[←h.1,←h.2]at hK;exact hK
 |shut t =>
  simp only[evG]at h
  simp only[gh]
  split at h
  · rename_i cs hc
    split at h
    · rename_i cs' s hs
      simp only[Option.some.injEq,Prod.mk.injEq]at h;rw[←h.1,←h.2]at hK
      simp only[hc,hs];exact hK
    · simp at h
  · rename_i v hv
    split at h
    · rename_i v' s hs
      simp only[Option.some.injEq,Prod.mk.injEq]at h;rw[←h.1,←h.2]at hK
      rcases hc:tmpA env t with _|_|_|_|_|_|_|_|_|_|_|cs|_|_
      case agg=>exact absurd hc (hv cs)
      all_goals (rw[hc]at hs;simp only[hs];exact hK)
    · simp at h
 |own t sz =>
  simp only[evG]at h
  simp only[gh]
  split at h
  · rename_i hc
    simp only[Option.some.injEq,Prod.mk.injEq]at h;rw[←h.1,←h.2]at hK
    simp only[hc];exact hK
  · simp at h
 |weak t sz=>simp only[evG,Option.some.injEq,Prod.mk.injEq]at h;rw[←h.1,←h.2]at hK;exact hK
 |shutc t j sz =>
  simp only[evG]at h
  simp only[gh]
  obtain⟨s,hs,h⟩:=z00 h
  simp only[Prod.mk.injEq]at h
  rw[←h.1,←h.2]at hK
  simp only[hs];exact hK
 |keep j =>
  simp only[evG]at h
  simp only[gh]
  split at h
  · rename_i hc
    simp only[Bool.and_eq_true,decide_eq_true_eq]at hc
    simp only[Option.some.injEq,Prod.mk.injEq]at h;rw[←h.1,←h.2]at hK
    exact⟨z1w _ _ hc.1.1,fun o ho=>z72 (List.all_eq_true.1 hc.1.2 o ho),hc.2,hK⟩
  · simp at h
theorem zcD (n0 m:Nat):∀(x:ACode) (K:AExit→Env→St→Prop) (env:Env) (σ:St) (e:AExit) (env':Env) (σ':St),evC run n0 m x env σ=some (e,env',σ')→K e env' σ'→ax P n0 x K env σ:=by
 intro x
 induction x with
 |skip=>intro K env σ e env' σ' h hK;simp only[evC,Option.some.injEq,Prod.mk.injEq]at h;obtain⟨rfl,rfl,rfl⟩:=h;exact hK
 |ops l =>
  intro K env σ e env' σ' h hK
  simp only[evC,frcL_eq,frcT_eq]at h
  split at h
  · rename_i h1
    simp only[Option.some.injEq,Prod.mk.injEq]at h;obtain⟨rfl,rfl,rfl⟩:=h
    exact za7 hrun _ _ _ _ _ h1 hK
  · simp at h
 |draw l =>
  intro K env σ e env' σ' h hK
  simp only[evC,frcL_eq,frcT_eq]at h
  split at h
  · rename_i h1
    simp only[Option.some.injEq,Prod.mk.injEq]at h;obtain⟨rfl,rfl,rfl⟩:=h
    exact zbK hrun _ _ _ _ _ _ _ _ (fun _ _=>trivial) h1 hK
  · simp at h
 |seq a b iha ihb =>
  intro K env σ e env' σ' h hK
  simp only[evC,frcL_eq,frcT_eq]at h
  simp only[ax]
  split at h
  · rename_i h1
    exact iha _ _ _ _ _ _ h1 (ihb _ _ _ _ _ _ h hK)
  · rename_i hn
    refine iha _ _ _ _ _ _ h ?_
    cases e with
    |normal=>exact absurd h (hn _ _)
    |exit=>exact hK
    |ret=>exact hK
 |cond c a b iha ihb =>
  intro K env σ e env' σ' h hK
  simp only[evC,frcL_eq,frcT_eq]at h
  simp only[ax]
  split at h
  · rename_i h1;simp only[h1];exact iha _ _ _ _ _ _ h hK
  · rename_i h1;simp only[h1];exact ihb _ _ _ _ _ _ h hK
  · simp at h
 |block id a iha =>
  intro K env σ e env' σ' h hK
  simp only[evC,frcL_eq,frcT_eq]at h
  simp only[ax]
  split at h
  · rename_i j _ _ h1
    refine iha _ _ _ _ _ _ h1 ?_
    simp only
    split at h
    · rename_i hj
      rw[if_pos hj]
      simp only[Option.some.injEq,Prod.mk.injEq]at h;obtain⟨rfl,rfl,rfl⟩:=h
      exact hK
    · rename_i hj
      rw[if_neg hj]
      simp only[Option.some.injEq,Prod.mk.injEq]at h;obtain⟨rfl,rfl,rfl⟩:=h
      exact hK
  · rename_i hn
    refine iha _ _ _ _ _ _ h ?_
    cases e with
    |normal=>exact hK
    |exit j=>exact absurd h (hn _ _ _)
    |ret=>exact hK
 |loop clr a iha =>
  intro K env σ e env' σ' h hK
  simp only[evC,frcL_eq,frcT_eq]at h
  simp only[ax]
  intro I hI
  have key:∀(k:Nat) (env:Env) (σ:St),iter (evC run n0 m a) clr k env σ=some (e,env',σ')→I env σ:=by
   intro k
   induction k with
   |zero=>intro env σ h;simp[iter]at h
   |succ k ih =>
    intro env σ h
    simp only[iter,frcL_eq]at h
    refine hI _ _ ?_
    split at h
    · rename_i h1
      exact iha _ _ _ _ _ _ h1 (ih _ _ h)
    · rename_i hn
      refine iha _ _ _ _ _ _ h ?_
      cases e with
      |normal=>exact absurd h (hn _ _)
      |exit=>exact hK
      |ret=>exact hK
  exact key _ _ _ h
 |exit id=>intro K env σ e env' σ' h hK;simp only[evC,Option.some.injEq,Prod.mk.injEq]at h;obtain⟨rfl,rfl,rfl⟩:=h;exact hK
 |ret=>intro K env σ e env' σ' h hK;simp only[evC,Option.some.injEq,Prod.mk.injEq]at h;obtain⟨rfl,rfl,rfl⟩:=h;exact hK
 |ghost g a iha =>
  intro K env σ e env' σ' h hK
  simp only[evC,frcL_eq,frcT_eq]at h
  simp only[ax]
  split at h
  · rename_i h1
    exact zba h1 (iha _ _ _ _ _ _ h hK)
  · simp at h
 |after a g iha =>
  intro K env σ e env' σ' h hK
  simp only[evC,frcL_eq,frcT_eq]at h
  simp only[ax]
  split at h
  · rename_i h1
    refine iha _ _ _ _ _ _ h1 ?_
    simp only
    split at h
    · rename_i h2
      simp only[Option.some.injEq,Prod.mk.injEq]at h;obtain⟨rfl,rfl,rfl⟩:=h
      exact zba h2 hK
    · simp at h
  · rename_i hn
    refine iha _ _ _ _ _ _ h ?_
    cases e with
    |normal=>exact absurd h (hn _ _)
    |exit=>exact hK
    |ret=>exact hK
end
theorem zbL {P:Program} {f:FuncId} {F:Fun P}:∀{C:List (Fun P)},findF f C=some F→F.f=f:=by
 intro C
 induction C with
 |nil=>intro h;simp[findF]at h
 |cons G C ih =>
  intro h
  simp only[findF]at h
  split at h
  · rename_i hg;simp only[Option.some.injEq]at h;rw[←h];exact hg
  · exact ih h
theorem zbM {P:Program} {f:FuncId} {F:Ext P}:∀{C:List (Ext P)},findE f C=some F→F.f=f:=by
 intro C
 induction C with
 |nil=>intro h;simp[findE]at h
 |cons G C ih =>
  intro h
  simp only[findE]at h
  split at h
  · rename_i hg;simp only[Option.some.injEq]at h;rw[←h];exact hg
  · exact ih h
theorem zbN {P:Program} (C:List (Fun P)) (E:List (Ext P)) (m:Nat) {run:Run} (ih:∀f args σ r σ',run f args σ=some (r,σ')→Ans P f args σ r σ') :
  ∀(f:FuncId) (args:List AV) (σ:St) (r:AV) (σ':St),evFB C E m run f args σ=some (r,σ')→Ans P f args σ r σ':=by
  intro f args σ r σ' h
  simp only[evFB,frcL_eq]at h
  split at h
  · rename_i F hF
    have hf:=zbL hF
    subst hf
    have fin:∀env' s r1,resA env' s F.rvs=some r1→some (trimmed σ.length r1 s)=some (r,σ')→Fini σ.length F.rvs r σ' .ret env' s∧Fini σ.length F.rvs r σ' .normal env' s:=by
     intro env' s r1 h1 h2
     have:∃r1 σ1,resA env' s F.rvs=some r1∧r1=r∧σ1=s∧(σ'=σ1∨(σ.length≤σ'.length∧σ'=σ1.take σ'.length∧Bel σ'.length r∧∀o∈σ',BelO σ'.length o)):=by
      simp only[Option.some.injEq,trimmed]at h2
      split at h2
      · rename_i hc
        simp only[Bool.and_eq_true,decide_eq_true_eq]at hc
        obtain⟨⟨hb,ho⟩,hl⟩:=hc
        simp only[Prod.mk.injEq]at h2
        obtain⟨rfl,rfl⟩:=h2
        refine⟨_,_,h1,rfl,rfl,.inr ?_⟩
        have hlen:(s.take σ.length).length=σ.length:=by simp;omega
        rw[hlen]
        exact⟨Nat.le_refl _,rfl,z8L _ _ hb,fun o hm=>z72 (List.all_eq_true.1 ho o hm)⟩
      · simp only[Prod.mk.injEq]at h2
        obtain⟨rfl,rfl⟩:=h2
        exact⟨_,_,h1,rfl,rfl,.inl rfl⟩
     exact⟨this,this⟩
    refine Ans.of_ax F.t ?_
    split at h
    · simp at h
    · rename_i e env' s hne he
      split at h
      · rename_i r1 hr
        refine zcD (run:=run) ih _ _ _ _ _ _ e env' s he ?_
        cases e with
        |exit id=>exact(hne id rfl).elim
        |ret=>exact(fin _ _ _ hr h).1
        |normal=>exact(fin _ _ _ hr h).2
      · simp at h
    · simp at h
  · split at h
    · rename_i X hX
      have hf:=zbM hX
      subst hf
      exact X.ok _ _ _ _ h
    · simp at h
def zbQ (ρ:Operand→AV) (σ:St) (x:Operand):Option (AV×St):=some (ρ x,σ)
def za9 (ρ:Operand→AV) (σ:St) (c:Operand) (a:Operand) (b:Operand):Option (AV×St):=match boolA (ρ c) with
    |some t=>some (if t then ρ a else ρ b,σ)
    |none=>none
def zaa (ρ:Operand→AV) (σ:St) (x:Operand):Option (AV×St):=if(ρ x).okc then some (.rp (ρ x).cells,σ) else none
def zab (ρ:Operand→AV) (σ:St) (x:Operand):Option (AV×St):=if(ρ x).okc then some (.ptr σ.length 0,σ++[.box (ρ x).cells]) else none
def z7T (ρ:Operand→AV) (σ:St) (z:List AV):Option (AV×St):=some (.ptr σ.length 0,σ++[.box z])
def z8O (ρ:Operand→AV) (σ:St) (z:List AV) (ps:List Part):Option (AV×St):=(fillA ρ z ps).map fun cs=>(.agg cs,σ)
def zbR (ρ:Operand→AV) (σ:St) (own:Bool) (sz:Nat) (ag:Bool) (n:Nat) (z:List AV) (ps:List Part):Option (AV×St):=(fillA ρ (z07 z n) ps).map fun cs =>
   if own then(.osl σ.length n,σ++[.row sz (chunks sz ag n cs)]) else(.sl sz (chunks sz ag n cs),σ)
def zac (ρ:Operand→AV) (σ:St) (n:Nat) (ag:Bool) (x:Operand):Option (AV×St):=(loadA σ n ag (ρ x)).map (·,σ)
def z8P (ρ:Operand→AV) (σ:St) (n:Nat) (a:Operand) (x:Operand):Option (AV×St):=if(ρ x).okc∧(ρ x).cells.length=n then
     match ρ a with
     |.ptr l off=>match σ[l]? with
      |some (.box cs)=>if off+n≤cs.length then some (.any,σ.set l (.box (z0a cs off (ρ x).cells))) else none
      |_=>none
     |.ep l m i off=>match σ[l]? with
      |some (.row sz xs)=>if m=xs.length then(match xs[i]? with
       |some e=>(z3a e off (ρ x).cells).map fun e'=>(.any,σ.set l (.row sz (xs.set i e')))
       |none=>none) else none
      |_=>none
     |_=>none
    else none
def zad (ρ:Operand→AV) (σ:St) (x:Operand):Option (AV×St):=match ρ x with
    |.rp cs=>some (.rp cs,σ)
    |.ptr l off=>some (.ptr l off,σ)
    |.ep l m i off=>some (.ep l m i off,σ)
    |_=>none
def zbS (ρ:Operand→AV) (σ:St) (bl:Bool) (op:BinOp) (x:Operand) (y:Operand):Option (AV×St):=match ρ x,ρ y with
    |.pl u,.pl v=>if bl=isB u then(binF op u v).map fun r=>(.pl r,σ) else none
    |_,_=>none
def zbT (ρ:Operand→AV) (σ:St) (neg:Bool) (ks:List Leaf) (x:Operand) (y:Operand):Option (AV×St):=match ρ x,ρ y with
    |.agg xs,.agg ys=>(eqCells ks xs ys).map fun b=>(.pl (.bool (neg ^^ b)),σ)
    |_,_=>none
def zcE (ρ:Operand→AV) (σ:St) (op:UnOp) (x:Operand):Option (AV×St):=match ρ x with
    |.pl u=>(unF op u).map fun r=>(.pl r,σ)
    |_=>none
def z8Q (ρ:Operand→AV) (σ:St) (k:IntKind) (x:Operand):Option (AV×St):=match intA (ρ x) with
    |some n=>some (.pl (.int k (k.wrap n)),σ)
    |none=>none
def z8R (ρ:Operand→AV) (σ:St) (off:Nat) (n:Nat) (ag:Bool) (x:Operand):Option (AV×St):=match ρ x with
    |.agg cs=>if off+n≤cs.length then(ldc n ag (cs.drop off)).map (·,σ) else none
    |_=>none
def zae (ρ:Operand→AV) (σ:St) (x:Operand) (i:Operand):Option (AV×St):=match ρ x,intA (ρ i) with
    |.pl (.string s),some n=>if 0≤n∧n<s.size then some (.pl (.int .u8 (s.data.toList.getD n.toNat 0).toNat),σ) else none
    |_,_=>none
def zaf (ρ:Operand→AV) (σ:St) (sz:Nat) (len:Nat) (ag:Bool) (x:Operand) (i:Operand):Option (AV×St):=match ρ x,intA (ρ i) with
    |.agg cs,some n=>if 0≤n∧n<len∧(n.toNat+1)*sz≤cs.length then(ldc sz ag (cs.drop (n.toNat*sz))).map (·,σ) else none
    |_,_=>none
def zag (ρ:Operand→AV) (σ:St) (off:Nat) (x:Operand):Option (AV×St):=match ρ x with
    |.rp cs=>some (.rp (cs.drop off),σ)
    |.ptr l o=>some (.ptr l (o+off),σ)
    |.ep l m i o=>some (.ep l m i (o+off),σ)
    |_=>none
def z8S (ρ:Operand→AV) (σ:St) (sz:Nat) (x:Operand) (i:Operand):Option (AV×St):=match ρ x,intA (ρ i) with
    |.sl sz' xs,some n=>if sz=sz'∧0≤n then(match xs[n.toNat]? with
     |some e=>some (.rp e.cells,σ)
     |none=>none) else none
    |.osl l m,some n=>match σ[l]? with
     |some (.row sz' xs)=>if sz=sz'∧m=xs.length∧0≤n∧n<m then some (.ep l m n.toNat 0,σ) else none
     |_=>none
    |_,_=>none
def z8T (ρ:Operand→AV) (σ:St) (sz:Nat) (len:Nat) (x:Operand) (i:Operand):Option (AV×St):=match intA (ρ i) with
    |some n=>if 0≤n∧n<len then(match ρ x with
     |.rp cs=>some (.rp (cs.drop (n.toNat*sz)),σ)
     |.ptr l o=>some (.ptr l (o+n.toNat*sz),σ)
     |.ep l m j o=>some (.ep l m j (o+n.toNat*sz),σ)
     |_=>none) else none
    |none=>none
def zbU (ρ:Operand→AV) (σ:St) (v:Value):Option (AV×St):=some (cval v,σ)
def zah (ρ:Operand→AV) (σ:St) (x:Operand):Option (AV×St):=match ρ x with
    |.pl (.string s)=>some (.pl (.int .i64 s.size),σ)
    |_=>none
def zai (ρ:Operand→AV) (σ:St) (x:Operand):Option (AV×St):=match ρ x with
    |.nils=>some (.pl (.int .i64 0),σ)
    |.zsl=>some (.pl (.int .i64 0),σ)
    |.psl _ _ n=>some (.pl (.int .i64 n),σ)
    |.sl _ xs=>some (.pl (.int .i64 xs.length),σ)
    |.osl l n=>match σ[l]? with
     |some (.row _ xs)=>if n=xs.length then some (.pl (.int .i64 n),σ) else none
     |_=>none
    |_=>none
def zaj (ρ:Operand→AV) (σ:St) (i:Nat) (x:Operand):Option (AV×St):=match ρ x with
    |.tup cs=>cs[i]?.map (·,σ)
    |_=>none
def zak (ρ:Operand→AV) (σ:St) (f:FuncId) (fs:List Operand) (cs:List Operand):Option (AV×St):=some (.fn f (fs.map ρ) (cs.map ρ),σ)
def zbV (ρ:Operand→AV) (σ:St) (sz:Nat) (x:Operand) (y:Operand):Option (AV×St):=match srcA σ sz (ρ y) with
    |some ys=>match ρ x with
     |.nils=>if ys.isEmpty then some (.nils,σ) else if ys.length≤2^32 then some (.osl σ.length ys.length,σ++[.row sz ys]) else none
     |.zsl=>if ys.isEmpty then some (.zsl,σ) else if ys.length≤2^32 then some (.osl σ.length ys.length,σ++[.row sz ys]) else none
     |.osl l n=>match σ[l]? with
      |some (.row sz' xs)=>if sz=sz'∧n=xs.length∧n+ys.length≤2^32 then some (.osl l (n+ys.length),σ.set l (.row sz (xs++ys))) else none
      |_=>none
     |_=>none
    |none=>none
def zal (ρ:Operand→AV) (σ:St) (x:Operand) (lo:Option Operand) (hi:Option Operand):Option (AV×St):=match ρ x with
    |.pl (.string s)=>match(lo.map fun o=>intA (ρ o)).getD (some 0),(hi.map fun o=>intA (ρ o)).getD (some s.size) with
     |some l,some h=>if 0≤l∧l≤h∧h≤s.size then some (.pl (.string (s.extract l.toNat h.toNat)),σ) else none
     |_,_=>none
    |_=>none
def zam (ρ:Operand→AV) (σ:St) (sz:Nat) (x:Operand) (lo:Option Operand) (hi:Option Operand):Option (AV×St):=match ρ x with
    |.sl sz' xs=>match(lo.map fun o=>intA (ρ o)).getD (some 0),(hi.map fun o=>intA (ρ o)).getD (some xs.length) with
     |some l,some h=>if sz=sz'∧0≤l∧l≤h∧h≤xs.length then some (.sl sz ((xs.take h.toNat).drop l.toNat),σ) else none
     |_,_=>none
    |_=>none
def zbW (ρ:Operand→AV) (σ:St) :Option (AV×St):=none
def zbX (ρ:Operand→AV) (σ:St) (x:Operand):Option (AV×St):=match ρ x with
    |.pl (.string s)=>some (.sl 1 (z2s s),σ)
    |_=>none
def zbY (ρ:Operand→AV) (σ:St) (x:Operand):Option (AV×St):=if(ρ x).isStr then none else match srcA σ 1 (ρ x) with
    |some ys=>(byteL ys).map fun ns=>(.pl (.string (textOf ns)),σ)
    |none=>none
def zbZ (ρ:Operand→AV) (σ:St) (x:Operand):Option (AV×St):=match ρ x with
    |.pl (.string s)=>some (.pl (.string s),σ)
    |_=>none
def zan (ρ:Operand→AV) (σ:St) (x:Operand):Option (AV×St):=match ρ x with
    |.osl l n=>match σ[l]? with
     |some (.row sz xs)=>if n=xs.length∧0<xs.length then some (.sl sz xs,σ.set l .dead) else none
     |_=>none
    |_=>none
def zc0 (ρ:Operand→AV) (σ:St) (sz:Nat) (ag:Bool) (z:List AV) (x:Operand) (y:Operand):Option (AV×St):=match intA (ρ x),intA (ρ y) with
    |some l,some c=>if 0≤l∧l≤c∧c≤4294967296 then some (.osl σ.length l.toNat,σ++[.row sz ((chunks sz ag c.toNat (z07 z c.toNat)).take l.toNat)]) else none
    |_,_=>none
def zao (ρ:Operand→AV) (σ:St) (x:Operand):Option (AV×St):=match ρ x with
    |.nils=>some (.pl (.int .i64 0),σ)
    |_=>none
def zcF (ρ:Operand→AV) (σ:St) (big:Bool) (x:Operand) (y:Operand):Option (AV×St):=match ρ x,ρ y with
    |.pl (.int k a),.pl (.int k' b)=>if k=k' then some (.pl (.int k (if big then(if b>a then b else a) else(if b<a then b else a))),σ) else none
    |_,_=>none
def zap (ρ:Operand→AV) (σ:St) (x:Operand) (y:Operand):Option (AV×St):=match srcA σ 1 (ρ y) with
    |some ys=>match ρ x with
     |.osl l n=>match σ[l]? with
      |some (.row sz xs)=>if sz=1∧n=xs.length then some (.pl (.int .i64 (Nat.min ys.length n:Nat)),σ.set l (.row 1 (ys.take (Nat.min ys.length n)++xs.drop (Nat.min ys.length n)))) else none
      |_=>none
     |.psl l off n=>match σ[l]? with
      |some (.box cs)=>if off+n≤cs.length∧ys.all AV.one then some (.pl (.int .i64 (Nat.min ys.length n:Nat)),σ.set l (.box (z0a cs off (ys.take (Nat.min ys.length n))))) else none
      |_=>none
     |_=>none
    |none=>none
def zaq (ρ:Operand→AV) (σ:St) (len:Nat) (x:Operand):Option (AV×St):=match ρ x with
    |.rp cs=>if len≤cs.length∧(cs.take len).all AV.one then some (.sl 1 (cs.take len),σ) else none
    |.ptr l off=>some (.psl l off len,σ)
    |_=>none
def zar (ρ:Operand→AV) (σ:St) (len:Nat) (x:Operand):Option (AV×St):=match ρ x with
    |.sl sz xs=>if sz=1∧0<len∧len≤xs.length∧xs.all AV.one then some (.rp (xs.take len),σ) else none
    |_=>none
def zas (ρ:Operand→AV) (σ:St) (x:Operand):Option (AV×St):=match ρ x with
    |.nils=>some (.nils,σ)
    |.zsl=>some (.zsl,σ)
    |.sl _ _=>some (.zsl,σ)
    |.osl _ _=>some (.zsl,σ)
    |_=>none
def zat (ρ:Operand→AV) (σ:St) (sz:Nat) (ag:Bool) (z:List AV) (x:Operand) (y:Operand):Option (AV×St):=match ρ x,intA (ρ y) with
    |.nils,some n=>if n=0 then some (.nils,σ) else if 0<n∧n≤4294967296 then some (.osl σ.length n.toNat,σ++[.row sz (chunks sz ag n.toNat (z07 z n.toNat))]) else none
    |_,_=>none
def zau (ρ:Operand→AV) (σ:St) (sz:Nat) (x:Operand) (lo:Option Operand) (hi:Option Operand):Option (AV×St):=match ρ x with
    |.nils=>match(lo.map fun o=>intA (ρ o)).getD (some 0),(hi.map fun o=>intA (ρ o)).getD (some 0) with
     |some l,some h=>if l=0∧h=0 then some (.nils,σ) else none
     |_,_=>none
    |.osl k n=>match σ[k]? with
     |some (.row sz' xs)=>match(lo.map fun o=>intA (ρ o)).getD (some 0),(hi.map fun o=>intA (ρ o)).getD (some xs.length) with
      |some l,some h=>if sz=sz'∧n=xs.length∧0≤l∧l≤h∧h≤xs.length then some (.osl σ.length (h.toNat-l.toNat),σ.set k .dead++[.row sz ((xs.take h.toNat).drop l.toNat)]) else none
      |_,_=>none
     |_=>none
    |_=>none
def z8U (ρ:Operand→AV) (σ:St) (g:Nat) (sz:Nat) (len:Nat) (i:Operand):Option (AV×St):=match gloA σ g,intA (ρ i) with
    |some vs,some n=>if 0≤n∧n<len then some (.rp ((vs.drop (n.toNat*sz)).map .pl),σ) else none
    |_,_=>none
def zav (ρ:Operand→AV) (σ:St) (sz:Nat) (x:Operand) (lo:Operand):Option (AV×St):=match ρ x,intA (ρ lo) with
    |.osl l n,some i=>match σ[l]? with
     |some (.row sz' xs)=>if sz=sz'∧n=xs.length∧0≤i∧i<xs.length then some (.win sz l n i.toNat,σ) else none
     |_=>none
    |_,_=>none
def zc1 (ρ:Operand→AV) (σ:St) (sz:Nat) (ag:Bool) (z:List AV) (x:Operand):Option (AV×St):=match ρ x with
    |.win sz' l n lo=>match σ[l]? with
     |some (.row sz'' xs)=>if sz=sz'∧sz=sz''∧n=xs.length∧lo<xs.length then some (.tup [],σ.set l (.row sz (xs.take lo++chunks sz ag (xs.length-lo) (z07 z (xs.length-lo))))) else none
     |_=>none
    |_=>none
def z8V (ρ:Operand→AV) (σ:St) (neg:Bool) (ptr:Bool) (x:Operand):Option (AV×St):=(nilA2 σ ptr (ρ x)).map fun b=>(.pl (.bool (neg ^^ b)),σ)
noncomputable def aopT:AO→(Operand→AV)→St→Option (AV×St):=fun ao=>AO.rec (motive:=fun _=>(Operand→AV)→St→Option (AV×St)) (fun x ρ σ=>zbQ ρ σ x) (fun c a b ρ σ=>za9 ρ σ c a b) (fun x ρ σ=>zaa ρ σ x) (fun x ρ σ=>zab ρ σ x) (fun z ρ σ=>z7T ρ σ z) (fun z ps ρ σ=>z8O ρ σ z ps) (fun own sz ag n z ps ρ σ=>zbR ρ σ own sz ag n z ps) (fun n ag x ρ σ=>zac ρ σ n ag x) (fun n a x ρ σ=>z8P ρ σ n a x) (fun x ρ σ=>zad ρ σ x) (fun bl op x y ρ σ=>zbS ρ σ bl op x y) (fun neg ks x y ρ σ=>zbT ρ σ neg ks x y) (fun op x ρ σ=>zcE ρ σ op x) (fun k x ρ σ=>z8Q ρ σ k x) (fun off n ag x ρ σ=>z8R ρ σ off n ag x) (fun x i ρ σ=>zae ρ σ x i) (fun sz len ag x i ρ σ=>zaf ρ σ sz len ag x i) (fun off x ρ σ=>zag ρ σ off x) (fun sz x i ρ σ=>z8S ρ σ sz x i) (fun sz len x i ρ σ=>z8T ρ σ sz len x i) (fun v ρ σ=>zbU ρ σ v) (fun x ρ σ=>zah ρ σ x) (fun x ρ σ=>zai ρ σ x) (fun i x ρ σ=>zaj ρ σ i x) (fun f fs cs ρ σ=>zak ρ σ f fs cs) (fun sz x y ρ σ=>zbV ρ σ sz x y) (fun x lo hi ρ σ=>zal ρ σ x lo hi) (fun sz x lo hi ρ σ=>zam ρ σ sz x lo hi) (fun ρ σ=>zbW ρ σ) (fun x ρ σ=>zbX ρ σ x) (fun x ρ σ=>zbY ρ σ x) (fun x ρ σ=>zbZ ρ σ x) (fun x ρ σ=>zan ρ σ x) (fun sz ag z x y ρ σ=>zc0 ρ σ sz ag z x y) (fun x ρ σ=>zao ρ σ x) (fun big x y ρ σ=>zcF ρ σ big x y) (fun x y ρ σ=>zap ρ σ x y) (fun len x ρ σ=>zaq ρ σ len x) (fun len x ρ σ=>zar ρ σ len x) (fun x ρ σ=>zas ρ σ x) (fun sz ag z x y ρ σ=>zat ρ σ sz ag z x y) (fun sz x lo hi ρ σ=>zau ρ σ sz x lo hi) (fun neg ptr x ρ σ=>z8V ρ σ neg ptr x) (fun g sz len i ρ σ=>z8U ρ σ g sz len i) (fun sz x lo ρ σ=>zav ρ σ sz x lo) (fun sz ag z x ρ σ=>zc1 ρ σ sz ag z x) ao
noncomputable def aopF (ρ:Operand→AV) (σ:St) (ao:AO):Option (AV×St):=aopT ao ρ σ
theorem zc2 (ρ:Operand→AV) (σ:St) (ao:AO):aopF ρ σ ao=aop ρ σ ao:=by cases ao<;>rfl
noncomputable def stillT:AO→Bool:=fun ao=>AO.rec (motive:=fun _=>Bool) (fun _=>true) (fun _ _ _=>true) (fun _=>true) (fun _=>false) (fun _=>false) (fun _ _=>true) (fun own _ _ _ _ _=>!own) (fun _ _ _=>true) (fun _ _ _=>false) (fun _=>true) (fun _ _ _ _=>true) (fun _ _ _ _=>true) (fun _ _=>true) (fun _ _=>true) (fun _ _ _ _=>true) (fun _ _=>true) (fun _ _ _ _ _=>true) (fun _ _=>true) (fun _ _ _=>true) (fun _ _ _ _=>true) (fun _=>true) (fun _=>true) (fun _=>true) (fun _ _=>true) (fun _ _ _=>true) (fun _ _ _=>false) (fun _ _ _=>true) (fun _ _ _ _=>true) true (fun _=>true) (fun _=>true) (fun _=>true) (fun _=>false) (fun _ _ _ _ _=>false) (fun _=>true) (fun _ _ _=>true) (fun _ _=>false) (fun _ _=>true) (fun _ _=>true) (fun _=>true) (fun _ _ _ _ _=>false) (fun _ _ _ _=>false) (fun _ _ _=>true) (fun _ _ _ _=>true) (fun _ _ _=>true) (fun _ _ _ _=>false) ao
noncomputable def frcR {α β:Type} (l:List β):(List β→α)→α :=
 List.rec (motive:=fun _=>(List β→α)→α) (fun k=>k []) (fun x _ ih k=>ih fun ys=>k (x::ys)) l
theorem z2C {α β:Type}:∀(l:List β) (k:List β→α),frcR l k=k l
 |[],_=>rfl
 |x::xs,k=>by
  have:frcR (x::xs) k=frcR xs fun ys=>k (x::ys):=rfl
  rw[this,z2C xs]
/- A value brought to its form: each way by itself. -/
noncomputable def findR {P:Program} (f:FuncId) (C:List (Fun P)):Option (Fun P) :=
 List.rec (motive:=fun _=>Option (Fun P)) none (fun F _ ih=>Bool.rec (motive:=fun _=>Option (Fun P)) ih (some F) (Nat.beq F.f f)) C
theorem z73 {P:Program} (f:FuncId):∀C:List (Fun P),findR f C=findF f C
 |[]=>rfl
 |F::C=>by
  have:findR f (F::C)=Bool.rec (motive:=fun _=>Option (Fun P)) (findR f C) (some F) (Nat.beq F.f f):=rfl
  rw[this,z73 f C]
  unfold findF
  cases hb:Nat.beq F.f f with
  |true=>rw[if_pos (Nat.eq_of_beq_eq_true hb)]
  |false=>rw[if_neg (Nat.ne_of_beq_eq_false hb)];cases C<;>rfl
structure Memo (P:Program) where
 f:FuncId
 args:List AV
 σ:St
 r:AV
 σ':St
 ok:Ans P f args σ r σ'
noncomputable def findM {P:Program} (f:FuncId) (args:List AV) (σ:St) (Ms:List (Memo P)):Option (AV×St) :=
 List.rec (motive:=fun _=>Option (AV×St)) none (fun M _ ih=>Bool.rec (motive:=fun _=>Option (AV×St)) ih (some (M.r,M.σ')) (Nat.beq M.f f&&sameL args M.args&&z1G σ M.σ)) Ms
theorem z74 {P:Program} {f:FuncId} {args:List AV} {σ:St} {r:AV} {σ':St}:∀{Ms:List (Memo P)},findM f args σ Ms=some (r,σ')→Ans P f args σ r σ'
 |[],h=>by cases h
 |M::Ms,h=>by
  have e:findM f args σ (M::Ms)=Bool.rec (motive:=fun _=>Option (AV×St)) (findM f args σ Ms) (some (M.r,M.σ')) (Nat.beq M.f f&&sameL args M.args&&z1G σ M.σ):=rfl
  rw[e]at h
  cases hb:(Nat.beq M.f f&&sameL args M.args&&z1G σ M.σ) with
  |true =>
   rw[hb]at h
   simp only[Option.some.injEq,Prod.mk.injEq]at h
   simp only[Bool.and_eq_true]at hb
   have h1:=Nat.eq_of_beq_eq_true hb.1.1
   have h2:=z1g _ _ hb.1.2
   have h3:=z2b hb.2
   subst h1;subst h2;subst h3
   rw[←h.1,←h.2]
   exact M.ok
  |false =>
   rw[hb]at h
   exact z74 h
end Go.Ab
