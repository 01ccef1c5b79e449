/- From the abstract run of a body to what a call answers; and what follows of one answer for another store of objects. No condition. -/
import Derived.Test.YteakobbdgehlgaaGreatDoorAbCodeE3
set_option linter.unusedSimpArgs false
set_option linter.unusedVariables false
set_option linter.unusedSectionVars false
namespace Go.Ab
open Go
inductive RV where
 |tmp (t:Tmp)
 |cell (a:Tmp) (n:Nat) (ag:Bool)
def rvOf (P:Program):ResultVar→Option RV
 |.tmp t=>some (.tmp t)
 |.cell a t=>(szOf P t).bind fun n=>(agOf P t).map fun ag=>.cell a n ag
def rvA (env:Env) (σ:St):RV→Option AV
 |.tmp t=>some (tmpA env t)
 |.cell a n ag=>match tmpA env a with
  |.any=>none
  |x=>loadA σ n ag x
def oneOf:List AV→AV
 |[x]=>x
 |xs=>.tup xs
def resA (env:Env) (σ:St) (rvs:List RV):Option AV:=(z03 (rvs.map (rvA env σ))).map oneOf
def Fini (n0:Nat) (rvs:List RV) (r:AV) (σ':St):AExit→Env→St→Prop
 |.exit _,_,_=>False
 |_,env,σ=>∃r1 σ1,resA env σ rvs=some r1∧r1=r∧σ1=σ∧(σ'=σ1∨(n0≤σ'.length∧σ'=σ1.take σ'.length∧Bel σ'.length r∧∀o∈σ',BelO σ'.length o))
section
variable {P:Program} {M:Nat→Prop} {σ σ':St} {ν:Nat→Value} {w:World} {R:Ref→Value→Prop}
theorem z9p {n:Nat} {ag:Bool} {a r:AV} {v:Value} (h:loadA σ n ag a=some r) (hr:Rep M R w a v):∃x,v=.pointer (some x):=by
 cases a<;>simp[loadA]at h
 · obtain⟨b,o,_,e,_⟩:=hr.rp_inv;exact⟨_,e⟩
 · obtain⟨b,o,e,_⟩:=hr.ptr_inv;exact⟨_,e⟩
 · obtain⟨b,o,e,_⟩:=hr.ep_inv;exact⟨_,e⟩
theorem z9q {fn:Func} {u0:List RV} {env:Env} {a:Act} {r:AV} (q0:fn.results.toList.map (rvOf P)=u0.map some) (h:resA env σ u0=some r) (g:Good M σ ν w)
  (he:EnvR M (RefOK σ ν) w env a):∃v,(results fn a.tmps).run P w=.ok v w∧Rep M (RefOK σ ν) w r v:=by
 unfold resA at h;obtain⟨xs,e0,rfl⟩:=z02 h;have m0:=z40 e0
 have key:∀(l:List ResultVar) (u0:List RV) (xs:List AV),l.map (rvOf P)=u0.map some→u0.map (rvA env σ)=xs.map some →
   ∃vs:List Value,(∀f:ResultVar→Sem Value,(∀t,f (.tmp t)=pure (a.tmps.getD t undef))→(∀c t,f (.cell c t)=do loadVar t (←asAddr (a.tmps.getD c undef)))→(l.mapM f).run P w=.ok vs w)∧Reps M (RefOK σ ν) w xs vs:=by
  intro l
  induction l with
  |nil =>
   intro u0 xs h1 h2;cases u0<;>simp at h1
   cases xs<;>simp at h2
   exact⟨[],fun _ _ _=>rfl,.nil⟩
  |cons rv l ih =>
   intro u0 xs h1 h2
   cases u0 with
   |nil=>simp at h1
   |cons q u0 =>
    cases xs with
    |nil=>simp at h2
    |cons x xs =>
     simp only[List.map_cons,List.cons.injEq]at h1 h2;obtain⟨vs,n0,hr⟩:=ih u0 xs h1.2 h2.2
     have k0:∃v,(∀f:ResultVar→Sem Value,(∀t,f (.tmp t)=pure (a.tmps.getD t undef))→(∀c t,f (.cell c t)=do loadVar t (←asAddr (a.tmps.getD c undef)))→(f rv).run P w=.ok v w)∧Rep M (RefOK σ ν) w x v:=by
      cases rv with
      |tmp t =>
       simp[rvOf]at h1;rw[←h1.1]at h2;simp[rvA]at h2;exact⟨_,fun f q1 _=>by rw[q1];rfl,by rw[←h2.1];exact he.rep t⟩
      |cell c t =>
       simp only[rvOf]at h1;obtain⟨n,hn,d0⟩:=z06 h1.1;obtain⟨ag,t0,rfl⟩:=z02 d0
       have r0:loadA σ n ag (tmpA env c)=some x:=by
        have:=h2.1;simp only[rvA]at this;split at this
        · cases this
        · exact this
       obtain⟨p,hp⟩:=z9p r0 (he.rep c)
       have hw:(Instr.loadAt t (a.tmps.getD c undef)).run P w=(do loadVar t (←asAddr (a.tmps.getD c undef)):Sem Value).run P w:=by
        rw[hp];rfl
       obtain⟨v,h3,h4⟩:=z82 (P:=P) g hn t0 (he.rep c) r0;exact⟨v,fun f _ q2=>by rw[q2,←hw];exact h3,h4⟩
     obtain⟨v,hv,q0⟩:=k0;refine⟨v::vs,fun f q1 q2=>?_,.cons q0 hr⟩
     simp only[List.mapM_cons,Sem.run_bind,hv f q1 q2,Result.andThen,n0 f q1 q2,Sem.run_pure]
 obtain⟨vs,n0,hr⟩:=key _ u0 xs q0 m0
 have y0:∀(f:ResultVar→Sem Value),(∀t,f (.tmp t)=pure (a.tmps.getD t undef))→(∀c t,f (.cell c t)=do loadVar t (←asAddr (a.tmps.getD c undef))) →
   ((do let us ←fn.results.mapM f;pure (if h:us.size=1 then us[0] else .tuple us)):Sem Value).run P w=.ok (if h:vs.toArray.size=1 then vs.toArray[0] else .tuple vs.toArray) w:=by
  intro f q1 q2;rw[Array.mapM_eq_mapM_toList];simp only[Sem.run_bind,Sem.run_map,n0 f q1 q2,Result.andThen,Sem.run_pure]
 have j0:(results fn a.tmps).run P w=.ok (if h:vs.toArray.size=1 then vs.toArray[0] else .tuple vs.toArray) w:=y0 _ (fun _=>rfl) (fun _ _=>rfl)
 refine⟨_,j0,?_⟩
 match xs,vs,hr with
 |[],[],hr=>exact .of_tup hr
 |[x],[v],hr=>exact hr.head
 |x::y::xs,u::v::vs,hr => 
  simp only[List.size_toArray,List.length_cons];rw[dif_neg (by omega)]
  exact .of_tup hr
 |[],_::_,hr=>simp[Reps]at hr
 |_::_,[],hr=>simp[Reps]at hr
 |[_],_::_::_,hr=>simp[Reps]at hr
 |_::_::_,[_],hr=>simp[Reps]at hr
structure Text (P:Program) (f:FuncId) (own:List Tmp) (x:ACode) (rvs:List RV) (n:Nat):Prop where
 fn : ∃ fn c, P.funcs[f]? = some fn ∧ (fn.name == "runtime.NumGoroutine") = false ∧ fn.body = some c ∧ cc P own c x = some x ∧ fn.results.toList.map (rvOf P) = rvs.map some ∧ fn.ntmps = n
 mixed:P.follows .mixedOrders=true
theorem Ans.of_ax {f:FuncId} {own:List Tmp} {x:ACode} {rvs:List RV} {n:Nat} {args:List AV} {r:AV} (ht:Text P f own x rvs n)
  (h:ax P σ.length x (Fini σ.length rvs r σ') (args++List.replicate (n-args.length) .any) σ):Ans P f args σ r σ':=by
 obtain⟨fn,c,hf,u0,hb,q0,y0,hn⟩:=ht.fn;intro M ν w vs g hvs;refine .inl ⟨⟨fn,hf,u0,by rw[hb];rfl⟩,?_⟩
 refine calls_of_wp hf hb ?_;have hlen:args.length=vs.length:=hvs.1
 have hA:At ⟨M,σ,ν,w,[]⟩ (args++List.replicate (n-args.length) .any) σ { tmps:=vs.toArray++Array.replicate (fn.ntmps-vs.toArray.size) undef,defers:=[] } w:=by
  refine⟨M,ν,g,.refl,⟨by simp[hlen,hn],fun t=>?_⟩,rfl⟩
  unfold tmpA;rw[List.getD_eq_getElem?_getD];by_cases h1:t<args.length
  · have h2:t<vs.length:=by omega
    rw[List.getElem?_append_left h1];simp only[Array.getD_eq_getD_getElem?];rw[Array.getElem?_append_left (by simpa using h2)]
    simpa[h1,h2] using hvs.2 t h1 h2
  · rw[List.getElem?_append_right (by omega)]
    by_cases h3:t-args.length<n-args.length
    · simp[h3];exact .any _
    · simp[h3];exact .any _
 refine zeL ht.mixed x c _ _ _ σ _ w q0 h hA fun e env' σ1 a' w' hk hA'=>?_
 obtain⟨M',ν',g',l',e',d'⟩:=hA'
 have fin:(∃r1 s1,resA env' σ1 rvs=some r1∧r1=r∧s1=σ1∧(σ'=s1∨(σ.length≤σ'.length∧σ'=s1.take σ'.length∧Bel σ'.length r∧∀o∈σ',BelO σ'.length o))) →
   a'.defers=[]∧∃v,(results fn a'.tmps).run P w'=.ok v w'∧∃v',Ending.returned v=.returned v'∧After M σ ν w r σ' v' w':=by
  rintro⟨r1,s1,h1,rfl,rfl,h2⟩;obtain⟨v,hv,hr⟩:=z9q y0 h1 g' e';refine⟨d',v,hv,v,rfl,?_⟩;rcases h2 with rfl|⟨h3,h4,h5,h6⟩
  · exact⟨M',ν',g',l',hr⟩
  · generalize σ'.length=m at *;subst h4;exact⟨M',ν',g'.take h6,l'.take h3,hr.take h5⟩
 cases e with
 |normal=>exact fin hk
 |exit id=>exact hk.elim
 |ret=>exact fin hk
end
abbrev pr_ (d:Tmp) (a:AO):AOper:=⟨some d,none,.prim a⟩
abbrev mv_ (d s:Tmp):AOper:=⟨some d,none,.prim (.mov (.tmp s))⟩
abbrev st_ (a:AO):AOper:=⟨none,none,.prim a⟩
abbrev cl_ (d:Tmp) (f:FuncId) (xs:List Operand):AOper:=⟨some d,none,.call (.func f) xs⟩
abbrev gp_ (d t:Tmp) (b:Bool) (a:AO):AOper:=⟨some d,some (t,b),.prim a⟩
abbrev mf_:AO:=.mov (.const (.bool false))
abbrev mt_:AO:=.mov (.const (.bool true))
abbrev pa_ (a b:Tmp):AO:=.pick (.tmp a) (.tmp b) (.const (.bool false))
abbrev po_ (a b:Tmp):AO:=.pick (.tmp a) (.const (.bool true)) (.tmp b)
abbrev lf_ (n:Nat) (a:Tmp):AO:=.load n false (.tmp a)
abbrev lt_ (n:Nat) (a:Tmp):AO:=.load n true (.tmp a)
abbrev fa_ (n:Nat) (a:Tmp):AO:=.fadr n (.tmp a)
abbrev so_ (n:Nat) (a b:Tmp):AO:=.store n (.tmp a) (.tmp b)
abbrev ex_ (n:Nat) (a:Tmp):AO:=.extr n (.tmp a)
abbrev bk_ (o:BinOp) (a:Tmp) (k:IntKind) (v:Int):AO:=.bin false o (.tmp a) (.const (.int k v))
abbrev bt_ (o:BinOp) (a b:Tmp):AO:=.bin false o (.tmp a) (.tmp b)
abbrev mi_ (k:IntKind) (v:Int):AO:=.mov (.const (.int k v))
abbrev mo_ (a:Tmp):AO:=.mov (.tmp a)
abbrev no_ (a:Tmp):AO:=.un .not (.tmp a)
abbrev nc_ (a:Tmp):AO:=.nilc (.tmp a)
abbrev c1_ (d:Tmp) (f:FuncId) (a:Tmp):AOper:=⟨some d,none,.call (.func f) [.tmp a]⟩
abbrev sq_ (l:List AOper) (x:ACode):ACode:=.seq (.ops l) x
abbrev z6_:List AV:=[.pl (.int .i64 0),.pl (.int .u64 0),.pl (.int .u64 0),.pl (.int .u64 0),.pl (.int .u64 0),.nils]
abbrev z19_:List AV:=[.pl (.string .empty),.pl (.int .i64 0),.pl (.int .i64 0),.pl (.string .empty),.pl (.int .u64 0),.pl (.int .u64 0),.pl (.int .i64 0),.nils,.pl (.bool false),.pl (.float .f64 0),.pl (.float .f64 0),.nils,.nils,.pl (.bool false),.pl (.float .f64 0),.pl (.float .f64 0),.nils,.nils,.pl (.float .f64 0)]
theorem Text.mk_ {P : Program} {f : FuncId} {own : List Tmp} {x : ACode} {rvs : List RV} {n : Nat} (fn : Func) {c : Code} (h3 : fn.body = some c) (h1 : P.funcs[f]? = some fn := by kernel_rfl) (h2 : (fn.name == "runtime.NumGoroutine") = false := by kernel_rfl)
  (h4:cc P own c x=some x:=by kernel_rfl) (h5:fn.results.toList.map (rvOf P)=rvs.map some:=by kernel_rfl) (h6:fn.ntmps=n:=by rfl) (h7:P.follows .mixedOrders=true:=by kernel_rfl):Text P f own x rvs n :=
 ⟨⟨fn,c,h1,h2,h3,h4,h5,h6⟩,h7⟩
abbrev gc_ (d t:Tmp) (b:Bool) (f:FuncId) (xs:List Operand):AOper:=⟨some d,some (t,b),.call (.func f) xs⟩
inductive Fr where
 |seq (b:ACode)
 |block (id:Nat)
 |after (g:Ghost)
 |loop (I:Env→St→Prop) (clr:List Tmp)
abbrev Bs:=AExit→Env→St→Prop
def kk (P:Program) (n0:Nat):List Fr→Bs→Bs
 |[],B=>B
 |.seq b::k,B=>fun e env σ=>match e with
  |.normal=>ax P n0 b (kk P n0 k B) env σ
  |e=>kk P n0 k B e env σ
 |.block id::k,B=>fun e env σ=>match e with
  |.exit j=>if j=id then kk P n0 k B .normal env σ else kk P n0 k B (.exit j) env σ
  |e=>kk P n0 k B e env σ
 |.after g::k,B=>fun e env σ=>match e with
  |.normal=>gh n0 g env σ (kk P n0 k B .normal)
  |e=>kk P n0 k B e env σ
 |.loop I clr::k,B=>fun e env σ=>match e with
  |.normal=>I (z4i env clr) σ
  |e=>kk P n0 k B e env σ
section
variable (P:Program) (n0:Nat)
def R (x:ACode) (k:List Fr) (B:Bs) (env:Env) (σ:St):Prop:=ax P n0 x (kk P n0 k B) env σ
def N (k:List Fr) (B:Bs) (env:Env) (σ:St):Prop:=kk P n0 k B .normal env σ
def X (id:Nat) (k:List Fr) (B:Bs) (env:Env) (σ:St):Prop:=kk P n0 k B (.exit id) env σ
def T (k:List Fr) (B:Bs) (env:Env) (σ:St):Prop:=kk P n0 k B .ret env σ
def O (l:List AOper) (k:List Fr) (B:Bs) (env:Env) (σ:St):Prop:=axops P (fun env σ=>N P n0 k B env σ) l env σ
def D (l:List DOper) (k:List Fr) (B:Bs) (env:Env) (S:List St) (σ:St) (ob:List St→Prop):Prop:=axd P (fun env σ=>N P n0 k B env σ) l env S σ ob
def C (t:Bool) (x y:ACode) (k:List Fr) (B:Bs) (env:Env) (σ:St):Prop:=if t then R P n0 x k B env σ else R P n0 y k B env σ
def L (clr:List Tmp) (x:ACode) (k:List Fr) (B:Bs) (env:Env) (σ:St):Prop:=LoopP (fun I env σ=>R P n0 x (.loop I clr::k) B env σ) env σ
def G (g:Ghost) (env:Env) (σ:St) (x:ACode) (k:List Fr) (B:Bs):Prop:=gh n0 g env σ fun env σ=>R P n0 x k B env σ
def OG (w:Bool) (d:Option Tmp) (op:AOp) (l:List AOper) (k:List Fr) (B:Bs) (env:Env) (σ:St):Prop :=
 if w then O P n0 (⟨d,none,op⟩::l) k B env σ else O P n0 l k B (putA env d (.tup [])) σ
def DG (w:Bool) (d:Option Tmp) (op:AOp) (bef:List Nat) (eff:Bool) (lo hi:Nat) (l:List DOper) (k:List Fr) (B:Bs) (env:Env) (S:List St) (σ:St) (ob:List St→Prop):Prop :=
 if w then D P n0 (⟨⟨d,none,op⟩,bef,eff,lo,hi⟩::l) k B env S σ ob else D P n0 l k B (putA env d (.tup [])) (if eff then S++[σ] else S) σ ob
def CO (f:FuncId) (args:List AV) (d:Option Tmp) (l:List AOper) (k:List Fr) (B:Bs) (env:Env) (σ:St):Prop :=
 ∃r σ',Ans P f args σ r σ'∧O P n0 l k B (putA env d r) σ'
def CD (f:FuncId) (args:List AV) (d:Option Tmp) (l:List DOper) (k:List Fr) (B:Bs) (env:Env) (S:List St) (σ:St) (ob:List St→Prop):Prop :=
 ∃r σ',Ans P f args σ r σ'∧D P n0 l k B (putA env d r) (S++[σ']) σ' ob
section
variable {P n0} {k:List Fr} {B:Bs} {env:Env} {σ:St} {S:List St} {ob:List St→Prop}
theorem R_seq (a b:ACode):R P n0 (.seq a b) k B env σ=R P n0 a (.seq b::k) B env σ:=by
 unfold R;simp only[ax];rfl
theorem ziq:R P n0 .skip k B env σ=N P n0 k B env σ:=rfl
theorem R_ret:R P n0 .ret k B env σ=T P n0 k B env σ:=rfl
theorem zir (id:Nat):R P n0 (.exit id) k B env σ=X P n0 id k B env σ:=rfl
theorem R_ops (l:List AOper):R P n0 (.ops l) k B env σ=O P n0 l k B env σ:=rfl
theorem zis (l:List DOper):R P n0 (.draw l) k B env σ=D P n0 l k B env [σ] σ (fun _=>True):=rfl
theorem zgZ (id:Nat) (a:ACode):R P n0 (.block id a) k B env σ=R P n0 a (.block id::k) B env σ:=by
 unfold R;simp only[ax];rfl
theorem zh0 (a:ACode) (g:Ghost):R P n0 (.after a g) k B env σ=R P n0 a (.after g::k) B env σ:=by
 unfold R;simp only[ax];rfl
theorem zh1 (a:ACode) (g:Ghost):R P n0 (.ghost g a) k B env σ=G P n0 g env σ a k B:=rfl
theorem zit (c:Operand) (a b:ACode):R P n0 (.cond c a b) k B env σ=(match boolA (aev env c) with
  |some t=>C P n0 t a b k B env σ
  |none=>False):=by
 unfold R;simp only[ax];cases boolA (aev env c) with
 |none=>rfl
 |some t=>cases t<;>rfl
theorem ziu (clr:List Tmp) (a:ACode):R P n0 (.loop clr a) k B env σ=L P n0 clr a k B (z4i env clr) σ:=by
 unfold R L;simp only[ax];rfl
theorem N_seq (b:ACode):N P n0 (.seq b::k) B env σ=R P n0 b k B env σ:=rfl
theorem zh2 (id:Nat):N P n0 (.block id::k) B env σ=N P n0 k B env σ:=rfl
theorem zh3 (g:Ghost):N P n0 (.after g::k) B env σ=G P n0 g env σ .skip k B:=rfl
theorem ziv (I:Env→St→Prop) (clr:List Tmp):N P n0 (.loop I clr::k) B env σ=I (z4i env clr) σ:=rfl
theorem N_nil:N P n0 [] B env σ=B .normal env σ:=rfl
theorem X_seq (id:Nat) (b:ACode):X P n0 id (.seq b::k) B env σ=X P n0 id k B env σ:=rfl
theorem zh4 (id:Nat) (g:Ghost):X P n0 id (.after g::k) B env σ=X P n0 id k B env σ:=rfl
theorem ziw (id:Nat) (I:Env→St→Prop) (clr:List Tmp):X P n0 id (.loop I clr::k) B env σ=X P n0 id k B env σ:=rfl
theorem zh5 (id j:Nat):X P n0 id (.block j::k) B env σ=if id=j then N P n0 k B env σ else X P n0 id k B env σ:=rfl
theorem T_seq (b:ACode):T P n0 (.seq b::k) B env σ=T P n0 k B env σ:=rfl
theorem zh6 (id:Nat):T P n0 (.block id::k) B env σ=T P n0 k B env σ:=rfl
theorem zh7 (g:Ghost):T P n0 (.after g::k) B env σ=T P n0 k B env σ:=rfl
theorem zix (I:Env→St→Prop) (clr:List Tmp):T P n0 (.loop I clr::k) B env σ=T P n0 k B env σ:=rfl
theorem T_nil:T P n0 [] B env σ=B .ret env σ:=rfl
theorem ziy (x y:ACode):C P n0 true x y k B env σ=R P n0 x k B env σ:=rfl
theorem zh8 (x y:ACode):C P n0 false x y k B env σ=R P n0 y k B env σ:=rfl
theorem O_nil:O P n0 [] k B env σ=N P n0 k B env σ:=rfl
theorem ziz (d:Option Tmp) (ao:AO) (l:List AOper):O P n0 (⟨d,none,.prim ao⟩::l) k B env σ=(match aop (aev env) σ ao with
  |some (r,σ')=>O P n0 l k B (putA env d r) σ'
  |none=>False):=rfl
theorem zh9 (t:Option Tmp) (n d:Nat) (x:Operand) (l:List AOper):O P n0 (⟨t,none,.fresh n d x⟩::l) k B env σ =
  if d<env.length∧(aev env x).okc∧(aev env x).cells.length=n then O P n0 l k B (putA env t (.rp (aev env x).cells)) σ else False:=rfl
theorem zha (d:Option Tmp) (t:Tmp) (w:Bool) (op:AOp) (l:List AOper):O P n0 (⟨d,some (t,w),op⟩::l) k B env σ=(match wantA env (some (t,w)) with
  |some b=>OG P n0 b d op l k B env σ
  |none=>False):=by
 unfold O;simp only[axops];cases wantA env (some (t,w)) with
 |none=>rfl
 |some b=>cases b<;>rfl
theorem zhb (d:Option Tmp) (op:AOp) (l:List AOper):OG P n0 true d op l k B env σ=O P n0 (⟨d,none,op⟩::l) k B env σ:=rfl
theorem zeM (d:Option Tmp) (op:AOp) (l:List AOper):OG P n0 false d op l k B env σ=O P n0 l k B (putA env d (.tup [])) σ:=rfl
theorem ziA (d:Option Tmp) (f:Operand) (args:List Operand) (l:List AOper):O P n0 (⟨d,none,.call f args⟩::l) k B env σ=(match aev env f with
  |.fn g fs cs=>CO P n0 g (fs++args.map (aev env)++cs) d l k B env σ
  |_=>False):=rfl
theorem CO.intro {f:FuncId} {args:List AV} {d:Option Tmp} {l:List AOper} {r:AV} {σ':St} (h:Ans P f args σ r σ') (h':O P n0 l k B (putA env d r) σ'):CO P n0 f args d l k B env σ:=⟨r,σ',h,h'⟩
theorem D_nil:D P n0 [] k B env S σ ob=(ob S∧N P n0 k B env σ):=rfl
theorem D_eff (d:Option Tmp) (ao:AO) (bef:List Nat) (lo hi:Nat) (l:List DOper):D P n0 (⟨⟨d,none,.prim ao⟩,bef,true,lo,hi⟩::l) k B env S σ ob=(match aop (aev env) σ ao with
  |some (r,σ')=>D P n0 l k B (putA env d r) (S++[σ']) σ' ob
  |none=>False):=rfl
theorem ziB (d:Option Tmp) (ao:AO) (bef:List Nat) (lo hi:Nat) (l:List DOper):D P n0 (⟨⟨d,none,.prim ao⟩,bef,false,lo,hi⟩::l) k B env S σ ob=(match aop (aev env) σ ao with
  |some (r,σ')=>σ'=σ∧D P n0 l k B (putA env d r) S σ (fun T=>ob T∧∀s∈(T.take (hi+1)).drop lo,aop (aev env) s ao=some (r,s))
  |none=>False):=by
 unfold D;simp only[axd,wantA,Bool.false_eq_true,if_false,stay]
 cases h:aop (aev env) σ ao with
 |none=>simp
 |some x =>
  obtain⟨r,σ'⟩:=x;simp only[Option.some.injEq,Prod.mk.injEq];apply propext;constructor
  · rintro⟨r',⟨rfl,rfl⟩,h2⟩;exact⟨rfl,h2⟩
  · rintro⟨rfl,h2⟩;exact⟨r,⟨rfl,rfl⟩,h2⟩
theorem D_flo (d:Option Tmp) (n:Nat) (bef:List Nat) (lo hi:Nat) (l:List DOper):D P n0 (⟨⟨d,none,.flo n⟩,bef,false,lo,hi⟩::l) k B env S σ ob =
  D P n0 l k B (putA env d .any) S σ (fun T=>ob T∧∀s∈(T.take (hi+1)).drop lo,True):=by
 unfold D;simp only[axd,wantA,Bool.false_eq_true,if_false,stay];apply propext;constructor
 · rintro⟨r,rfl,h⟩;simpa using h
 · intro h;exact⟨.any,rfl,by simpa using h⟩
theorem zhc (t:Option Tmp) (own:Bool) (d n:Nat) (x:Operand) (bef:List Nat) (lo hi:Nat) (l:List DOper):D P n0 (⟨⟨t,none,.adopt own d n x⟩,bef,true,lo,hi⟩::l) k B env S σ ob =
  if d<env.length∧(aev env x).okc∧(aev env x).cells.length=n then
   D P n0 l k B (putA env t (if own then .ptr σ.length 0 else .rp (aev env x).cells)) (S++[if own then σ++[.box (aev env x).cells] else σ]) (if own then σ++[.box (aev env x).cells] else σ) ob else False:=by
 unfold D;simp only[axd,wantA,if_true,axop];split
 · cases own<;>rfl
 · rfl
theorem zhd (d:Option Tmp) (t:Tmp) (w:Bool) (op:AOp) (bef:List Nat) (eff:Bool) (lo hi:Nat) (l:List DOper):D P n0 (⟨⟨d,some (t,w),op⟩,bef,eff,lo,hi⟩::l) k B env S σ ob =
  (match wantA env (some (t,w)) with
  |some b=>DG P n0 b d op bef eff lo hi l k B env S σ ob
  |none=>False):=by
 unfold D;simp only[axd];cases wantA env (some (t,w)) with
 |none=>rfl
 |some b=>cases b<;>rfl
theorem zhe (d:Option Tmp) (op:AOp) (bef:List Nat) (eff:Bool) (lo hi:Nat) (l:List DOper):DG P n0 true d op bef eff lo hi l k B env S σ ob=D P n0 (⟨⟨d,none,op⟩,bef,eff,lo,hi⟩::l) k B env S σ ob:=rfl
theorem zeN (d:Option Tmp) (op:AOp) (bef:List Nat) (eff:Bool) (lo hi:Nat) (l:List DOper):DG P n0 false d op bef eff lo hi l k B env S σ ob=D P n0 l k B (putA env d (.tup [])) (if eff then S++[σ] else S) σ ob:=rfl
theorem ziC (d:Option Tmp) (f:Operand) (args:List Operand) (bef:List Nat) (lo hi:Nat) (l:List DOper):D P n0 (⟨⟨d,none,.call f args⟩,bef,true,lo,hi⟩::l) k B env S σ ob=(match aev env f with
  |.fn g fs cs=>CD P n0 g (fs++args.map (aev env)++cs) d l k B env S σ ob
  |_=>False):=by
 unfold D CD;simp only[axd,wantA,if_true,axop];cases aev env f<;>rfl
theorem CD.intro {f:FuncId} {args:List AV} {d:Option Tmp} {l:List DOper} {r:AV} {σ':St} (h:Ans P f args σ r σ') (h':D P n0 l k B (putA env d r) (S++[σ']) σ' ob):CD P n0 f args d l k B env S σ ob:=⟨r,σ',h,h'⟩
theorem zeO (d:Tmp) (r:AV):putA env (some d) r=env.set d r:=rfl
theorem zeP (r:AV):putA env none r=env:=rfl
theorem L.intro {α:Type} (m:α→Nat) (E:α→Env) (Z:α→St) {clr:List Tmp} {x:ACode}
  (h:∀(a:α) (I:Env→St→Prop),(∀a',m a'<m a→I (E a') (Z a'))→R P n0 x (.loop I clr::k) B (E a) (Z a)) (a:α) (he:env=E a) (hs:σ=Z a):L P n0 clr x k B env σ:=by
 subst he;subst hs;intro I hI
 have key:∀n a,m a=n→I (E a) (Z a):=by
  intro n
  induction n using Nat.strongRecOn with
  |ind n ih =>
   intro a ha;exact hI _ _ (h a I fun a' u0=>ih (m a') (ha▸u0) a' rfl)
 exact key _ a rfl
theorem L.count (n:Nat) (E:Nat→Env) (Z:Nat→St) {clr:List Tmp} {x:ACode}
  (h:∀i,i<n→∀I:Env→St→Prop,I (E (i+1)) (Z (i+1))→R P n0 x (.loop I clr::k) B (E i) (Z i))
  (h':∀I:Env→St→Prop,R P n0 x (.loop I clr::k) B (E n) (Z n)) (he:env=E 0) (hs:σ=Z 0):L P n0 clr x k B env σ:=by
 refine L.intro (α:={ i:Nat // i≤n }) (fun i=>n-i.1) (fun i=>E i.1) (fun i=>Z i.1) (fun⟨i,hi⟩ I hI=>?_) ⟨0,Nat.zero_le _⟩ he hs
 by_cases hlt:i<n
 · exact h i hlt I (hI ⟨i+1,hlt⟩ (by simp only;omega))
 · have:i=n:=by omega
   subst this;exact h' I
theorem Rep.bel {M:Nat→Prop} {ν:Nat→Value} {w:World} {x:AV} {v:Value} (h:Rep M (RefOK σ ν) w x v):Bel σ.length x:=by
 have key:∀l,(σ[l]?).isSome→l<σ.length:=fun l h=>by
  obtain⟨o,ho⟩:=Option.isSome_iff_exists.1 h;exact(List.getElem?_eq_some_iff.1 ho).1
 have cells:∀x:AV,(∀j (hj:j<x.cells.length),Bel σ.length (x.cells[j]))→Bel σ.length x:=by
  intro x hx
  cases x with
  |agg cs=>exact .agg cs hx
  |_=>exact hx 0 (by simp[AV.cells])
 induction h with
 |any v=>exact .any
 |pl v=>exact .pl v
 |nils=>exact .nils
 |sl0 sz a cap=>exact .sl sz [] (fun j hj=>by simp at hj)
 |sl sz xs b o cap f hcap hc _ ih=>exact .sl sz xs fun i hi=>cells _ fun j hj=>ih i j hi hj
 |rp cs b o f hc _ ih=>exact .rp cs ih
 |ptr l off b o h =>
  refine .ptr l off (key l ?_);simp only[RefOK]at h
  cases hh:σ[l]? with
  |none=>simp[hh]at h
  |some o=>rfl
 |osl l n a len cap h =>
  refine .osl l n (key l ?_);simp only[RefOK]at h
  cases hh:σ[l]? with
  |none=>simp[hh]at h
  |some o=>rfl
 |ep l n i off b o h =>
  refine .ep l n i off (key l ?_);simp only[RefOK]at h
  cases hh:σ[l]? with
  |none=>simp[hh]at h
  |some o=>rfl
 |psl l off n b o h =>
  refine .psl l off n (key l ?_);simp only[RefOK]at h
  cases hh:σ[l]? with
  |none=>simp[hh]at h
  |some o=>rfl
 |zsl a=>exact .zsl
 |win sz l n lo b o cap hl0 h =>
  refine .win sz l n lo (key l ?_);simp only[RefOK]at h
  cases hh:σ[l]? with
  |none=>simp[hh]at h
  |some o=>rfl
 |agg cs vs hl _ ih=>exact .agg cs fun j hj=>ih j hj (by omega)
 |tup cs vs hl _ ih=>exact .tup cs fun j hj=>ih j hj (by omega)
 |fn g fs cs us vs hl hl' _ _ ih ih'=>exact .fn g fs cs (fun j hj=>ih j hj (by omega)) (fun j hj=>ih' j hj (by omega))
theorem ObOK.bel {M:Nat→Prop} {ν:Nat→Value} {w:World} {o:Ob} {v:Value} (h:ObOK M (RefOK σ ν) w o v):BelO σ.length o:=by
 cases h with
 |dead=>trivial
 |box cs b o c e fr hM hh hs hf hr =>
  intro x hx;obtain⟨j,hj,rfl⟩:=List.getElem_of_mem hx;exact(hr j hj c[o+j] (by simp[show o+j<c.size by omega])).bel
 |glo g vs v hv2 hv3 hc=>trivial
 |row0=>intro x hx;cases hx
 |row sz xs b o cap c e fr hM hh hlen hs hf hr =>
  intro x hx;obtain⟨i,hi,rfl⟩:=List.getElem_of_mem hx
  have cells:∀x:AV,(∀j (hj:j<x.cells.length),Bel σ.length (x.cells[j]))→Bel σ.length x:=by
   intro x hx
   cases x with
   |agg cs=>exact .agg cs hx
   |_=>exact hx 0 (by simp[AV.cells])
  refine cells _ fun j hj=>?_
  obtain⟨q1,q2⟩:=hr i j hi hj;have:=z2h (i:=i) (k:=cap) (by omega) q1
  exact(q2 c[o+(i*sz+j)] (by simp[show o+(i*sz+j)<c.size by omega])).bel
theorem Good.bel {M:Nat→Prop} {ν:Nat→Value} {w:World} (g:Good M σ ν w):∀o∈σ,BelO σ.length o:=by
 intro o ho;obtain⟨l,hl⟩:=List.mem_iff_getElem?.1 ho;exact(g.ob l o hl).bel
theorem Ans.of_run {f:FuncId} {own:List Tmp} {x:ACode} {rvs:List RV} {n:Nat} {args:List AV} {r:AV} {σ':St} (ht:Text P f own x rvs n)
  (h:R P σ.length x [] (Fini σ.length rvs r σ') (args++List.replicate (n-args.length) .any) σ):Ans P f args σ r σ':=Ans.of_ax ht h
theorem Ans.of_run' {f:FuncId} {own:List Tmp} {x:ACode} {rvs:List RV} {n:Nat} {args:List AV} {r:AV} {σ':St} (ht:Text P f own x rvs n)
  (h:(∀o∈σ,BelO σ.length o)→(∀x∈args,Bel σ.length x)→R P σ.length x [] (Fini σ.length rvs r σ') (args++List.replicate (n-args.length) .any) σ):Ans P f args σ r σ':=by
 intro M ν w vs g hvs;refine Ans.of_ax ht (h g.bel (fun x hx=>?_)) M ν w vs g hvs
 obtain⟨j,hj,rfl⟩:=List.getElem_of_mem hx;exact(hvs.2 j hj (by have:=hvs.1;omega)).bel
theorem Fini.ret {m:Nat} {rvs:List RV} {r:AV} (h:resA env σ rvs=some r):Fini m rvs r σ .ret env σ:=⟨r,σ,h,rfl,rfl,.inl rfl⟩
theorem Fini.normal {m:Nat} {rvs:List RV} {r:AV} (h:resA env σ rvs=some r):Fini m rvs r σ .normal env σ:=⟨r,σ,h,rfl,rfl,.inl rfl⟩
theorem z1Z {m l:Nat} {o:Ob} (h:∀o∈σ,BelO m o) (ho:BelO m o):∀x∈σ.set l o,BelO m x:=by
 intro x hx;rcases List.mem_or_eq_of_mem_set hx with h'|h'
 · exact h x h'
 · rw[h'];exact ho
def mkE (n:Nat) (l:List (Nat×AV)):Env:=l.foldl (fun e p=>e.set p.1 p.2) (List.replicate n .any)
end
end
attribute [irreducible] R N X T O D C L G OG DG CO CD
end Go.Ab
