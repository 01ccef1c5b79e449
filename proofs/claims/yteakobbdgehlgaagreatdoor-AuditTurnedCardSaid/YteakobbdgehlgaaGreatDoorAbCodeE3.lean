/- Operations whose order is open: one run in the order of the text tells what every order comes to. No condition. -/
import Derived.Test.YteakobbdgehlgaaGreatDoorAbCtlE3
set_option linter.unusedSimpArgs false
set_option linter.unusedVariables false
set_option linter.unusedSectionVars false
namespace Go.Ab
open Go
structure DOper where
 o:AOper
 bef:List Nat
 eff:Bool
 lo:Nat
 hi:Nat
def stay (P:Program) (env:Env) (o:AOp) (r:AV) (s:St):Prop :=
 match o with
 |.prim ao=>aop (aev env) s ao=some (r,s)
 |.call f args=>match aev env f with
  |.fn g fs cs=>Ans P g (fs++args.map (aev env)++cs) s r s
  |_=>False
 |.fresh _ _ _=>False
 |.flo _=>r=.any
 |.adopt _ _ _ _=>False
def axd (P:Program) (K:Env→St→Prop):List DOper→Env→List St→St→(List St→Prop)→Prop
 |[],env,S,σ,ob=>ob S∧K env σ
 |d::ds,env,S,σ,ob=>match wantA env d.o.guard with
  |some true =>
   if d.eff then axop P env σ d.o.op fun r σ'=>axd P K ds (putA env d.o.dst r) (S++[σ']) σ' ob
   else ∃r,stay P env d.o.op r σ∧axd P K ds (putA env d.o.dst r) S σ fun T=>ob T∧∀s∈(T.take (d.hi+1)).drop d.lo,stay P env d.o.op r s
  |some false=>axd P K ds (putA env d.o.dst (.tup [])) (if d.eff then S++[σ] else S) σ ob
  |none=>False
def z1U (o:AOper) (ops:List Operand):List Tmp :=
 ops.filterMap (fun|.tmp t=>some t|_=>none)++(match o.guard with|some (t,_)=>[t]|none=>[])++(match o.dst with|some t=>[t]|none=>[])
def AO.operands:AO→List Operand
 |.mov x|.boxr x|.boxm x|.nilc x|.un _ x|.convi _ x|.fadr _ x|.field _ _ _ x|.load _ _ x|.lens x|.lenv x|.extr _ x=>[x]
 |.s2b x|.b2s x|.s2s x|.strm x|.capn x|.slca _ x|.arrp _ x|.slc0 x|.isnil _ _ x|.giadr _ _ _ x|.clr _ _ _ x=>[x]
 |.slcw _ x y|.mks _ _ _ x y|.mm _ x y|.copy x y|.appz _ _ _ x y=>[x,y]
 |.pick c a b=>[c,a,b]
 |.allocm _|.con _|.bad=>[]
 |.build _ ps|.bsl _ _ _ _ _ ps=>ps.map (·.2.2)
 |.store _ a x=>[a,x]
 |.bin _ _ x y|.eqa _ _ x y|.idxs x y|.idxa _ _ _ x y|.iadrs _ x y|.iadra _ _ x y|.app _ x y=>[x,y]
 |.mkfn _ fs cs=>fs++cs
 |.slcs x lo hi|.slcv _ x lo hi|.slco _ x lo hi=>x::(lo.toList++hi.toList)
def AOp.operands:AOp→List Operand
 |.prim ao=>ao.operands
 |.call f args=>f::args
 |.fresh _ _ x=>[x]
 |.flo _=>[]
 |.adopt _ _ _ x=>[x]
theorem z5D {ρ ρ':Operand→AV}:∀(ps:List Part) (z:List AV),(∀x∈ps.map (·.2.2),ρ x=ρ' x)→fillA ρ z ps=fillA ρ' z ps:=by
 intro ps
 induction ps with
 |nil=>intro z _;rfl
 |cons p ps ih =>
  intro z h;obtain⟨off,size,x⟩:=p;have hx:ρ x=ρ' x:=h x (by simp)
  simp only[fillA,hx];rw[ih _ (fun y hy=>h y (by simp at hy⊢;exact .inr hy))]
theorem z87 {ρ ρ':Operand→AV} {σ:St} {ao:AO} (h:∀x∈ao.operands,ρ x=ρ' x):aop ρ σ ao=aop ρ' σ ao:=by
 cases ao with
 |build z ps=>simp only[aop];rw[z5D ps z h]
 |bsl own sz ag n z ps=>simp only[aop];rw[z5D ps _ h]
 |mkfn f fs cs =>
  simp only[aop];rw[List.map_congr_left (f:=ρ) (g:=ρ') (fun x hx=>h x (by simp[AO.operands,hx])),List.map_congr_left (f:=ρ) (g:=ρ') (l:=cs) (fun x hx=>h x (by simp[AO.operands,hx]))]
 |slcs x lo hi =>
  have hx:=h x (by simp[AO.operands])
  have u0:(lo.map fun o=>intA (ρ o))=lo.map fun o=>intA (ρ' o):=by
   cases lo with
   |none=>rfl
   |some o=>simp[h o (by simp[AO.operands])]
  have y0:(hi.map fun o=>intA (ρ o))=hi.map fun o=>intA (ρ' o):=by
   cases hi with
   |none=>rfl
   |some o=>simp[h o (by simp[AO.operands])]
  simp only[aop,hx,u0,y0]
 |slcv sz x lo hi =>
  have hx:=h x (by simp[AO.operands])
  have u0:(lo.map fun o=>intA (ρ o))=lo.map fun o=>intA (ρ' o):=by
   cases lo with
   |none=>rfl
   |some o=>simp[h o (by simp[AO.operands])]
  have y0:(hi.map fun o=>intA (ρ o))=hi.map fun o=>intA (ρ' o):=by
   cases hi with
   |none=>rfl
   |some o=>simp[h o (by simp[AO.operands])]
  simp only[aop,hx,u0,y0]
 |slco sz x lo hi =>
  have hx:=h x (by simp[AO.operands])
  have u0:(lo.map fun o=>intA (ρ o))=lo.map fun o=>intA (ρ' o):=by
   cases lo with
   |none=>rfl
   |some o=>simp[h o (by simp[AO.operands])]
  have y0:(hi.map fun o=>intA (ρ o))=hi.map fun o=>intA (ρ' o):=by
   cases hi with
   |none=>rfl
   |some o=>simp[h o (by simp[AO.operands])]
  simp only[aop,hx,u0,y0]
 |_=>simp only[AO.operands,List.mem_cons,List.not_mem_nil,or_false,forall_eq_or_imp,forall_eq]at h<;>first|rfl|simp only[aop,h]
theorem z6G {P:Program} {env env':Env} {σ:St} {o:AOp} {K:AV→St→Prop} (hl:env.length=env'.length) (h:∀x∈o.operands,aev env x=aev env' x):axop P env σ o K=axop P env' σ o K:=by
 cases o with
 |prim ao=>simp only[axop];rw[z87 (ρ:=aev env) (ρ':=aev env') h]
 |call f args =>
  simp only[axop];rw[h f (by simp[AOp.operands]),List.map_congr_left (f:=aev env) (g:=aev env') (fun x hx=>h x (by simp[AOp.operands,hx]))]
 |fresh n d x =>
  simp only[axop];rw[h x (by simp[AOp.operands]),hl]
 |flo n=>rfl
 |adopt own d n x =>
  simp only[axop];rw[h x (by simp[AOp.operands]),hl]
theorem zbr {P:Program} {env env':Env} {s:St} {o:AOp} {r:AV} (h:∀x∈o.operands,aev env x=aev env' x):stay P env o r s=stay P env' o r s:=by
 cases o with
 |prim ao=>simp only[stay];rw[z87 (ρ:=aev env) (ρ':=aev env') h]
 |call f args =>
  simp only[stay];rw[h f (by simp[AOp.operands]),List.map_congr_left (f:=aev env) (g:=aev env') (fun x hx=>h x (by simp[AOp.operands,hx]))]
 |fresh n d x=>rfl
 |flo n=>rfl
 |adopt own d n x=>rfl
theorem z88 {P:Program} {env:Env} {s:St} {o:AOp} {r:AV} {K:AV→St→Prop} (h:stay P env o r s) (hk:K r s):axop P env s o K:=by
 cases o with
 |prim ao=>simp only[stay]at h;simp only[axop,h];exact hk
 |call f args =>
  simp only[stay]at h;simp only[axop];split at h
  · rename_i e;rw[e];exact⟨r,s,h,hk⟩
  · exact h.elim
 |fresh n d x=>exact h.elim
 |flo n=>simp only[stay]at h;subst h;exact hk
 |adopt own d n x=>exact h.elim
theorem zcr {P:Program} {env:Env} {s:St} {o:AOp} {K K':AV→St→Prop} (hk:∀r s,K r s→K' r s) (h:axop P env s o K):axop P env s o K':=by
 cases o with
 |prim ao =>
  simp only[axop]at h⊢;split at h
  · exact hk _ _ h
  · exact h.elim
 |call f args =>
  simp only[axop]at h⊢;split at h
  · obtain⟨r,σ',h1,h2⟩:=h;exact⟨r,σ',h1,hk _ _ h2⟩
  · exact h.elim
 |fresh n d x =>
  simp only[axop]at h⊢;split at h
  · rename_i hc;rw[if_pos hc];exact hk _ _ h
  · exact h.elim
 |flo n=>exact hk _ _ h
 |adopt own d n x =>
  simp only[axop]at h⊢;split at h
  · rename_i hc;rw[if_pos hc]
    cases own with
    |true=>exact hk _ _ h
    |false=>exact hk _ _ h
  · exact h.elim
theorem zgY {P:Program} {env:Env} {s:St} {o:AOp} {K:AV→St→Prop} (h:axop P env s o K):∃r s',axop P env s o (fun r' u0=>r'=r∧u0=s')∧K r s':=by
 cases o with
 |prim ao =>
  simp only[axop]at h⊢;split at h
  · rename_i r s' e;exact⟨r,s',⟨rfl,rfl⟩,h⟩
  · exact h.elim
 |call f args =>
  simp only[axop]at h⊢;split at h
  · obtain⟨r,σ',h1,h2⟩:=h;exact⟨r,σ',⟨r,σ',h1,rfl,rfl⟩,h2⟩
  · exact h.elim
 |fresh n d x =>
  simp only[axop]at h⊢;split at h
  · rename_i hc;exact⟨_,_,by rw[if_pos hc];exact⟨rfl,rfl⟩,h⟩
  · exact h.elim
 |flo n=>exact⟨_,_,⟨rfl,rfl⟩,h⟩
 |adopt own d n x =>
  simp only[axop]at h⊢;split at h
  · rename_i hc
    cases own with
    |true=>exact⟨_,_,by rw[if_pos hc];exact⟨rfl,rfl⟩,h⟩
    |false=>exact⟨_,_,by rw[if_pos hc];exact⟨rfl,rfl⟩,h⟩
  · exact h.elim
structure Rec where
 want:Bool
 r:AV
def dstOf (ds:List DOper) (n:Nat):Option Tmp:=(ds[n]?).bind (·.o.dst)
def recOf (rs:List Rec) (n:Nat):AV:=((rs[n]?).map (·.r)).getD .any
def effOf (ds:List DOper) (n:Nat):Bool:=((ds[n]?).map (·.eff)).getD false
def befOf (ds:List DOper) (n:Nat):List Nat:=((ds[n]?).map (·.bef)).getD []
def envAt (ds:List DOper) (rs:List Rec) (L:Nat→Bool) (env0:Env):Nat→Env
 |0=>env0
 |n+1=>if L n then putA (envAt ds rs L env0 n) (dstOf ds n) (recOf rs n) else envAt ds rs L env0 n
def effCount (ds:List DOper) (L:Nat→Bool):Nat→Nat
 |0=>0
 |n+1=>effCount ds L n+(if L n&&effOf ds n then 1 else 0)
theorem z6H (d:DOper) (ds:List DOper) (r:Rec) (rs:List Rec) (L:Nat→Bool) (env0:Env):∀n,
  envAt (d::ds) (r::rs) L env0 (n+1)=envAt ds rs (fun i=>L (i+1)) (if L 0 then putA env0 d.o.dst r.r else env0) n:=by
 intro n
 induction n with
 |zero=>simp[envAt,dstOf,recOf]
 |succ n ih=>rw[envAt,ih,envAt];simp[dstOf,recOf]
theorem z4g (d:DOper) (ds:List DOper) (L:Nat→Bool):∀n,
  effCount (d::ds) L (n+1)=(if L 0&&d.eff then 1 else 0)+effCount ds (fun i=>L (i+1)) n:=by
 intro n
 induction n with
 |zero=>simp[effCount,effOf]
 |succ n ih=>rw[effCount,ih,effCount];simp[effOf,Nat.add_assoc]
structure Shown (P:Program) (T:List St) (d:DOper) (env:Env) (k:Nat) (r:Rec):Prop where
 want:wantA env d.o.guard=some r.want
 no:r.want=false→r.r=.tup []∧(d.eff=true→∃s,T[k]?=some s∧T[k+1]?=some s)
 eff:r.want=true→d.eff=true→∃s s',T[k]?=some s∧T[k+1]?=some s'∧axop P env s d.o.op fun r' s''=>r'=r.r∧s''=s'
 stay:r.want=true→d.eff=false→∀s∈(T.take (d.hi+1)).drop d.lo,stay P env d.o.op r.r s
theorem zcs (P:Program) (K:Env→St→Prop):∀(ds:List DOper) (env:Env) (S:List St) (σ:St) (ob:List St→Prop),axd P K ds env S σ ob→S≠[]→S.getLast?=some σ →
  ∃(rs:List Rec) (T:List St),rs.length=ds.length∧T.length=S.length+effCount ds (fun _=>true) ds.length∧(∃X,T=S++X)∧ob T ∧
   (∃s,T.getLast?=some s∧K (envAt ds rs (fun _=>true) env ds.length) s) ∧
   ∀j d,ds[j]?=some d→∃r,rs[j]?=some r∧Shown P T d (envAt ds rs (fun _=>true) env j) (S.length-1+effCount ds (fun _=>true) j) r:=by
 intro ds
 induction ds with
 |nil =>
  intro env S σ ob h hne hl;simp only[axd]at h;exact⟨[],S,rfl,by simp[effCount],⟨[],by simp⟩,h.1,⟨σ,hl,h.2⟩,fun j d hj=>by simp at hj⟩
 |cons d ds ih =>
  intro env S σ ob h hne hl;have u0:0<S.length:=List.length_pos_iff.2 hne
  have fin:∀(r:Rec) (S':List St) (σ':St) (ob':List St→Prop),axd P K ds (putA env d.o.dst r.r) S' σ' ob'→S'≠[]→S'.getLast?=some σ' →
    S'.length=S.length+(if d.eff then 1 else 0)→(∃X,S'=S++X)→(∀T,ob' T→ob T) →
    (∀T,ob' T→(∃X,T=S'++X)→Shown P T d env (S.length-1) r) →
    ∃(rs:List Rec) (T:List St),rs.length=(d::ds).length∧T.length=S.length+effCount (d::ds) (fun _=>true) (d::ds).length∧(∃X,T=S++X)∧ob T ∧
     (∃s,T.getLast?=some s∧K (envAt (d::ds) rs (fun _=>true) env (d::ds).length) s) ∧
     ∀j d',(d::ds)[j]?=some d'→∃r,rs[j]?=some r∧Shown P T d' (envAt (d::ds) rs (fun _=>true) env j) (S.length-1+effCount (d::ds) (fun _=>true) j) r:=by
   intro r S' σ' ob' h' hne' hl' hlen hpre hob hsh;obtain⟨rs,T,q1,q2,⟨X,hX⟩,q4,q5,q6⟩:=ih _ S' σ' ob' h' hne' hl';obtain⟨Y,hY⟩:=hpre;refine⟨r::rs,T,by simp[q1],?_,⟨Y++X,by rw[hX,hY,List.append_assoc]⟩,hob T q4,?_,?_⟩
   · rw[q2,hlen,List.length_cons,z4g];cases d.eff<;>simp<;>omega
   · obtain⟨s,q7,q8⟩:=q5;refine⟨s,q7,?_⟩;rw[List.length_cons,z6H];simpa using q8
   · intro j d' hj
     cases j with
     |zero =>
      simp at hj;subst hj;refine⟨r,rfl,?_⟩;have:=hsh T q4 ⟨X,hX⟩;simpa[envAt,effCount] using this
     |succ j =>
      simp at hj;obtain⟨r',q0,y0⟩:=q6 j d' hj;refine⟨r',by simpa using q0,?_⟩
      rw[z6H,z4g]
      have e:S.length-1+((if(true&&d.eff)=true then 1 else 0)+effCount ds (fun _=>true) j)=S'.length-1+effCount ds (fun _=>true) j:=by
       rw[hlen];cases d.eff<;>simp<;>omega
      rw[e];simpa using y0
  have hk:S[S.length-1]?=some σ:=by rw[List.getLast?_eq_getElem?]at hl;exact hl
  simp only[axd]at h;split at h
  · rename_i hw;split at h
    · rename_i he;obtain⟨r,σ',h1,h2⟩:=zgY h;refine fin ⟨true,r⟩ (S++[σ']) σ' ob h2 (by simp) (by simp) (by simp[he]) ⟨[σ'],rfl⟩ (fun _ x=>x) (fun T _ ⟨X,hX⟩=>?_)
      refine⟨hw,fun x=>(by cases x),fun _ _=>⟨σ,σ',?_,?_,h1⟩,fun _ x=>(by rw[he]at x;cases x)⟩
      · rw[hX,List.append_assoc,List.getElem?_append_left (by omega)];exact hk
      · rw[hX,List.getElem?_append_left (by simp;omega),show S.length-1+1=S.length by omega];simp
    · rename_i he;obtain⟨r,h1,h2⟩:=h;refine fin ⟨true,r⟩ S σ _ h2 hne hl (by simp[he]) ⟨[],by simp⟩ (fun T x=>x.1) (fun T hT _=>?_)
      exact⟨hw,fun x=>(by cases x),fun _ x=>absurd x he,fun _ _=>hT.2⟩
  · rename_i hw
    cases he:d.eff with
    |true =>
     rw[he]at h;refine fin ⟨false,.tup []⟩ (S++[σ]) σ ob (by simpa using h) (by simp) (by simp) (by simp[he]) ⟨[σ],rfl⟩ (fun _ x=>x) (fun T _ ⟨X,hX⟩=>?_)
     refine⟨hw,fun _=>⟨rfl,fun _=>⟨σ,?_,?_⟩⟩,fun x=>(by cases x),fun x=>(by cases x)⟩
     · rw[hX,List.append_assoc,List.getElem?_append_left (by omega)];exact hk
     · rw[hX,List.getElem?_append_left (by simp;omega),show S.length-1+1=S.length by omega];simp
    |false =>
     rw[he]at h;refine fin ⟨false,.tup []⟩ S σ ob (by simpa using h) hne hl (by simp[he]) ⟨[],by simp⟩ (fun _ x=>x) (fun T _ _=>?_)
     exact⟨hw,fun _=>⟨rfl,fun x=>(by rw[he]at x;cases x)⟩,fun x=>(by cases x),fun x=>(by cases x)⟩
  · exact h.elim
theorem z42 (env:Env) (d:Option Tmp) (r:AV):(putA env d r).length=env.length:=by cases d<;>simp[putA]
theorem z2K (env:Env) (d:Option Tmp) (r:AV) (t:Tmp):tmpA (putA env d r) t=if d=some t then(if t<env.length then r else .any) else tmpA env t:=by
 cases d with
 |none=>simp[putA]
 |some s =>
  simp only[putA,tmpA,List.getD_eq_getElem?_getD,List.getElem?_set,Option.some.injEq];by_cases h:s=t
  · subst h;by_cases hl:s<env.length
    · simp[hl]
    · simp[hl]
  · simp[h]
section
variable {ds:List DOper} {rs:List Rec} {L L':Nat→Bool} {env0:Env}
theorem z0x:∀n,(envAt ds rs L env0 n).length=env0.length:=by
 intro n
 induction n with
 |zero=>rfl
 |succ n ih=>simp only[envAt];split<;>simp[z42,ih]
theorem z43 {t:Tmp}:∀n,(∀i,i<n→dstOf ds i=some t→L i=L' i)→tmpA (envAt ds rs L env0 n) t=tmpA (envAt ds rs L' env0 n) t:=by
 intro n
 induction n with
 |zero=>intro _;rfl
 |succ n ih =>
  intro h;have u0:=ih (fun i hi=>h i (by omega))
  simp only[envAt];by_cases hd:dstOf ds n=some t
  · rw[h n (by omega) hd]
    split
    · rw[z2K,z2K,hd];simp[z0x]
    · exact u0
  · have e:∀(M:Nat→Bool),tmpA (if M n=true then putA (envAt ds rs M env0 n) (dstOf ds n) (recOf rs n) else envAt ds rs M env0 n) t=tmpA (envAt ds rs M env0 n) t:=by
     intro M;split
     · rw[z2K,if_neg hd]
     · rfl
    rw[e,e];exact u0
theorem z89 {t:Tmp} {j:Nat}:∀n,j≤n→(∀i,j≤i→i<n→dstOf ds i=some t→L i=false)→tmpA (envAt ds rs L env0 n) t=tmpA (envAt ds rs L env0 j) t:=by
 intro n
 induction n with
 |zero=>intro hj _;have:j=0:=by omega
        subst this;rfl
 |succ n ih =>
  intro hj h;by_cases e:j=n+1
  · subst e;rfl
  · have u0:=ih (by omega) (fun i h1 h2=>h i h1 (by omega))
    simp only[envAt];by_cases hd:dstOf ds n=some t
    · rw[h n (by omega) (by omega) hd];simpa using u0
    · split
      · rw[z2K,if_neg hd];exact u0
      · exact u0
theorem z1z:∀n,(∀i,i<n→effOf ds i=true→L i=true→L' i=true)→effCount ds L n≤effCount ds L' n:=by
 intro n
 induction n with
 |zero=>intro _;exact Nat.le_refl _
 |succ n ih =>
  intro h;have u0:=ih (fun i hi=>h i (by omega))
  simp only[effCount];have hn:=h n (by omega)
  cases he:effOf ds n
  · simp;exact u0
  · cases hL:L n
    · simp;omega
    · rw[hn he hL];simp;omega
theorem z8a {j:Nat}:∀n,j≤n→(∀i,j≤i→i<n→effOf ds i=true→L i=false)→effCount ds L n=effCount ds L j:=by
 intro n
 induction n with
 |zero=>intro hj _;have:j=0:=by omega
        subst this;rfl
 |succ n ih =>
  intro hj h;by_cases e:j=n+1
  · subst e;rfl
  · have u0:=ih (by omega) (fun i h1 h2=>h i h1 (by omega))
    simp only[effCount];cases he:effOf ds n
    · simp;exact u0
    · rw[h n (by omega) (by omega) he];simp;exact u0
theorem z8b {j:Nat} (hj:L j=false) (hL:∀i,L' i=(L i||decide (i=j))):∀n,effCount ds L' n=effCount ds L n+(if j<n&&effOf ds j then 1 else 0):=by
 intro n
 induction n with
 |zero=>simp[effCount]
 |succ n ih =>
  simp only[effCount,ih,hL n];by_cases e:n=j
  · subst e;simp only[hj,Nat.lt_irrefl,decide_false,Bool.false_and,Nat.lt_succ_self,decide_true,Bool.or_true,Bool.true_and,Bool.false_eq_true,if_false]
  · have h1:(decide (j<n+1))=(decide (j<n)):=by
     apply decide_eq_decide.2;omega
    rw[h1];simp only[e,decide_false,Bool.or_false];omega
end
def okD (ops:List Oper) (ds:List DOper):Bool :=
 (List.range ops.length).all fun j =>
  match ops[j]?,ds[j]? with
  |some o,some d =>
   o.after.all (fun e=>!Region.binds .any e||decide (e.on<j)) &&
   d.bef.all (fun x=>o.after.any fun e=>Region.binds .any e&&(e.on==x||(befOf ds e.on).contains x)) &&
   (z1U d.o d.o.op.operands).all (fun t=>(List.range ops.length).all fun i =>
    dstOf ds i != some t||i==j||(decide (i<j)&&d.bef.contains i)||(decide (j<i)&&(befOf ds i).contains j)) &&
   (if d.eff then(List.range j).all fun i=>!effOf ds i||d.bef.contains i
    else decide (d.lo≤effCount ds (fun i=>d.bef.contains i) ops.length)&&decide (effCount ds (fun i=>!(befOf ds i).contains j) ops.length≤d.hi))
  |_,_=>false
section
variable {P:Program} {ops:List Oper} {ds:List DOper} {rs:List Rec} {env0:Env} {T:List St}
structure OkAt (ops:List Oper) (ds:List DOper) (j:Nat) (o:Oper) (d:DOper):Prop where
 edges:∀e∈o.after,Region.binds .any e=true→e.on<j
 bef:∀x∈d.bef,∃e∈o.after,Region.binds .any e=true∧(e.on=x∨x∈befOf ds e.on)
 tmps:∀t∈z1U d.o d.o.op.operands,∀i,i<ops.length→dstOf ds i=some t→i=j∨(i<j∧i∈d.bef)∨(j<i∧j∈befOf ds i)
 eff:d.eff=true→∀i,i<j→effOf ds i=true→i∈d.bef
 room:d.eff=false→d.lo≤effCount ds (fun i=>d.bef.contains i) ops.length∧effCount ds (fun i=>!(befOf ds i).contains j) ops.length≤d.hi
theorem zct (h:okD ops ds=true) {j:Nat} {o:Oper} (hj:ops[j]?=some o):∃d,ds[j]?=some d∧OkAt ops ds j o d:=by
 have u0:=(List.getElem?_eq_some_iff.1 hj).1;have:=List.all_eq_true.1 h j (List.mem_range.2 u0);rw[hj]at this
 cases hd:ds[j]? with
 |none=>simp[hd]at this
 |some d =>
  simp only[hd,Bool.and_eq_true]at this;obtain⟨⟨⟨h1,h2⟩,h3⟩,h4⟩:=this;refine⟨d,rfl,?_,?_,?_,?_,?_⟩
  · intro e he hb;have:=Array.all_eq_true'.1 h1 e he;simpa[hb] using this
  · intro x hx;have:=List.all_eq_true.1 h2 x hx;rw[Array.any_eq_true']at this;obtain⟨e,he,hh⟩:=this;simp only[Bool.and_eq_true,Bool.or_eq_true,beq_iff_eq,List.contains_iff_mem]at hh;exact⟨e,he,hh.1,hh.2⟩
  · intro t ht i hi y0;have:=List.all_eq_true.1 (List.all_eq_true.1 h3 t ht) i (List.mem_range.2 hi);simp only[Bool.or_eq_true,Bool.and_eq_true,bne_iff_ne,ne_eq,beq_iff_eq,decide_eq_true_eq,List.contains_iff_mem]at this;rcases this with((h|h)|h)|h
    · exact absurd y0 h
    · exact .inl h
    · exact .inr (.inl h)
    · exact .inr (.inr h)
  · intro he i hi q0;rw[if_pos he]at h4;have:=List.all_eq_true.1 h4 i (List.mem_range.2 hi);simpa[q0] using this
  · intro he;rw[if_neg (by simp[he])]at h4
    simpa using h4
def floOf (ds:List DOper) (i:Nat):Option (Tmp×Nat) :=
 match ds[i]? with
 |some d=>match d.o.dst,d.o.op with
  |some t,.flo n=>some (t,n)
  |_,_=>none
 |none=>none
def z2T (ds:List DOper) (k:Nat):Option (Tmp×Nat) :=
 match ds[k]? with
 |some d=>match d.o.op with
  |.adopt _ t n _=>some (t,n)
  |_=>none
 |none=>none
def okF (ops:List Oper) (ds:List DOper):Bool :=
 (List.range ops.length).all fun j =>
  (match floOf ds j with
  |some (t,_)=>!effOf ds j&&(List.range ops.length).all fun k=>k==j||((ops[k]?).bind (·.dst)) != some t
  |none=>true) &&
  (match z2T ds j with
  |some (t,n)=>effOf ds j&&(befOf ds j).any (fun i=>floOf ds i==some (t,n))&&(List.range ops.length).all fun k=>k==j||((z2T ds k).map (·.1)) != some t
  |none=>true)
def compD (P:Program) (own:List Tmp) (ops:Array Oper) (o:Oper) (d:DOper):Option AOper :=
 match d.o.op with
 |.flo _=>match o.dst,o.op,o.guard with
  |some t,.alloc ty,none=>(zcOf P ty).map fun z=>⟨some t,none,.flo z.length⟩
  |_,_,_=>none
 |.adopt own' _ _ _=>match o.op,o.guard,o.dst with
  |.store ty (.tmp t) x,none,none=>if zac t x then(szOf P ty).map fun n=>⟨some t,none,.adopt own' t n x⟩ else none
  |_,_,_=>none
 |_=>z1T P own ops o
inductive CompAt (P:Program) (own:List Tmp) (ops:Array Oper) (o:Oper) (d:DOper):Prop
 |plain (h:z1T P own ops o=some d.o)
 |flo (t:Tmp) (ty:TypeId) (z:List AV) (h1:o.dst=some t) (h2:o.op=.alloc ty) (h3:o.guard=none) (h4:zcOf P ty=some z) (h5:d.o=⟨some t,none,.flo z.length⟩)
 |adopt (own':Bool) (t:Tmp) (ty:TypeId) (n:Nat) (x:Operand) (h1:o.dst=none) (h2:o.op=.store ty (.tmp t) x) (h3:o.guard=none) (h4:szOf P ty=some n) (h5:x≠.tmp t) (h6:d.o=⟨some t,none,.adopt own' t n x⟩)
theorem zeH {own:List Tmp} {arr:Array Oper} {o:Oper} {d:DOper} {x:AOper} (h:compD P own arr o d=some x):CompAt P own arr o { d with o:=x }:=by
 unfold compD at h;split at h
 · split at h
   · rename_i t ty e1 e2 e3;obtain⟨z,hz,rfl⟩:=z02 h;exact .flo t ty z e1 e2 e3 hz rfl
   · cases h
 · rename_i own' _ _ _ _;split at h
   · rename_i ty t x e1 e2 e3;split at h
     · rename_i hn;obtain⟨n,u0,rfl⟩:=z02 h;refine .adopt own' t ty n x e3 e1 e2 u0 ?_ rfl;rintro rfl;simp[zac]at hn
     · cases h
   · cases h
 · exact .plain h
theorem z6z {own:List Tmp} {arr:Array Oper} {o:Oper} {x:AOper} (h:z1T P own arr o=some x):(∀n,x.op≠.flo n)∧(∀a b c e,x.op≠.adopt a b c e)∧x.dst=o.dst:=by
 unfold z1T at h;obtain⟨gd,hgd,h⟩:=z06 h;obtain⟨p,hp,rfl⟩:=z02 h;refine⟨fun n e=>?_,fun a b c e' e=>?_,rfl⟩
 all_goals
  simp only at e;subst e;unfold zab at hp;split at hp
  · rename_i c hc;obtain⟨_,_,_,_,e⟩:=z6F hc;simp at hp;rw[e]at hp;cases hp
  · simp at hp
structure PendAt (base:Nat) (M:Nat→Prop) (σ:St) (ν:Nat→Value) (w:World) (a:Act) (t:Tmp) (n b:Nat):Prop where
 ev:a.eval (.tmp t)=.pointer (some ⟨b,0,none⟩)
 base:base≤b
 m:M b
 own:¬Own σ ν b
 row:∃c e,w.heap[b]?=some (.cells c e (0,0))∧c.size=n
def pending (ds:List DOper) (L:Nat→Bool) (i:Nat) (t:Tmp) (n:Nat):Prop:=floOf ds i=some (t,n)∧L i=true∧∀k n',z2T ds k=some (t,n')→L k=false
structure Pend (ds:List DOper) (L:Nat→Bool) (len base:Nat) (M:Nat→Prop) (σ:St) (ν:Nat→Value) (w:World) (a:Act) (β:Nat→Nat):Prop where
 ok:∀i t n,pending ds L i t n→t<len→PendAt base M σ ν w a t n (β i)
 apart:∀i t n i' t' n',pending ds L i t n→pending ds L i' t' n'→t<len→t'<len→β i=β i'→i=i'
theorem PendAt.later {base:Nat} {M M':Nat→Prop} {σ σ':St} {ν ν':Nat→Value} {w w':World} {a a':Act} {t:Tmp} {n b:Nat} (h:PendAt base M σ ν w a t n b) (g:Good M σ ν w)
  (l:Later M σ ν w M' σ' ν' w') (he:a'.eval (.tmp t)=a.eval (.tmp t)):PendAt base M' σ' ν' w' a' t n b:=by
 obtain⟨c,e,hr,hc⟩:=h.row;have u0:=g.lt b h.m;exact⟨he.trans h.ev,h.base,l.outer b u0 h.m h.own,fun x=>h.own (l.own b u0 x),c,e,(l.keep b u0 h.own).trans hr,hc⟩
theorem Good.adopt {M:Nat→Prop} {σ:St} {ν:Nat→Value} {w w':World} (g:Good M σ ν w) {b:Nat} (hm:M b) (ho:¬Own σ ν b) {cs:List AV} {c:Array Value} {e:TypeId}
  (hs:w'.heap.size=w.heap.size) (hk:∀k,k≠b→w'.heap[k]?=w.heap[k]?) (hb:w'.heap[b]?=some (.cells c e (0,0))) (hr:Reps M (RefOK σ ν) w cs c.toList) :
  ∃ν',Good M (σ++[.box cs]) ν' w'∧(∀r v,RefOK σ ν r v→RefOK (σ++[.box cs]) ν' r v)∧(∀k,Own (σ++[.box cs]) ν' k→k=b∨Own σ ν k) ∧
   Rep M (RefOK (σ++[.box cs]) ν') w' (.ptr σ.length 0) (.pointer (some ⟨b,0,none⟩)):=by
 let v:Value:=.pointer (some ⟨b,0,none⟩)
 let ν':Nat→Value:=fun k=>if k=σ.length then v else ν k
 have y0:ν' σ.length=v:=by simp[ν']
 have k0:∀k,k<σ.length→ν' k=ν k:=fun k hk=>by simp[ν',Nat.ne_of_lt hk]
 have n0:∀k o',σ[k]?=some o'→(σ++[.box cs])[k]?=some o'∧k<σ.length:=fun k o' h=>by
  have hk:=(List.getElem?_eq_some_iff.1 h).1;exact⟨by rw[List.getElem?_append_left hk];exact h,hk⟩
 have d0:∀r v,RefOK σ ν r v→RefOK (σ++[.box cs]) ν' r v:=fun r v h=>RefOK.ext (fun k o' hk=>⟨(n0 k o' hk).1,k0 k (n0 k o' hk).2⟩) h
 have q0:∀k,k<w.heap.size→¬M k→¬M k∧w'.heap[k]?=w.heap[k]?:=fun k _ hn=>⟨hn,hk k (fun e=>hn (e▸hm))⟩
 have u0:∀k,k<σ.length→live (σ++[.box cs]) k→live σ k:=fun k hk ⟨o',ho,e0⟩=>⟨o',by rwa [List.getElem?_append_left hk]at ho,e0⟩
 have r0:∀k,live (σ++[.box cs]) k→k<σ.length∨k=σ.length:=fun k ⟨o',ho,_⟩=>by
  have:=(List.getElem?_eq_some_iff.1 ho).1;simp at this;omega
 have t0:blk v=some b:=rfl;refine⟨ν',⟨?_,fun k h=>by rw[hs];exact g.lt k h,?_⟩,d0,?_,?_⟩
 · intro k o' m0;by_cases hkl:k<σ.length
   · rw[List.getElem?_append_left hkl]at m0;rw[k0 k hkl];refine(g.ob k o' m0).mono q0 d0 fun b' l0 e0 f0=>⟨f0,hk b' ?_⟩
     rintro rfl;exact ho ⟨k,⟨o',m0,e0⟩,l0⟩
   · have j0:k=σ.length:=by
      have:=(List.getElem?_eq_some_iff.1 m0).1;simp at this;omega
     subst j0;simp at m0;subst m0;rw[y0];have hlen:cs.length=c.size:=hr.1.trans Array.length_toList;refine .box cs b 0 c e (0,0) hm hb (by omega) (fun j _=>by simp) (fun j hj v hv=>?_)
     obtain⟨u,hu,h0⟩:=hr.get (j:=j) (x:=cs[j]) (by simp[hj])
     have:v=u:=by rw[Nat.zero_add]at hv;rw[Array.getElem?_toList]at hu;rw[hu]at hv;simpa using hv.symm
     subst this;exact h0.mono q0 d0
 · intro k k' b' h1 h2 e1 e2;rcases r0 k h1 with hk1|hk1<;>rcases r0 k' h2 with j0|j0
   · rw[k0 k hk1]at e1;rw[k0 k' j0]at e2;exact g.apart k k' b' (u0 k hk1 h1) (u0 k' j0 h2) e1 e2
   · rw[k0 k hk1]at e1;subst j0;rw[y0,t0]at e2;simp only[Option.some.injEq]at e2;subst e2;exact absurd ⟨k,u0 k hk1 h1,e1⟩ ho
   · rw[k0 k' j0]at e2;subst hk1;rw[y0,t0]at e1;simp only[Option.some.injEq]at e1;subst e1;exact absurd ⟨k',u0 k' j0 h2,e2⟩ ho
   · omega
 · rintro k ⟨l,hl,e'⟩;rcases r0 l hl with h|h
   · rw[k0 l h]at e';exact .inr ⟨l,u0 l h hl,e'⟩
   · subst h;rw[y0,t0]at e';simp only[Option.some.injEq]at e';exact .inl e'.symm
 · have:=Rep.ptr (M:=M) (R:=RefOK (σ++[.box cs]) ν') (w:=w') σ.length 0 b 0 (by simp[RefOK,y0,v])
   simpa using this
theorem Later.touch {M0 M M':Nat→Prop} {σ0 σ σ':St} {ν0 ν ν':Nat→Value} {w0 w w':World} (h:Later M0 σ0 ν0 w0 M σ ν w) {b:Nat} (hb:w0.heap.size≤b)
  (hs:w'.heap.size=w.heap.size) (hk:∀k,k≠b→w'.heap[k]?=w.heap[k]?) (hM:∀k,k≠b→(M' k↔M k)) (ho:∀k,Own σ' ν' k→k=b∨Own σ ν k)
  (evo:∀r v,RefOK σ ν r v→RefOK σ' ν' r v) (out:w'.os=w.os∧w'.output=w.output):Later M0 σ0 ν0 w0 M' σ' ν' w' where
 size:=by rw[hs];exact h.size
 keep k hk' hn:=by rw[hk k (by omega)];exact h.keep k hk' hn
 mute k hk' x:=h.mute k hk' ((hM k (by omega)).1 x)
 outer k hk' x y:=(hM k (by omega)).2 (h.outer k hk' x y)
 own k hk' x:=by
  rcases ho k x with e|e
  · omega
  · exact h.own k hk' e
 evo r v x:=evo r v (h.evo r v x)
 out:=⟨out.1.trans h.out.1,out.2.trans h.out.2⟩
def done (listed:Array Bool):Nat→Bool:=fun i=>listed.getD i true&&decide (i<listed.size)
structure Inv (P:Program) (ops:List Oper) (ds:List DOper) (rs:List Rec) (T:List St) (env0:Env) (B:(Nat→Prop)×St×(Nat→Value)×World) (d0:List Deferred) (listed:Array Bool) (a:Act) (w:World):Prop where
 size:listed.size=ops.length
 closed:∀i,done listed i=true→∀x∈befOf ds i,done listed x=true
 defers:a.defers=d0
 st:∃M σ ν,T[effCount ds (done listed) ops.length]?=some σ∧Good M σ ν w∧Later B.1 B.2.1 B.2.2.1 B.2.2.2 M σ ν w ∧
  EnvR M (RefOK σ ν) w (envAt ds rs (done listed) env0 ops.length) a∧∃β,Pend ds (done listed) env0.length B.2.2.2.heap.size M σ ν w a β
theorem z4h {j:Nat} {listed:Array Bool} (hs:listed.size=ops.length):j∈Region.ready .any ops.toArray listed ↔
  ∃o,ops[j]?=some o∧done listed j=false∧∀e∈o.after,Region.binds .any e=true→listed.getD e.on false=true:=by
 unfold Region.ready;simp only[List.mem_filter,List.mem_range,List.size_toArray,Bool.and_eq_true,Bool.not_eq_true',List.getElem?_toArray];constructor
 · rintro⟨h1,h2,h3⟩;have hl:ops[j]?=some ops[j]:=by simp[h1]
   refine⟨ops[j],hl,by simp[done,h2],fun e he hb=>?_⟩
   rw[hl]at h3;simp only[Option.map_some,Option.getD_some]at h3;have:=Array.all_eq_true'.1 h3 e he;simpa[hb] using this
 · rintro⟨o,h1,h2,h3⟩;have u0:=(List.getElem?_eq_some_iff.1 h1).1;refine⟨u0,?_,?_⟩
   · simpa[done,hs,u0] using h2
   · rw[h1];simp only[Option.map_some,Option.getD_some];rw[Array.all_eq_true'];intro e he;cases hb:Region.binds .any e
     · rfl
     · simpa[hb] using h3 e he hb
theorem zeI {listed:Array Bool} {j:Nat} (hj:j<listed.size):∀i,done (listed.setIfInBounds j true) i=(done listed i||decide (i=j)):=by
 intro i;unfold done;simp only[Array.size_setIfInBounds,Array.getD_eq_getD_getElem?,Array.getElem?_setIfInBounds];by_cases h:j=i
 · subst h;simp[hj]
 · simp[h,Ne.symm h]
theorem z6A {listed:Array Bool} {i:Nat} (h:listed.getD i false=true):done listed i=true:=by
 unfold done;simp only[Array.getD_eq_getD_getElem?]at h⊢
 cases hh:listed[i]? with
 |none=>simp[hh]at h
 |some b =>
  have:=(Array.getElem?_eq_some_iff.1 hh).1;simp[hh]at h;simp[h,this]
theorem z6I {j:Nat} {d:DOper} (h:ds[j]?=some d):dstOf ds j=d.o.dst:=by simp[dstOf,h]
theorem zbs {j:Nat} {o:Oper} {d:DOper} (hd:ds[j]?=some d) (hok:OkAt ops ds j o d) (hj:j<ops.length) {L:Nat→Bool} (hL:L j=false)
  (hbef:∀x∈d.bef,L x=true) (hcl:∀i,L i=true→∀x∈befOf ds i,L x=true) {t:Tmp} (ht:t∈z1U d.o d.o.op.operands) :
  tmpA (envAt ds rs L env0 ops.length) t=tmpA (envAt ds rs (fun _=>true) env0 j) t:=by
 rw[z89 (j:=j) ops.length (by omega) (fun i h1 h2 h3=>?_),z43 (L':=fun _=>true) j (fun i h1 h2=>?_)]
 · rcases hok.tmps t ht i (by omega) h2 with e|⟨_,e⟩|⟨e,_⟩
   · omega
   · exact hbef i e
   · omega
 · rcases hok.tmps t ht i h2 h3 with e|⟨e,_⟩|⟨_,e⟩
   · subst e;exact hL
   · omega
   · cases hLi:L i with
     |false=>rfl
     |true=>rw[hcl i hLi j e]at hL;cases hL
theorem z7i {j:Nat} {o:Oper} {d:DOper} (hd:ds[j]?=some d) (hok:OkAt ops ds j o d) (hj:j<ops.length) {L L':Nat→Bool} (hL:L j=false) (hL':∀i,L' i=(L i||decide (i=j)))
  (hcl:∀i,L i=true→∀x∈befOf ds i,L x=true) (t:Tmp) :
  tmpA (envAt ds rs L' env0 ops.length) t=tmpA (putA (envAt ds rs L env0 ops.length) d.o.dst (recOf rs j)) t:=by
 rw[z2K];split
 · rename_i u0;have y0:t∈z1U d.o d.o.op.operands:=by unfold z1U;simp[u0]
   rw[z89 (j:=j+1) ops.length (by omega) (fun i h1 h2 h3=>?_)]
   · simp only[envAt];rw[hL' j];simp only[decide_true,Bool.or_true,if_true,z2K,z6I hd,u0,z0x]
   · rw[hL' i];rcases hok.tmps t y0 i h2 h3 with e|⟨e,_⟩|⟨_,e⟩
     · omega
     · omega
     · cases hLi:L i with
       |false=>simp;omega
       |true=>rw[hcl i hLi j e]at hL;cases hL
 · rename_i u0;refine z43 _ (fun i _ hi=>?_)
   rw[hL' i];have:i≠j:=fun e=>u0 (by rw[←z6I hd,←e];exact hi)
   simp[this]
theorem z9n {o:AOper} {l:List Operand} {t:Tmp} (h:(.tmp t:Operand)∈l):t∈z1U o l:=by
 unfold z1U;simp only[List.mem_append,List.mem_filterMap];exact .inl (.inl ⟨_,h,rfl⟩)
theorem z7j {env env':Env} {o:AOper} {l:List Operand} (h:∀t∈z1U o l,tmpA env t=tmpA env' t):∀x∈l,aev env x=aev env' x:=by
 intro x hx
 cases x with
 |tmp t=>exact h t (z9n hx)
 |const v=>rfl
 |global g=>rfl
 |func f=>rfl
theorem zcu {env env':Env} {o:AOper} {l:List Operand} (h:∀t∈z1U o l,tmpA env t=tmpA env' t):wantA env o.guard=wantA env' o.guard:=by
 cases hg:o.guard with
 |none=>rfl
 |some x =>
  obtain⟨t,u0⟩:=x;have:=h t (by unfold z1U;simp[hg])
  simp[wantA,this]
theorem z3N {j:Nat} {t:Tmp} {n:Nat} (h:floOf ds j=some (t,n)):∃d,ds[j]?=some d∧d.o.dst=some t∧d.o.op=.flo n:=by
 unfold floOf at h;split at h
 · rename_i d hd;split at h
   · rename_i t' n' h1 h2;simp only[Option.some.injEq,Prod.mk.injEq]at h;obtain⟨rfl,rfl⟩:=h;exact⟨d,hd,h1,h2⟩
   · cases h
 · cases h
theorem z8c {j:Nat} {t:Tmp} {n:Nat} (h:z2T ds j=some (t,n)):∃d own x,ds[j]?=some d∧d.o.op=.adopt own t n x:=by
 unfold z2T at h;split at h
 · rename_i d hd;split at h
   · rename_i own t' n' x h1;simp only[Option.some.injEq,Prod.mk.injEq]at h;obtain⟨rfl,rfl⟩:=h;exact⟨d,own,x,hd,h1⟩
   · cases h
 · cases h
theorem z9o (h:okF ops ds=true) {j:Nat} {t:Tmp} {n:Nat} (hj:j<ops.length) (hf:floOf ds j=some (t,n)):effOf ds j=false∧∀k o,ops[k]?=some o→k≠j→o.dst≠some t:=by
 have h1:=List.all_eq_true.1 h j (List.mem_range.2 hj);rw[hf]at h1;simp only[Bool.and_eq_true,Bool.not_eq_true']at h1;refine⟨h1.1.1,fun k o hk u0 he=>?_⟩
 have h2:=List.all_eq_true.1 h1.1.2 k (List.mem_range.2 (List.getElem?_eq_some_iff.1 hk).1);simp[hk,he,u0]at h2
theorem zcv (h:okF ops ds=true) {j:Nat} {t:Tmp} {n:Nat} (hj:j<ops.length) (hf:z2T ds j=some (t,n)) :
  effOf ds j=true∧(∃i∈befOf ds j,floOf ds i=some (t,n))∧∀k n',k<ops.length→z2T ds k=some (t,n')→k=j:=by
 have h1:=List.all_eq_true.1 h j (List.mem_range.2 hj);rw[hf]at h1;simp only[Bool.and_eq_true]at h1;refine⟨h1.2.1.1,?_,fun k n' hk u0=>?_⟩
 · obtain⟨i,hi,hh⟩:=List.any_eq_true.1 h1.2.1.2;exact⟨i,hi,by simpa using hh⟩
 · have h2:=List.all_eq_true.1 h1.2.2 k (List.mem_range.2 hk);simpa[u0] using h2
theorem zcw {own:List Tmp} {B:(Nat→Prop)×St×(Nat→Value)×World} {d0:List Deferred} {Q:Exit→Act→World→Prop} {K:Act→World→Prop}
  (hc:ops.length=ds.length∧∀(j:Nat) (o:Oper) (d:DOper),ops[j]?=some o→ds[j]?=some d→CompAt P own ops.toArray o d) (hokD:okD ops ds=true) (hokF:okF ops ds=true)
  (hsh:∀j d,ds[j]?=some d→∃r,rs[j]?=some r∧Shown P T d (envAt ds rs (fun _=>true) env0 j) (effCount ds (fun _=>true) j) r)
  {listed:Array Bool} {a:Act} {w:World} {j:Nat} (hI:Inv P ops ds rs T env0 B d0 listed a w) (hr:j∈Region.ready .any ops.toArray listed)
  (hK:∀a' w',Inv P ops ds rs T env0 B d0 (listed.setIfInBounds j true) a' w'→K a' w'):wpOp P ops.toArray Q j K a w:=by
 obtain⟨o,hj,x1,u2⟩:=(z4h hI.size).1 hr;have f0:=(List.getElem?_eq_some_iff.1 hj).1;obtain⟨d,hd,y2⟩:=zct hokD hj;obtain⟨r,x6,hS⟩:=hsh j d hd;have d1:befOf ds j=d.bef:=by simp[befOf,hd]
 have o0:effOf ds j=d.eff:=by simp[effOf,hd]
 have x2:recOf rs j=r.r:=by simp[recOf,x6]
 have q1:∀x∈d.bef,done listed x=true:=by
  intro x hx;obtain⟨e,he,hb,h⟩:=y2.bef x hx;have h1:=z6A (u2 e he hb);rcases h with h|h
  · rw[←h];exact h1
  · exact hI.closed _ h1 x h
 have k0:∀t∈z1U d.o d.o.op.operands,tmpA (envAt ds rs (done listed) env0 ops.length) t=tmpA (envAt ds rs (fun _=>true) env0 j) t :=
  fun t ht=>zbs hd y2 f0 x1 q1 hI.closed ht
 have y6:j<listed.size:=by rw[hI.size];exact f0
 have r0:=zeI y6
 have q0:∀i,done (listed.setIfInBounds j true) i=true→∀x∈befOf ds i,done (listed.setIfInBounds j true) x=true:=by
  intro i hi x hx;rw[r0]at hi⊢;simp only[Bool.or_eq_true,decide_eq_true_eq]at hi⊢;rcases hi with hi|hi
  · exact .inl (hI.closed i hi x hx)
  · subst hi;rw[d1]at hx;exact .inl (q1 x hx)
 have y0:=z8b (ds:=ds) (L:=done listed) (L':=done (listed.setIfInBounds j true)) x1 r0 ops.length;simp only[f0,decide_true,Bool.true_and,o0]at y0;obtain⟨M,σ,ν,u1,hg,hl,hE,β,hP⟩:=hI.st;have q3:∀(x:Option Tmp) (v:Value),(a.put x v).defers=a.defers:=fun x v=>by cases x<;>rfl
 have s4:∀{i t n},floOf ds i=some (t,n)→i<ops.length:=fun h=>by
  obtain⟨d',h1,_⟩:=z3N h;rw[hc.1];exact(List.getElem?_eq_some_iff.1 h1).1
 have t5:∀{i t n},z2T ds i=some (t,n)→i<ops.length:=fun h=>by
  obtain⟨d',_,_,h1,_⟩:=z8c h;rw[hc.1];exact(List.getElem?_eq_some_iff.1 h1).1
 have r1:∀{i t n},i≠j→pending ds (done (listed.setIfInBounds j true)) i t n→pending ds (done listed) i t n:=by
  rintro i t n h0 ⟨h1,h2,h3⟩;refine⟨h1,?_,fun k n' hk=>?_⟩
  · rw[r0]at h2;simpa[h0] using h2
  · have:=h3 k n' hk;rw[r0]at this;simp at this;exact this.1
 have k1:∀L,(envAt ds rs L env0 ops.length).length=env0.length:=fun L=>z0x _
 have i1:d.eff=false→σ∈(T.take (d.hi+1)).drop d.lo:=by
  intro he;obtain⟨r5,e5⟩:=y2.room he;have hk1:d.lo≤effCount ds (done listed) ops.length:=Nat.le_trans r5 (z1z _ (fun i _ _ hi=>q1 i (by simpa using hi)))
  have hk2:effCount ds (done listed) ops.length≤d.hi:=Nat.le_trans (z1z _ (fun i _ _ hi=>by
   simp only[Bool.not_eq_true',List.contains_eq_mem,decide_eq_false_iff_not];intro u6
   rw[hI.closed i hi j u6]at x1;cases x1)) e5
  obtain⟨h1,h2⟩:=List.getElem?_eq_some_iff.1 u1;rw[List.mem_iff_getElem?];refine⟨effCount ds (done listed) ops.length-d.lo,?_⟩;rw[List.getElem?_drop,List.getElem?_take,if_pos (by omega),show d.lo+(effCount ds (done listed) ops.length-d.lo)=effCount ds (done listed) ops.length by omega]
  exact u1
 unfold wpOp;simp only[List.getElem?_toArray,hj]
 -- how many of those that may write are done
 have m1:d.eff=true→effCount ds (done listed) ops.length=effCount ds (fun _=>true) j:=by
  intro he;rw[z8a (j:=j) ops.length (by omega) (fun i h1 h2 h3=>?_)]
  · have e1:effCount ds (done listed) j≤effCount ds (fun _=>true) j:=z1z j (fun _ _ _ _=>rfl)
    have e2:effCount ds (fun _=>true) j≤effCount ds (done listed) j:=z1z j (fun i hi m5 _=>q1 i (y2.eff he i hi m5))
    omega
  · cases hLi:done listed i with
    |false=>rfl
    |true =>
     by_cases hij:i=j
     · subst hij;rw[hLi]at x1;cases x1
     · obtain⟨oi,hoi⟩:∃oi,ops[i]?=some oi:=⟨ops[i],by simp[h2]⟩
       obtain⟨di,t4,j4⟩:=zct hokD hoi;have l5:di.eff=true:=by simp[effOf,t4]at h3;exact h3
       have o5:=j4.eff l5 j (by omega) (by rw[o0];exact he)
       rw[hI.closed i hLi j (by simp[befOf,t4];exact o5)]at x1
       cases x1
 cases hc.2 j o d hj hd with
 |plain t0 =>
  have s5:=z6z t0
  have x4:∀t n,floOf ds j≠some (t,n):=fun t n e=>by
   obtain⟨d',h1,_,h2⟩:=z3N e;rw[hd]at h1;cases h1;exact s5.1 _ h2
  unfold z1T at t0;obtain⟨gd,x5,t0⟩:=z06 t0;obtain⟨p,hp,e3⟩:=z02 t0;have q2:d.o.guard=gd:=by rw[←e3]
  have a3:d.o.op=p:=by rw[←e3]
  have f3:d.o.dst=o.dst:=by rw[←e3]
  have j3:wantA (envAt ds rs (done listed) env0 ops.length) gd=some r.want:=by
   rw[←q2,zcu k0];exact hS.want
  have hw:=z9k x5 j3 hE
  -- the state behind it
  have next:∀(σ':St) (v:Value) (w':World) (M':Nat→Prop) (ν':Nat→Value),T[effCount ds (done (listed.setIfInBounds j true)) ops.length]?=some σ'→Good M' σ' ν' w'→Later M σ ν w M' σ' ν' w' →
    Rep M' (RefOK σ' ν') w' r.r v→K (a.put o.dst v) w':=by
   intro σ' v w' M' ν' h1 h2 h3 h4;refine hK _ _ ⟨by simp[hI.size],q0,(q3 _ _).trans hI.defers,M',σ',ν',h1,h2,hl.trans h3,?_,β,fun i t n l0 ht=>?_,fun i t n i' t' n' o1 l1 ht r2=>?_⟩
   · have e0:=(h3.env hg hE).put o.dst h4;refine⟨by rw[z0x];have:=e0.len;rw[z42,z0x]at this;exact this,fun t=>?_⟩
     rw[z7i hd y2 f0 x1 r0 hI.closed t,f3,x2];exact e0.rep t
   · have h0:i≠j:=by rintro rfl;exact x4 _ _ l0.1
     refine(hP.ok i t n (r1 h0 l0) ht).later hg h3 (Act.eval_put fun d' e x=>?_)
     cases x;exact(z9o hokF (s4 l0.1) l0.1).2 j o hj (Ne.symm h0) e
   · have h0:i≠j:=by rintro rfl;exact x4 _ _ o1.1
     have l3:i'≠j:=by rintro rfl;exact x4 _ _ l1.1
     exact hP.apart i t n i' t' n' (r1 h0 o1) (r1 l3 l1) ht r2
  cases hrw:r.want with
  |false =>
   obtain⟨e1,e2⟩:=hS.no hrw;rw[if_neg (by rw[hw,hrw];simp)]
   refine next σ undef w M ν ?_ hg .refl (by rw[e1];exact z86)
   rw[y0]
   cases he:d.eff with
   |false=>simpa using u1
   |true =>
    obtain⟨s,s1,s2⟩:=e2 he;have:=m1 he;rw[this]at u1⊢;rw[s1]at u1;simp at u1;subst u1;simpa using s2
  |true =>
   rw[if_pos (by rw[hw,hrw])]
   refine .inl ?_
   cases he:d.eff with
   |true =>
    obtain⟨s,s',s1,s2,s3⟩:=hS.eff hrw he;have hk:=m1 he;rw[hk,s1]at u1;simp at u1;subst u1;rw[a3]at s3;rw[←z6G (env:=envAt ds rs (done listed) env0 ops.length) (by rw[z0x,z0x]) (z7j (l:=p.operands) (by rw[←a3];exact k0))]at s3
    refine z4K hp s3 hg hE ?_;rintro r' σ' v w' M' ν' ⟨rfl,rfl⟩ h2 h3 h4;refine next σ' v w' M' ν' ?_ h2 h3 h4;rw[y0,hk,he];simpa using s2
   |false =>
    have y4:=hS.stay hrw he;have g4:=i1 he;have s3:=y4 σ g4;rw[a3]at s3;rw[←zbr (z7j (l:=p.operands) (by rw[←a3];exact k0))]at s3
    refine z4K hp (z88 (K:=fun r' s'=>r'=r.r∧s'=σ) s3 ⟨rfl,rfl⟩) hg hE ?_
    rintro r' σ' v w' M' ν' ⟨rfl,rfl⟩ h2 h3 h4;refine next σ' v w' M' ν' ?_ h2 h3 h4;rw[y0,he];simpa using u1
 |flo t ty z h1 h2 h3 h4 h5 =>
  have i4:floOf ds j=some (t,z.length):=by simp[floOf,hd,h5]
  obtain⟨n0,l4⟩:=z9o hokF f0 i4;rw[o0]at n0
  have m4:r.want=true:=by
   have:=hS.want;rw[h5]at this;simpa[wantA] using this.symm
  have q5:r.r=.any:=by
   have:=hS.stay m4 n0 σ (i1 n0);rw[h5]at this;exact this
  rw[if_pos (by simp[Region.wanted,h3])]
  refine .inl ?_;obtain⟨v0,q6,hr0⟩:=z3Z h4;have u4:v0.cells.size=z.length:=((hr0 M (RefOK σ ν) w).1.trans Array.length_toList).symm
  have d2:(execOp a.eval o).run P w=.ok (.value (.pointer (some ⟨w.heap.size,0,none⟩))) (w.alloc (.cells v0.cells ty)):=by
   unfold execOp;rw[h2];simp[Instr.alloc,q6,newVar,newRow]
  unfold Oper.wp;rw[d2,Oper.upon_value,h1];have y1:∀b,b<w.heap.size→(w.alloc (.cells v0.cells ty)).heap[b]?=w.heap[b]?:=fun b hb=>heap_alloc_old w _ b hb
  let M':Nat→Prop:=fun k=>M k∨k=w.heap.size
  have j0:∀b,b<w.heap.size→¬M b→¬M' b∧(w.alloc (.cells v0.cells ty)).heap[b]?=w.heap[b]?:=fun b hb hm=>⟨fun x=>x.elim hm (fun e=>absurd hb (by simp[e])),y1 b hb⟩
  have g':Good M' σ ν (w.alloc (.cells v0.cells ty)):=⟨fun l ob ho=>(hg.ob l ob ho).mono j0 (fun _ _ h=>h) fun b hb r4 hm=>⟨.inl hm,y1 b ((hg.ob l ob ho).lt r4 hb)⟩,fun b hb=>by
   rcases hb with hb|hb
   · have:=hg.lt b hb;simp;omega
   · simp[hb],hg.apart⟩
  have l':Later M σ ν w M' σ ν (w.alloc (.cells v0.cells ty)):=⟨by simp,fun b hb _=>y1 b hb,fun b hb x=>x.elim id (fun e=>absurd hb (by simp[e])),fun b _ x _=>.inl x,fun _ _ h=>h,fun _ _ h=>h,rfl,rfl⟩
  have k4:¬Own σ ν w.heap.size:=fun x=>Nat.lt_irrefl _ (hg.own_lt x)
  refine hK _ _ ⟨by simp[hI.size],q0,(q3 _ _).trans hI.defers,M',σ,ν,?_,g',hl.trans l',?_,fun i=>if i=j then w.heap.size else β i,fun i t' n l0 ht=>?_,fun i t1 n1 i' t2 n2 o1 l1 ht r2 d3=>?_⟩
  · rw[y0,n0];simpa using u1
  · have e0:=(l'.env hg hE).put (some t) (r:=.any) (v:=.pointer (some ⟨w.heap.size,0,none⟩)) (.any _);refine⟨by rw[z0x];have:=e0.len;rw[z42,z0x]at this;exact this,fun t'=>?_⟩
    rw[z7i hd y2 f0 x1 r0 hI.closed t',h5,x2,q5];exact e0.rep t'
  · by_cases hij:i=j
    · subst hij;have:=l0.1;rw[i4]at this;cases this;simp only[if_true];have a2:t<a.tmps.size:=Nat.lt_of_lt_of_le (by rw[k1];exact ht) hE.len
      refine⟨by simp[Act.put,Act.eval,a2],hl.size,.inr rfl,k4,v0.cells,ty,z2Z w _,u4⟩
    · simp only[hij,if_false];refine(hP.ok i t' n (r1 hij l0) ht).later hg l' (Act.eval_put fun d' e x=>?_)
      cases x;exact(z9o hokF (s4 l0.1) l0.1).2 j o hj (Ne.symm hij) (h1.trans e)
  · have e4:∀i t n,i≠j→pending ds (done (listed.setIfInBounds j true)) i t n→t<env0.length→β i<w.heap.size:=fun i t n h0 hp ht=>hg.lt _ (hP.ok i t n (r1 h0 hp) ht).m
    by_cases hij:i=j<;>by_cases hij':i'=j
    · rw[hij,hij']
    · have:=e4 i' t2 n2 hij' l1 r2;simp only[hij,hij',if_true,if_false]at d3;omega
    · have:=e4 i t1 n1 hij o1 ht;simp only[hij,hij',if_true,if_false]at d3;omega
    · simp only[hij,hij',if_false]at d3;exact hP.apart i t1 n1 i' t2 n2 (r1 hij o1) (r1 hij' l1) ht r2 d3
 |adopt own' t ty n x h1 h2 h3 h4 h5 h6 =>
  have d4:z2T ds j=some (t,n):=by simp[z2T,hd,h6]
  obtain⟨n0,⟨i0,t3,k3⟩,x3⟩:=zcv hokF f0 d4;rw[o0]at n0;rw[d1]at t3
  have m4:r.want=true:=by
   have:=hS.want;rw[h6]at this;simpa[wantA] using this.symm
  obtain⟨s,s',s1,s2,s3⟩:=hS.eff m4 n0;have hk:=m1 n0;rw[hk,s1]at u1;obtain rfl:σ=s:=by simpa using u1.symm
  rw[←z6G (env:=envAt ds rs (done listed) env0 ops.length) (by rw[z0x,z0x]) (z7j (l:=d.o.op.operands) k0)]at s3
  rw[h6]at s3;simp only[axop]at s3;split at s3
  · rename_i i3;obtain⟨a2,y3,j6⟩:=i3;rw[k1]at a2
    have o4:pending ds (done listed) i0 t n:=⟨k3,q1 i0 t3,fun k n' hk=>by
     rw[x3 k n' (t5 hk) hk];exact x1⟩
    have hA:=hP.ok i0 t n o4 a2;obtain⟨c,e,k2,f5⟩:=hA.row;obtain⟨b,hbe⟩:∃b,β i0=b:=⟨_,rfl⟩;rw[hbe]at hA k2;have g5:=hE.parts x;have m0:=g5.okc_cells y3;have r3:(a.eval x).cells.toList.length=n:=by rw[←m0.1];exact j6
    obtain⟨c',y4,d5⟩:=z15 (P:=P) b 0 e (0,0) (a.eval x).cells.toList 0 c w k2 (by omega) (m0.one (AV.okc_all y3)) (fun j _=>by simp)
    have u3:(execOp a.eval o).run P w=.ok .skip (putRow w b c' e (0,0)):=by
     unfold execOp;rw[h2];have k5:(a.eval x).cells.size=n:=by simpa using r3
     simp only[hA.ev,Instr.storeAt,Instr.sureAddr,storeVar,Sem.run_bind,Sem.run_pure,Result.andThen,z0p h4,k5,ne_eq,not_true,if_false,y4]
    have u0:∀k,k≠b→(putRow w b c' e (0,0)).heap[k]?=w.heap[k]?:=fun k hk=>z13 (Ne.symm hk) _ _ _
    have j1:(putRow w b c' e (0,0)).heap.size=w.heap.size:=by simp
    have v3:=z14 k2 c' e (0,0)
    have q4:c'.toList=(a.eval x).cells.toList:=by
     rw[d5];have:c.toList.length=(a.eval x).cells.toList.length:=by rw[r3];simpa using f5
     simp[z0s,←this]
    rw[if_pos (by simp[Region.wanted,h3])]
    refine .inl ?_;unfold Oper.wp;rw[u3,Oper.upon_skip,h1]
    -- the end,whatever the pointer is from now on
    have fin:∀(M':Nat→Prop) (σ':St) (ν':Nat→Value),σ'=s'→Good M' σ' ν' (putRow w b c' e (0,0))→(∀k,k≠b→(M' k↔M k))→(∀k,Own σ' ν' k→k=b∨Own σ ν k)→(∀r v,RefOK σ ν r v→RefOK σ' ν' r v) →
      Rep M' (RefOK σ' ν') (putRow w b c' e (0,0)) r.r (.pointer (some ⟨b,0,none⟩))→K a (putRow w b c' e (0,0)):=by
     intro M' σ' ν' hσ g' hM ho m3 j2
     have j0:∀k,k<w.heap.size→¬M k→¬M' k∧(putRow w b c' e (0,0)).heap[k]?=w.heap[k]?:=fun k _ hn=>by
      have h0:k≠b:=fun e=>hn (e▸hA.m)
      exact⟨fun x=>hn ((hM k h0).1 x),u0 k h0⟩
     refine hK _ _ ⟨by simp[hI.size],q0,hI.defers,M',σ',ν',?_,g',hl.touch hA.base j1 u0 hM ho m3 ⟨rfl,rfl⟩,?_,β,fun i t' n' l0 ht=>?_,fun i t1 n1 i' t2 n2 o1 l1 ht r2=>?_⟩
     · rw[y0,hk,n0,hσ];simpa using s2
     · have e0:=(hE.mono j0 m3);refine⟨by rw[z0x];have:=e0.len;rw[z0x]at this;exact this,fun t'=>?_⟩
       rw[z7i hd y2 f0 x1 r0 hI.closed t',h6,x2,z2K];simp only[Option.some.injEq];split
       · rename_i e;subst e;rw[if_pos (by rw[k1];exact a2)]
         have:=hA.ev;simp only[Act.eval]at this;rw[this];exact j2
       · exact e0.rep t'
     · have h0:i≠j:=by
        rintro rfl;obtain⟨d',e1,_,e2⟩:=z3N l0.1;rw[hd]at e1;cases e1;rw[h6]at e2;cases e2
       have hp:=r1 h0 l0
       have t3:i≠i0:=by
        rintro rfl;have e1:=l0.1;rw[k3]at e1;cases e1;have:=l0.2.2 j n d4;rw[r0]at this;simp at this
       have hB:=hP.ok i t' n' hp ht;have m2:β i≠b:=fun eq=>t3 (hP.apart i t' n' i0 t n hp o4 ht a2 (eq.trans hbe.symm))
       obtain⟨c2,e2,y5,j5⟩:=hB.row;exact⟨hB.ev,hB.base,(hM _ m2).2 hB.m,fun x=>(ho _ x).elim m2 hB.own,c2,e2,(u0 _ m2).trans y5,j5⟩
     · have u5:∀{i t n},pending ds (done (listed.setIfInBounds j true)) i t n→i≠j:=by
        rintro i t n hp rfl;obtain⟨d',e1,_,e2⟩:=z3N hp.1;rw[hd]at e1;cases e1;rw[h6]at e2;cases e2
       exact hP.apart i t1 n1 i' t2 n2 (r1 (u5 o1) o1) (r1 (u5 l1) l1) ht r2
    cases own' with
    |true =>
     simp only[if_true]at s3;obtain⟨e1,e2⟩:=s3;obtain⟨ν',g',m3,ho,j2⟩:=hg.adopt hA.m hA.own j1 u0 v3 (cs:=(aev (envAt ds rs (done listed) env0 ops.length) x).cells) (by rw[q4];exact m0)
     exact fin M _ ν' e2 g' (fun _ _=>Iff.rfl) ho m3 (e1▸j2)
    |false =>
     simp only[Bool.false_eq_true,if_false]at s3;obtain⟨e1,e2⟩:=s3
     let M':Nat→Prop:=fun k=>M k∧k≠b
     have j0:∀k,k<w.heap.size→¬M k→¬M' k∧(putRow w b c' e (0,0)).heap[k]?=w.heap[k]?:=fun k _ hn=>⟨fun x=>hn x.1,u0 k (fun e=>hn (e▸hA.m))⟩
     have g':Good M' σ ν (putRow w b c' e (0,0)):=⟨fun l ob f4=>(hg.ob l ob f4).mono j0 (fun _ _ h=>h) fun b' i5 r4 a5=>by
      have h0:b'≠b:=by rintro rfl;exact hA.own ⟨l,⟨ob,f4,r4⟩,i5⟩
      exact⟨⟨a5,h0⟩,u0 _ h0⟩,fun k hk=>by rw[j1];exact hg.lt k hk.1,hg.apart⟩
     refine fin M' σ ν e2 g' (fun k hk=>⟨fun x=>x.1,fun x=>⟨x,hk⟩⟩) (fun k x=>.inr x) (fun _ _ h=>h) (e1▸?_)
     refine .rp _ _ _ (fun j=>c'[j]?.getD undef) (fun j hj=>⟨fun h=>h.2 rfl,?_⟩) (fun j hj=>?_)
     · rw[cell_of_row _ _ _ _ _ _ v3,Nat.zero_add];have:j<c'.size:=by rw[←Array.length_toList,q4,r3];omega
       simp[this]
     · have v5:j<(a.eval x).cells.toList.length:=by rw[r3];omega
       have:=(m0.mono j0 (fun _ _ h=>h)).2 j hj v5
       have e:c'[j]?.getD undef=(a.eval x).cells.toList[j]:=by
        have g6:j<(a.eval x).cells.size:=by simpa using v5
        rw[←Array.getElem?_toList,q4];simp[g6]
       rw[e];exact this
  · exact s3.elim
def left (listed:Array Bool):Nat:=(listed.toList.filter (·==false)).length
theorem ready_nil {listed:Array Bool} (hs:listed.size=ops.length) (hokD:okD ops ds=true) (h:Region.ready .any ops.toArray listed=[]):∀i,i<ops.length→done listed i=true:=by
 intro i
 induction i using Nat.strongRecOn with
 |ind i ih =>
  intro hi
  cases hd:done listed i with
  |true=>rfl
  |false =>
   exfalso
   obtain⟨o,ho⟩:∃o,ops[i]?=some o:=⟨ops[i],by simp[hi]⟩
   obtain⟨d,hdd,u0⟩:=zct hokD ho
   have:i∈Region.ready .any ops.toArray listed:=(z4h hs).2 ⟨o,ho,hd,fun e he hb=>by
    have h1:=u0.edges e he hb;have h2:=ih e.on h1 (by omega)
    unfold done at h2;simp only[Bool.and_eq_true,decide_eq_true_eq]at h2;have h3:=h2.1;simp only[Array.getD_eq_getD_getElem?]at h3⊢;have h4:listed[e.on]?=some (listed[e.on]'h2.2):=by simp[h2.2]
    rw[h4]at h3⊢
    simpa using h3⟩
   rw[h]at this;cases this
theorem zad {listed:Array Bool} {j:Nat} (hj:j<listed.size) (h:done listed j=false):left (listed.setIfInBounds j true)+1=left listed:=by
 have hf:listed.toList[j]'(by simpa using hj)=false:=by
  unfold done at h;simpa[hj] using h
 unfold left;rw[Array.toList_setIfInBounds]
 have key:∀(l:List Bool) (j:Nat) (hj:j<l.length),l[j]=false→((l.set j true).filter (·==false)).length+1=(l.filter (·==false)).length:=by
  intro l
  induction l with
  |nil=>intro j hj;simp at hj
  |cons x l ih =>
   intro j hj hx
   cases j with
   |zero=>simp at hx;subst hx;simp
   |succ j =>
    simp only[List.set_cons_succ];have:=ih j (by simpa using hj) (by simpa using hx)
    cases x<;>simp at this⊢<;>omega
 exact key listed.toList j _ hf
theorem zeJ {own:List Tmp} {B:(Nat→Prop)×St×(Nat→Value)×World} {d0:List Deferred} {Q:Exit→Act→World→Prop}
  (hc:ops.length=ds.length∧∀(j:Nat) (o:Oper) (d:DOper),ops[j]?=some o→ds[j]?=some d→CompAt P own ops.toArray o d) (hokD:okD ops ds=true) (hokF:okF ops ds=true)
  (hsh:∀j d,ds[j]?=some d→∃r,rs[j]?=some r∧Shown P T d (envAt ds rs (fun _=>true) env0 j) (effCount ds (fun _=>true) j) r)
  (hQ:∀listed a w,Inv P ops ds rs T env0 B d0 listed a w→(∀i,i<ops.length→done listed i=true)→Q .normal a w) :
  ∀(fuel:Nat) (listed:Array Bool) (a:Act) (w:World),left listed≤fuel→Inv P ops ds rs T env0 B d0 listed a w→wpAny P .any ops.toArray Q fuel listed a w:=by
 intro fuel
 induction fuel with
 |zero =>
  intro listed a w hl hI
  have u0:Region.ready .any ops.toArray listed=[]:=by
   apply List.eq_nil_iff_forall_not_mem.2;intro j hj;obtain⟨o,ho,hd,_⟩:=(z4h hI.size).1 hj;have:=zad (by rw[hI.size];exact(List.getElem?_eq_some_iff.1 ho).1) hd
   omega
  exact⟨u0,hQ listed a w hI (ready_nil hI.size hokD u0)⟩
 |succ fuel ih =>
  intro listed a w hl hI;refine⟨fun h=>hQ listed a w hI (ready_nil hI.size hokD h),fun j hj=>?_⟩
  refine zcw hc hokD hokF hsh hI hj fun a' w' y0=>ih _ a' w' ?_ y0
  obtain⟨o,ho,hd,_⟩:=(z4h hI.size).1 hj;have:=zad (by rw[hI.size];exact(List.getElem?_eq_some_iff.1 ho).1) hd
  omega
theorem zbt {own:List Tmp} {id:Nat} {KA:Env→St→Prop} {Q:Exit→Act→World→Prop} {env:Env} {σ:St} {M:Nat→Prop} {ν:Nat→Value} {w:World} {a:Act}
  (hm:P.follows .mixedOrders=true) (hc:ops.length=ds.length∧∀(j:Nat) (o:Oper) (d:DOper),ops[j]?=some o→ds[j]?=some d→CompAt P own ops.toArray o d) (hokD:okD ops ds=true) (hokF:okF ops ds=true)
  (hx:axd P KA ds env [σ] σ fun _=>True) (g:Good M σ ν w) (he:EnvR M (RefOK σ ν) w env a)
  (hK:∀env' σ' M' ν' w' a',KA env' σ'→Good M' σ' ν' w'→Later M σ ν w M' σ' ν' w'→EnvR M' (RefOK σ' ν') w' env' a'→a'.defers=a.defers→Q .normal a' w') :
  (Code.region id ops.toArray true).wp P Q a w:=by
 have hlen:ops.length=ds.length:=hc.1;obtain⟨rs,T,q1,q2,⟨X,hX⟩,_,⟨s,hs,k0⟩,q6⟩:=zcs P KA ds env [σ] σ _ hx (by simp) rfl
 refine wp_region_any hm ?_;rw[show ops.toArray.size=ops.length by simp]
 simp only[List.length_singleton,Nat.sub_self,Nat.zero_add]at q6;have j0:Good M σ ν w.drew:=g.grow (Nat.le_refl _) fun _ _=>rfl
 have q0:Later M σ ν w M σ ν w.drew:=.grow (Nat.le_refl _) fun _ _=>rfl
 have u0:∀i,done (Array.replicate ops.length false) i=false:=by
  intro i;unfold done;by_cases hi:i<ops.length
  · simp[hi]
  · simp[hi]
 refine zeJ (env0:=env) (rs:=rs) (T:=T) (B:=(M,σ,ν,w)) (d0:=a.defers) hc hokD hokF q6 ?_ _ _ _ _ (by simp[left]) ⟨by simp,(fun i hi=>by rw[u0]at hi;cases hi),rfl,M,σ,ν,?_,j0,q0,?_,fun _=>0,⟨fun i t n hp _=>(by have:=hp.2.1;rw[u0]at this;cases this),fun i t n i' t' n' hp _ _ _ _=>(by have:=hp.2.1;rw[u0]at this;cases this)⟩⟩
 · intro listed a' w' hI y0;obtain⟨M',σ',ν',h1,h2,h3,h4,_⟩:=hI.st
   have e1:effCount ds (done listed) ops.length=effCount ds (fun _=>true) ops.length:=by
    have x1:effCount ds (done listed) ops.length≤effCount ds (fun _=>true) ops.length:=z1z _ (fun _ _ _ _=>rfl)
    have x2:effCount ds (fun _=>true) ops.length≤effCount ds (done listed) ops.length:=z1z _ (fun i hi _ _=>y0 i hi)
    omega
   have e2:s=σ':=by
    rw[e1]at h1;rw[List.getLast?_eq_getElem?,q2,←hlen]at hs;simp only[List.length_singleton,Nat.add_sub_cancel_left]at hs;rw[hs]at h1;simpa using h1
   subst e2;refine hK _ s M' ν' w' a' k0 h2 h3 ?_ hI.defers;refine⟨by rw[z0x];have:=h4.len;rw[z0x]at this;exact this,fun t=>?_⟩
   have:=h4.rep t;rw[z43 (L':=fun _=>true) ops.length (fun i hi _=>y0 i hi),hlen]at this
   exact this
 · have:effCount ds (done (Array.replicate ops.length false)) ops.length=0:=by
    have:∀n,effCount ds (done (Array.replicate ops.length false)) n=0:=by
     intro n;induction n with
     |zero=>rfl
     |succ n ih=>simp[effCount,ih,u0]
    exact this _
   rw[this,hX];rfl
 · have:envAt ds rs (done (Array.replicate ops.length false)) env ops.length=env:=by
    have:∀n,envAt ds rs (done (Array.replicate ops.length false)) env n=env:=by
     intro n;induction n with
     |zero=>rfl
     |succ n ih=>simp[envAt,ih,u0]
    exact this _
   rw[this];exact q0.env g he
end
inductive Ghost where
 |clear (ts:List Tmp)
 |shut (t:Tmp)
 |own (t:Tmp) (sz:Nat)
 |keep (j:Nat)
 |weak (t:Tmp) (sz:Nat)
 |shutc (t:Tmp) (j sz:Nat)
inductive AExit where
 |normal
 |exit (id:Nat)
 |ret
inductive ACode where
 |skip
 |ops (l:List AOper)
 |draw (l:List DOper)
 |seq (a b:ACode)
 |cond (c:Operand) (a b:ACode)
 |block (id:Nat) (a:ACode)
 |loop (clr:List Tmp) (a:ACode)
 |exit (id:Nat)
 |ret
 |ghost (g:Ghost) (a:ACode)
 |after (a:ACode) (g:Ghost)
inductive Bel (n:Nat):AV→Prop
 |any:Bel n .any
 |pl (v:Value):Bel n (.pl v)
 |nils:Bel n .nils
 |sl (sz:Nat) (xs:List AV) (h:∀j (hj:j<xs.length),Bel n (xs[j])):Bel n (.sl sz xs)
 |rp (cs:List AV) (h:∀i (hi:i<cs.length),Bel n (cs[i])):Bel n (.rp cs)
 |ptr (l off:Nat) (h:l<n):Bel n (.ptr l off)
 |osl (l m:Nat) (h:l<n):Bel n (.osl l m)
 |ep (l m i off:Nat) (h:l<n):Bel n (AV.ep l m i off)
 |psl (l off m:Nat) (h:l<n):Bel n (.psl l off m)
 |zsl:Bel n .zsl
 |win (sz l m lo:Nat) (h:l<n):Bel n (.win sz l m lo)
 |agg (cs:List AV) (h:∀i (hi:i<cs.length),Bel n (cs[i])):Bel n (.agg cs)
 |tup (cs:List AV) (h:∀i (hi:i<cs.length),Bel n (cs[i])):Bel n (.tup cs)
 |fn (f:FuncId) (fs cs:List AV) (h:∀j (hj:j<fs.length),Bel n (fs[j])) (h':∀j (hj:j<cs.length),Bel n (cs[j])):Bel n (.fn f fs cs)
def BelO (n:Nat):Ob→Prop
 |.dead|.glo _ _=>True
 |.box cs=>∀c∈cs,Bel n c
 |.row _ xs=>∀x∈xs,Bel n x
theorem Bel.list {n:Nat} {xs:List AV} (h:∀i (hi:i<xs.length),Bel n (xs[i])):∀x∈xs,Bel n x:=by
 intro x hx;obtain⟨i,hi,rfl⟩:=List.getElem_of_mem hx;exact h i hi
theorem Bel.of_mem {n:Nat} {xs:List AV} (h:∀x∈xs,Bel n x):∀i (hi:i<xs.length),Bel n (xs[i]):=fun _ hi=>h _ (List.getElem_mem hi)
def sealV (σ:St):AV→Option (AV×St)
 |.osl l n=>match σ[l]? with
  |some (.row sz xs)=>if n=xs.length then some (.sl sz xs,σ.set l .dead) else none
  |_=>none
 |.ptr l 0=>match σ[l]? with
  |some (.box cs)=>some (.rp cs,σ.set l .dead)
  |_=>none
 |v=>some (v,σ)
def sealL:St→List AV→Option (List AV×St)
 |σ,[]=>some ([],σ)
 |σ,v::vs=>match sealV σ v with
  |some (v',σ')=>match sealL σ' vs with
   |some (vs',σ'')=>some (v'::vs',σ'')
   |none=>none
  |none=>none
def z4i (env:Env):List Tmp→Env
 |[]=>env
 |t::ts=>z4i (env.set t .any) ts
def weakA (sz:Nat):AV→AV
 |.nils=>.sl sz []
 |.zsl=>.sl sz []
 |v=>v
def zcx (sz j:Nat) (σ:St):AV→Option St
 |.ptr l off=>match σ[l]? with
  |some (.box cs)=>match cs[off+j]? with
   |some (.osl l2 n)=>match σ[l2]? with
    |some (.row sz' xs)=>if n=xs.length∧l2≠l then some ((σ.set l2 .dead).set l (.box (cs.set (off+j) (.sl sz' xs)))) else none
    |_=>none
   |some .nils=>some (σ.set l (.box (cs.set (off+j) (.sl sz []))))
   |_=>none
  |_=>none
 |_=>none
def gh (n0:Nat) (g:Ghost) (env:Env) (σ:St) (K:Env→St→Prop):Prop :=
 match g with
 |.clear ts=>K (z4i env ts) σ
 |.shut t=>match tmpA env t with
  |.agg cs=>match sealL σ cs with
   |some (cs',σ')=>K (env.set t (.agg cs')) σ'
   |none=>False
  |v=>match sealV σ v with
   |some (v',σ')=>K (env.set t v') σ'
   |none=>False
 |.own t sz=>match tmpA env t with
  |.nils=>K (env.set t (.osl σ.length 0)) (σ++[.row sz []])
  |_=>False
 |.keep j=>(∀v∈env,Bel (n0+j) v)∧(∀o∈σ.take (n0+j),BelO (n0+j) o)∧n0+j≤σ.length∧K env (σ.take (n0+j))
 |.weak t sz=>K (env.set t (weakA sz (tmpA env t))) σ
 |.shutc t j sz=>match zcx sz j σ (tmpA env t) with
  |some σ'=>K env σ'
  |none=>False
def LoopP (F:(Env→St→Prop)→Env→St→Prop) (env:Env) (σ:St):Prop :=
 ∀I:Env→St→Prop,(∀env σ,F I env σ→I env σ)→I env σ
def ax (P:Program) (n0:Nat):ACode→(AExit→Env→St→Prop)→Env→St→Prop
 |.skip,K,env,σ=>K .normal env σ
 |.ops l,K,env,σ=>axops P (K .normal) l env σ
 |.draw l,K,env,σ=>axd P (K .normal) l env [σ] σ fun _=>True
 |.seq a b,K,env,σ=>ax P n0 a (fun e env σ=>match e with
  |.normal=>ax P n0 b K env σ
  |e=>K e env σ) env σ
 |.cond c a b,K,env,σ=>match boolA (aev env c) with
  |some true=>ax P n0 a K env σ
  |some false=>ax P n0 b K env σ
  |none=>False
 |.block id a,K,env,σ=>ax P n0 a (fun e env σ=>match e with
  |.exit j=>if j=id then K .normal env σ else K (.exit j) env σ
  |e=>K e env σ) env σ
 |.loop clr a,K,env,σ=>LoopP (fun I env σ=>ax P n0 a (fun e env σ=>match e with
  |.normal=>I (z4i env clr) σ
  |e=>K e env σ) env σ) (z4i env clr) σ
 |.exit id,K,env,σ=>K (.exit id) env σ
 |.ret,K,env,σ=>K .ret env σ
 |.ghost g a,K,env,σ=>gh n0 g env σ fun env σ=>ax P n0 a K env σ
 |.after a g,K,env,σ=>ax P n0 a (fun e env σ=>match e with
  |.normal=>gh n0 g env σ (K .normal)
  |e=>K e env σ) env σ
def z6J (P:Program) (own:List Tmp) (arr:Array Oper):List Oper→List DOper→Option (List DOper)
 |[],[]=>some []
 |o::os,d::ds=>(compD P own arr o d).bind fun x=>(z6J P own arr os ds).map ({ d with o:=x }::·)
 |_,_=>none
theorem zcy {P:Program} {own:List Tmp} {arr:Array Oper}:∀{l:List Oper} {ds u0:List DOper},z6J P own arr l ds=some u0 →
  l.length=u0.length∧∀(j:Nat) (o:Oper) (d:DOper),l[j]?=some o→u0[j]?=some d→CompAt P own arr o d:=by
 intro l
 induction l with
 |nil =>
  intro ds u0 h;cases ds<;>simp[z6J]at h
  subst h;exact⟨rfl,fun j o d hj=>by simp at hj⟩
 |cons o l ih =>
  intro ds u0 h
  cases ds with
  |nil=>simp[z6J]at h
  |cons d ds =>
   simp only[z6J]at h;obtain⟨x,hx,h⟩:=z06 h;obtain⟨r,hr,rfl⟩:=z02 h;obtain⟨h1,h2⟩:=ih hr;refine⟨by simp[h1],fun j o' d' hj hd=>?_⟩
   cases j with
   |zero =>
    simp only[List.getElem?_cons_zero,Option.some.injEq]at hj hd;subst hj;subst hd;exact zeH hx
   |succ j=>exact h2 j o' d' (by simpa using hj) (by simpa using hd)
def cc (P:Program) (own:List Tmp):Code→ACode→Option ACode
 |c,.ghost g a=>(cc P own c a).map (.ghost g ·)
 |c,.after a g=>(cc P own c a).map (.after · g)
 |.skip,.skip=>some .skip
 |.region _ ⟨ops⟩ false,.ops _=>(compL P own ⟨ops⟩ ops).map .ops
 |.region _ ⟨ops⟩ true,.draw ds=>(z6J P own ⟨ops⟩ ops ds).bind fun ds'=>if okD ops ds'&&okF ops ds' then some (.draw ds') else none
 |.seq a b,.seq x y=>(cc P own a x).bind fun x'=>(cc P own b y).map fun y'=>.seq x' y'
 |.cond c a b,.cond _ x y=>(cc P own a x).bind fun x'=>(cc P own b y).map fun y'=>.cond c x' y'
 |.block id a,.block _ x=>(cc P own a x).map (.block id ·)
 |.loop a,.loop clr x=>(cc P own a x).map (.loop clr ·)
 |.exit id,.exit _=>some (.exit id)
 |.ret,.ret=>some .ret
 |_,_=>none
def zgr:AExit→Exit
 |.normal=>.normal
 |.exit id=>.exit id
 |.ret=>.ret
structure Base where
 M:Nat→Prop
 σ:St
 ν:Nat→Value
 w:World
 d:List Deferred
def At (B:Base) (env:Env) (σ:St) (a:Act) (w:World):Prop :=
 ∃M ν,Good M σ ν w∧Later B.M B.σ B.ν B.w M σ ν w∧EnvR M (RefOK σ ν) w env a∧a.defers=B.d
section
variable {P:Program} {B:Base} {env:Env} {σ:St} {a:Act} {w:World}
theorem z7k (env:Env) (s:Tmp) (r:AV) (t:Tmp):tmpA (env.set s r) t=if s=t then(if t<env.length then r else .any) else tmpA env t:=by
 have:=z2K env (some s) r t;simpa[putA] using this
theorem At.set {r:AV} {t:Tmp} (h:At B env σ a w) (hr:∀M ν,Good M σ ν w→EnvR M (RefOK σ ν) w env a→Rep M (RefOK σ ν) w r (a.tmps.getD t undef)):At B (env.set t r) σ a w:=by
 obtain⟨M,ν,g,l,e,d⟩:=h;refine⟨M,ν,g,l,⟨by simpa using e.len,fun s=>?_⟩,d⟩
 rw[z7k];split
 · rename_i u0;subst u0;split
   · exact hr M ν g e
   · exact .any _
 · exact e.rep s
theorem At.clear (h:At B env σ a w):∀ts,At B (z4i env ts) σ a w:=by
 intro ts
 induction ts generalizing env with
 |nil=>exact h
 |cons t ts ih=>exact ih (h.set fun _ _ _ _=>.any _)
theorem Good.recell {M:Nat→Prop} {ν:Nat→Value} (g:Good M σ ν w) {l k:Nat} {cs:List AV} {x:AV} (hs:σ[l]?=some (.box cs))
  (hx:∀b o c e fr v,ν l=.pointer (some ⟨b,o,none⟩)→w.heap[b]?=some (.cells c e fr)→c[o+k]?=some v→(∀c,cs[k]?=some c→Rep M (RefOK σ ν) w c v)→Rep M (RefOK σ ν) w x v) :
  Good M (σ.set l (.box (cs.set k x))) ν w∧Later M σ ν w M (σ.set l (.box (cs.set k x))) ν w:=by
 obtain⟨b',o',c,el,fr,e',hM,hh,hsz,hf,hr⟩:=(g.ob l _ hs).box_inv;refine g.update hs (by simp) _ (fun _ _=>rfl) (Nat.le_refl _) (fun _ _ _=>rfl) (fun _ _ h=>h) (fun _ h _=>h) (fun b h=>g.lt b h) (fun _ b h=>.inl h) (fun _ _ h=>h.set_box hs) ?_
 rw[e'];refine .box _ b' o' c el fr hM hh (by rw[List.length_set];exact hsz) (fun j hj=>hf j (by rw[List.length_set]at hj;exact hj)) (fun j hj v hv=>?_)
 rw[List.length_set]at hj;have old:=hr j hj v hv
 have key:Rep M (RefOK σ ν) w ((cs.set k x)[j]'(by rw[List.length_set];exact hj)) v:=by
  rw[List.getElem_set];split
  · rename_i e;subst e;exact hx b' o' c el fr v e' hh hv (fun c hc=>by rw[List.getElem?_eq_getElem hj]at hc;cases hc;exact old)
  · exact old
 exact key.mono (fun b _ hm=>⟨hm,rfl⟩) fun _ _ h=>h.set_box hs
theorem Good.die {M:Nat→Prop} {ν:Nat→Value} (g:Good M σ ν w) {l:Nat} {o:Ob} (hs:σ[l]?=some o) (hd:o≠.dead) :
  Good (fun k=>M k∧blk (ν l)≠some k) (σ.set l .dead) ν w∧Later M σ ν w (fun k=>M k∧blk (ν l)≠some k) (σ.set l .dead) ν w :=
 g.update hs hd .dead (fun _ _=>rfl) (Nat.le_refl _) (fun _ _ _=>rfl) (fun _ _ h=>h.1) (fun _ h h'=>⟨h,h'⟩) (fun b h=>g.lt b h.1) (fun h=>absurd rfl h) (fun _ _ h=>h.set_dead hs) (.dead _)
theorem z5a {M:Nat→Prop} {ν:Nat→Value} {x x':AV} {σ':St} {v:Value} (g:Good M σ ν w) (h:sealV σ x=some (x',σ')) (hr:Rep M (RefOK σ ν) w x v) :
  ∃M',Good M' σ' ν w∧Later M σ ν w M' σ' ν w∧Rep M' (RefOK σ' ν) w x' v:=by
 have same:x'=x→σ'=σ→∃M',Good M' σ' ν w∧Later M σ ν w M' σ' ν w∧Rep M' (RefOK σ' ν) w x' v:=by
  rintro rfl rfl;exact⟨M,g,.refl,hr⟩
 unfold sealV at h;split at h
 · rename_i l n;split at h
   · rename_i sz xs hs;split at h
     · rename_i hn;simp at h;obtain⟨rfl,rfl⟩:=h;obtain⟨g',l'⟩:=g.die hs (by simp)
       refine⟨_,g',l',?_⟩;obtain⟨a,len,cap,rfl,hR⟩:=hr.osl_inv;have e:=hR.s_row hs hn;rcases(g.ob l _ hs).row_inv with⟨e3,rfl⟩|⟨b,o,cap2,c,el,fr,e3,hM,hh,hlen,hsz,hf,hrow⟩
       · rw[e3]at e;simp at e;obtain⟨rfl,rfl,rfl⟩:=e;exact .sl0 _ _ _
       · have e4:=e;rw[e3]at e;simp at e;obtain⟨rfl,rfl,rfl⟩:=e;refine .sl sz xs b o cap (fun i j=>c[o+(i*sz+j)]?.getD undef) hlen (fun i j hi hj=>?_) (fun i j hi hj=>?_)
         · obtain⟨q1,_⟩:=hrow i j hi hj;have u0:=z2h (i:=i) (k:=cap) (by omega) q1
           refine⟨q1,fun x=>x.2 (by rw[e3];rfl),?_⟩
           rw[cell_of_row _ _ _ _ _ _ hh];simp[show o+(i*sz+j)<c.size by omega]
         · obtain⟨q1,q2⟩:=hrow i j hi hj;have u0:=z2h (i:=i) (k:=cap) (by omega) q1
           exact l'.rep g (q2 _ (by simp[show o+(i*sz+j)<c.size by omega]))
     · cases h
   · cases h
 · rename_i l;split at h
   · rename_i cs hs;simp at h;obtain⟨rfl,rfl⟩:=h;obtain⟨g',l'⟩:=g.die hs (by simp)
     refine⟨_,g',l',?_⟩;obtain⟨b,o,rfl,hR⟩:=hr.ptr_inv;have e:=hR.p_box hs;obtain⟨b',o',c,el,fr,e',hM,hh,hsz,hf,hx⟩:=(g.ob l _ hs).box_inv;rw[e']at e;simp at e;obtain⟨rfl,rfl⟩:=e;refine .rp cs b o (fun j=>c[o+j]?.getD undef) (fun j hj=>⟨fun x=>x.2 (by rw[e'];rfl),?_⟩) (fun j hj=>?_)
     · rw[cell_of_row _ _ _ _ _ _ hh];simp[show o+j<c.size by omega]
     · exact l'.rep g (hx j hj _ (by simp[show o+j<c.size by omega]))
   · cases h
 · simp at h;exact same h.1.symm h.2.symm
theorem zeK {ν:Nat→Value}:∀(xs:List AV) {M:Nat→Prop} {σ:St} {xs':List AV} {σ':St} {vs:List Value},Good M σ ν w→sealL σ xs=some (xs',σ')→Reps M (RefOK σ ν) w xs vs →
  ∃M',Good M' σ' ν w∧Later M σ ν w M' σ' ν w∧Reps M' (RefOK σ' ν) w xs' vs:=by
 intro xs
 induction xs with
 |nil =>
  intro M σ xs' σ' vs g h hr;simp[sealL]at h;obtain⟨rfl,rfl⟩:=h;exact⟨M,g,.refl,hr⟩
 |cons x xs ih =>
  intro M σ xs' σ' vs g h hr
  cases vs with
  |nil=>simp[Reps]at hr
  |cons v vs =>
   simp only[sealL]at h;split at h
   · rename_i x1 σ1 hx;split at h
     · rename_i xs2 σ2 hxs;simp at h;obtain⟨rfl,rfl⟩:=h;obtain⟨M1,g1,l1,r1⟩:=z5a g hx hr.head;obtain⟨M2,g2,l2,r2⟩:=ih g1 hxs (l1.reps g hr.tail);exact⟨M2,g2,l1.trans l2,.cons (l2.rep g1 r1) r2⟩
     · cases h
   · cases h
theorem RefOK.take {ν:Nat→Value} {m:Nat} {r:Ref} {v:Value} (h:RefOK (σ.take m) ν r v):RefOK σ ν r v:=by
 have key:∀(l:Nat) (o:Ob),(σ.take m)[l]?=some o→σ[l]?=some o:=by
  intro l o h;rw[List.getElem?_take]at h;split at h
  · exact h
  · cases h
 cases r with
 |p l=>simp only[RefOK]at h⊢;cases ho:(σ.take m)[l]? with
  |none=>simp[ho]at h
  |some o=>rw[ho]at h;rw[key l o ho];exact h
 |s l n=>simp only[RefOK]at h⊢;cases ho:(σ.take m)[l]? with
  |none=>simp[ho]at h
  |some o=>rw[ho]at h;rw[key l o ho];exact h
 |e l n i=>simp only[RefOK]at h⊢;cases ho:(σ.take m)[l]? with
  |none=>simp[ho]at h
  |some o=>rw[ho]at h;rw[key l o ho];exact h
theorem RefOK.of_take {ν:Nat→Value} {m:Nat} {r:Ref} {v:Value} (h:RefOK σ ν r v) (hr:∀l,(r=.p l∨(∃n,r=.s l n)∨∃n i,r=.e l n i)→l<m):RefOK (σ.take m) ν r v:=by
 have key:∀l,l<m→(σ.take m)[l]?=σ[l]?:=fun l hl=>by rw[List.getElem?_take,if_pos hl]
 cases r with
 |p l=>simp only[RefOK]at h⊢;rw[key l (hr l (.inl rfl))];exact h
 |s l n=>simp only[RefOK]at h⊢;rw[key l (hr l (.inr (.inl ⟨n,rfl⟩)))];exact h
 |e l n i=>simp only[RefOK]at h⊢;rw[key l (hr l (.inr (.inr ⟨n,i,rfl⟩)))];exact h
theorem Rep.take {M:Nat→Prop} {ν:Nat→Value} {m:Nat} {x:AV} {v:Value} (h:Rep M (RefOK σ ν) w x v) (hb:Bel m x):Rep M (RefOK (σ.take m) ν) w x v:=by
 induction h with
 |any v=>exact .any v
 |pl v=>exact .pl v
 |nils=>exact .nils
 |sl0 sz a cap=>exact .sl0 sz a cap
 |sl sz xs b o cap f hcap hc _ ih =>
  cases hb with
  |sl _ _ hb =>
   refine .sl sz xs b o cap f hcap hc fun i j hi hj=>ih i j hi hj ?_
   have hx:=hb i hi
   have:∀y∈(xs[i]).cells,Bel m y:=by
    intro y hy;generalize xs[i]=x at *;cases x<;>simp only[AV.cells,List.mem_singleton]at hy<;>try (subst hy;exact hx)
    cases hx with
    |agg _ h=>exact Bel.list h y hy
   exact this _ (List.getElem_mem hj)
 |rp cs b o f hc _ ih =>
  cases hb with
  |rp _ hb=>exact .rp cs b o f hc fun j hj=>ih j hj (hb j hj)
 |ptr l off b o h =>
  cases hb with
  |ptr _ _ hl=>exact .ptr l off b o (h.of_take fun k hk=>by rcases hk with e|⟨n,e⟩|⟨n,i,e⟩<;>cases e;exact hl)
 |osl l n a len cap h =>
  cases hb with
  |osl _ _ hl=>exact .osl l n a len cap (h.of_take fun k hk=>by rcases hk with e|⟨n,e⟩|⟨n,i,e⟩<;>cases e;exact hl)
 |ep l n i off b o h =>
  cases hb with
  |ep _ _ _ _ hl=>exact .ep l n i off b o (h.of_take fun k hk=>by rcases hk with e|⟨n,e⟩|⟨n,i,e⟩<;>cases e;exact hl)
 |psl l off n b o h =>
  cases hb with
  |psl _ _ _ hl=>exact .psl l off n b o (h.of_take fun k hk=>by rcases hk with e|⟨n,e⟩|⟨n,i,e⟩<;>cases e;exact hl)
 |zsl a=>exact .zsl a
 |win sz l n lo b o cap hl0 h =>
  cases hb with
  |win _ _ _ _ hl=>exact .win sz l n lo b o cap hl0 (h.of_take fun k hk=>by rcases hk with e|⟨n,e⟩|⟨n,i,e⟩<;>cases e;exact hl)
 |agg cs vs hl _ ih =>
  cases hb with
  |agg _ hb=>exact .agg cs vs hl fun j hj u0=>ih j hj u0 (hb j hj)
 |tup cs vs hl _ ih =>
  cases hb with
  |tup _ hb=>exact .tup cs vs hl fun j hj u0=>ih j hj u0 (hb j hj)
 |fn g fs cs us vs hl hl' _ _ ih ih' =>
  cases hb with
  |fn _ _ _ hb hb'=>exact .fn g fs cs us vs hl hl' (fun j hj u0=>ih j hj u0 (hb j hj)) (fun j hj u0=>ih' j hj u0 (hb' j hj))
theorem zcz {m:Nat} {x:AV} (h:Bel m x):∀y∈x.cells,Bel m y:=by
 intro y hy;cases x<;>simp only[AV.cells,List.mem_singleton]at hy<;>try (subst hy;exact h)
 cases h with
 |agg _ h=>exact Bel.list h y hy
theorem ObOK.take {M:Nat→Prop} {ν:Nat→Value} {m:Nat} {o:Ob} {v:Value} (h:ObOK M (RefOK σ ν) w o v) (hb:BelO m o):ObOK M (RefOK (σ.take m) ν) w o v:=by
 cases h with
 |dead=>exact .dead _
 |box cs b o c e fr hM hh hs hf hr=>exact .box cs b o c e fr hM hh hs hf fun j hj v hv=>(hr j hj v hv).take (hb _ (List.getElem_mem hj))
 |glo g vs v hv2 hv3 hc=>exact .glo g vs v hv2 hv3 hc
 |row0=>exact .row0 _
 |row sz xs b o cap c e fr hM hh hl hs hf hr =>
  exact .row sz xs b o cap c e fr hM hh hl hs hf fun i j hi hj=>⟨(hr i j hi hj).1,fun v hv=>((hr i j hi hj).2 v hv).take (zcz (hb _ (List.getElem_mem hi)) _ (List.getElem_mem hj))⟩
theorem z5E {m l:Nat} (h:live (σ.take m) l):live σ l:=by
 obtain⟨o,ho,hd⟩:=h;rw[List.getElem?_take]at ho;split at ho
 · exact⟨o,ho,hd⟩
 · cases ho
theorem Good.take {M:Nat→Prop} {ν:Nat→Value} {m:Nat} (g:Good M σ ν w) (hb:∀o∈σ.take m,BelO m o):Good M (σ.take m) ν w where
 ob l o ho:=by
  have u0:=ho;rw[List.getElem?_take]at u0;split at u0
  · exact(g.ob l o u0).take (hb o (List.mem_of_getElem? ho))
  · cases u0
 lt:=g.lt
 apart l l' b h1 h2:=g.apart l l' b (z5E h1) (z5E h2)
theorem Later.take {M M':Nat→Prop} {σ0 σ:St} {ν0 ν:Nat→Value} {w0 w:World} {m:Nat} (h:Later M σ0 ν0 w0 M' σ ν w) (hm:σ0.length≤m):Later M σ0 ν0 w0 M' (σ.take m) ν w where
 size:=h.size
 keep:=h.keep
 mute:=h.mute
 outer:=h.outer
 out:=h.out
 own b hb x:=by
  obtain⟨l,h1,h2⟩:=x;exact h.own b hb ⟨l,z5E h1,h2⟩
 evo r v x:=by
  refine(h.evo r v x).of_take fun l hl=>?_
  have:l<σ0.length:=by
   rcases hl with rfl|⟨n,rfl⟩|⟨n,i,rfl⟩ <;>
    (simp only[RefOK]at x
     cases ho:σ0[l]? with
     |none=>simp[ho]at x
     |some o=>exact(List.getElem?_eq_some_iff.1 ho).1)
  omega
theorem Good.void {M:Nat→Prop} {ν:Nat→Value} (g:Good M σ ν w) (sz:Nat) :
  ∃ν',Good M (σ++[.row sz []]) ν' w∧Later M σ ν w M (σ++[.row sz []]) ν' w∧Rep M (RefOK (σ++[.row sz []]) ν') w (.osl σ.length 0) (.slice none 0 0):=by
 let ν':Nat→Value:=fun k=>if k=σ.length then .slice none 0 0 else ν k
 have y0:ν' σ.length=.slice none 0 0:=by simp[ν']
 have q0:∀k,k<σ.length→ν' k=ν k:=fun k hk=>by simp[ν',Nat.ne_of_lt hk]
 have j0:∀k o',σ[k]?=some o'→(σ++[.row sz []])[k]?=some o'∧k<σ.length:=fun k o' h=>by
  have hk:=(List.getElem?_eq_some_iff.1 h).1;exact⟨by rw[List.getElem?_append_left hk];exact h,hk⟩
 have n0:∀r v,RefOK σ ν r v→RefOK (σ++[.row sz []]) ν' r v:=fun r v h=>RefOK.ext (fun k o' hk=>⟨(j0 k o' hk).1,q0 k (j0 k o' hk).2⟩) h
 have k0:∀k,live (σ++[.row sz []]) k→k<σ.length∨k=σ.length:=fun k ⟨o',ho,_⟩=>by
  have:=(List.getElem?_eq_some_iff.1 ho).1;simp at this;omega
 have u0:∀k,k<σ.length→live (σ++[.row sz []]) k→live σ k:=fun k hk ⟨o',ho,hod⟩=>⟨o',by rwa [List.getElem?_append_left hk]at ho,hod⟩
 have m0:blk (ν' σ.length)=none:=by rw[y0];rfl
 refine⟨ν',⟨?_,g.lt,?_⟩,⟨Nat.le_refl _,fun _ _ _=>rfl,fun _ _ h=>h,fun _ _ h _=>h,?_,n0,rfl,rfl⟩,.osl _ _ _ _ _ ?_⟩
 · intro k o' ho;by_cases hk:k<σ.length
   · rw[List.getElem?_append_left hk]at ho;rw[q0 k hk];exact(g.ob k o' ho).mono (fun b _ hm=>⟨hm,rfl⟩) n0 fun b _ _ hm=>⟨hm,rfl⟩
   · have r0:k=σ.length:=by
      have:=(List.getElem?_eq_some_iff.1 ho).1;simp at this;omega
     subst r0;simp at ho;subst ho;rw[y0];exact .row0 _
 · intro k k' b h1 h2 e1 e2;rcases k0 k h1 with hk|hk<;>rcases k0 k' h2 with hk'|hk'
   · rw[q0 k hk]at e1;rw[q0 k' hk']at e2;exact g.apart k k' b (u0 k hk h1) (u0 k' hk' h2) e1 e2
   · subst hk';rw[m0]at e2;cases e2
   · subst hk;rw[m0]at e1;cases e1
   · omega
 · rintro b hb ⟨k,hk,e⟩;rcases k0 k hk with h|h
   · rw[q0 k h]at e;exact⟨k,u0 k h hk,e⟩
   · subst h;rw[m0]at e;cases e
 · simp[RefOK,y0]
theorem zae {g:Ghost} {K:Env→St→Prop} (h:gh B.σ.length g env σ K) (hA:At B env σ a w):∃env' σ',K env' σ'∧At B env' σ' a w:=by
 cases g with
 |clear ts=>exact⟨_,_,h,hA.clear ts⟩
 |shut t =>
  simp only[gh]at h;obtain⟨M,ν,g,l,e,d⟩:=hA;have hr:=e.rep t
  have fin:∀{v':AV} {σ':St} {M':Nat→Prop},Good M' σ' ν w→Later M σ ν w M' σ' ν w→Rep M' (RefOK σ' ν) w v' (a.tmps.getD t undef)→At B (env.set t v') σ' a w:=by
   intro v' σ' M' g' l' r';have e':=l'.env g e;refine⟨M',ν,g',l.trans l',⟨by simpa using e'.len,fun s=>?_⟩,d⟩
   rw[z7k];split
   · rename_i k0;subst k0;split
     · exact r'
     · exact .any _
   · exact e'.rep s
  split at h
  · rename_i cs x1;split at h
    · rename_i cs' σ' hs;rw[x1]at hr;obtain⟨vs,hv,u1⟩:=hr.agg_inv;obtain⟨M',g',l',r'⟩:=zeK cs g hs u1;exact⟨_,_,h,fin g' l' (by rw[hv];exact .of_agg r')⟩
    · exact h.elim
  · split at h
    · rename_i v' σ' hs;obtain⟨M',g',l',r'⟩:=z5a g hs hr;exact⟨_,_,h,fin g' l' r'⟩
    · exact h.elim
 |own t sz =>
  simp only[gh]at h;obtain⟨M,ν,g,l,e,d⟩:=hA;have hr:=e.rep t;split at h
  · rename_i hn;rw[hn]at hr;have hv:=hr.nils_inv;obtain⟨ν',g',l',r'⟩:=g.void sz;have e':=l'.env g e;refine⟨_,_,h,M,ν',g',l.trans l',⟨by simpa using e'.len,fun s=>?_⟩,d⟩
    rw[z7k];split
    · rename_i k0;subst k0;split
      · rw[hv];exact r'
      · exact .any _
    · exact e'.rep s
  · exact h.elim
 |keep j =>
  simp only[gh]at h;obtain⟨h1,h2,h3,h4⟩:=h;obtain⟨M,ν,g,l,e,d⟩:=hA;refine⟨_,_,h4,M,ν,g.take h2,l.take (by omega),⟨e.len,fun t=>(e.rep t).take ?_⟩,d⟩
  unfold tmpA;rw[List.getD_eq_getElem?_getD]
  cases ht:env[t]? with
  |none=>exact .any
  |some v=>exact h1 v (List.mem_of_getElem? ht)
 |weak t sz =>
  refine⟨_,_,h,hA.set fun M ν g e=>?_⟩
  have hr:=e.rep t;generalize a.tmps.getD t undef=v at hr⊢;generalize tmpA env t=x at hr⊢;unfold weakA;split
  · rw[hr.nils_inv];exact .sl0 _ _ _
  · cases hr;exact .sl0 _ _ _
  · exact hr
 |shutc t j sz =>
  simp only[gh]at h;obtain⟨M,ν,g,l,e,d⟩:=hA;split at h
  · rename_i σ' hs;refine⟨_,_,h,?_⟩;clear h;generalize tmpA env t=x at hs;unfold zcx at hs;split at hs
    · rename_i k off;split at hs
      · rename_i cs y0;split at hs
        · rename_i l2 n u0;split at hs
          · rename_i d0 xs m0;split at hs
            · rename_i hn;obtain⟨hn,l0⟩:=hn;simp only[Option.some.injEq]at hs;subst hs;have o0:sealV σ (.osl l2 n)=some (.sl d0 xs,σ.set l2 .dead):=by simp only[sealV,m0,hn,if_true]
              have q0:(σ.set l2 .dead)[k]?=some (.box cs):=by rw[List.getElem?_set_ne l0];exact y0
              obtain⟨b',o',c,el,fr,e',hM,hh,hsz,hf,hr⟩:=(g.ob k _ y0).box_inv;obtain⟨h0,n0⟩:=List.getElem?_eq_some_iff.1 u0;have f0:c[o'+(off+j)]?=some (c[o'+(off+j)]'(by omega)):=by simp[show o'+(off+j)<c.size by omega]
              have j0:=hr (off+j) h0 _ f0;rw[n0]at j0;obtain⟨M2,g2,e0,r2⟩:=z5a g o0 j0
              have g3:=g2.recell (k:=off+j) (x:=.sl d0 xs) q0 (fun b2 o2 c2 el2 fr2 v e2 t0 r0 _=>by
               rw[e']at e2;simp only[Value.pointer.injEq,Option.some.injEq,Addr.mk.injEq,and_true]at e2;obtain⟨rfl,rfl⟩:=e2;rw[hh]at t0;cases t0;rw[f0]at r0;cases r0
               exact r2)
              exact⟨M2,ν,g3.1,(l.trans e0).trans g3.2,g3.2.env g2 (e0.env g e),d⟩
            · cases hs
          · cases hs
        · rename_i u0;simp only[Option.some.injEq]at hs;subst hs
          have g3:=g.recell (k:=off+j) (x:=.sl sz []) y0 (fun _ _ _ _ _ v _ _ _ hv=>by
           have h1:=hv _ u0
           rw[h1.nils_inv];exact .sl0 _ _ _)
          exact⟨M,ν,g3.1,l.trans g3.2,g3.2.env g e,d⟩
        · cases hs
      · cases hs
    · cases hs
  · exact h.elim
def zaf (P:Program) (c:Code) (Q:Exit→Act→World→Prop) (a:Act) (w:World):Prop :=
 ∀(b:Frame) (k:List Item) (cs:List Frame),∃e a' w',Q e a' w'∧Arrives P (lone (b.at a (.code c::.inLoop c::k)) cs w) b k cs e a' w'
theorem z8d {c:Code} {Q:Exit→Act→World→Prop} (h:zaf P c Q a w):(Code.loop c).wp P Q a w:=by
 intro b k cs;obtain⟨e,a',w',hq,u0⟩:=h b k cs;exact⟨e,a',w',hq,.of_steps (.one step_loop) u0⟩
theorem z8e {c:Code} {Q:Exit→Act→World→Prop} (h:c.wp P (Exit.then (zaf P c Q) Q) a w):zaf P c Q a w:=by
 intro b k cs;obtain⟨e,a₁,w₁,hq,u0⟩:=h b (.inLoop c::k) cs
 cases e with
 |normal =>
  obtain⟨e₂,a₂,w₂,q0,y0⟩:=hq b k cs;exact⟨e₂,a₂,w₂,q0,.of_steps (Steps.trans u0 (.one step_inLoop)) y0⟩
 |exit id=>exact⟨_,a₁,w₁,hq,.pass (x:=.inLoop c) rfl (fun _ _=>.inl (by simp)) u0⟩
 |goto l=>exact⟨_,a₁,w₁,hq,.pass (x:=.inLoop c) rfl (fun _ _=>.inl (by simp)) u0⟩
 |ret=>exact⟨_,a₁,w₁,hq,.pass (x:=.inLoop c) rfl (fun _ _=>.inl (by simp)) u0⟩
 |panic ch=>exact⟨_,a₁,w₁,hq,.pass (x:=.inLoop c) rfl (fun _ _=>.inl (by simp)) u0⟩
 |outgrown=>exact⟨_,a₁,w₁,hq,.pass (x:=.inLoop c) rfl (fun _ _=>.inl (by simp)) u0⟩
theorem At.of_later {M':Nat→Prop} {ν':Nat→Value} {M:Nat→Prop} {ν:Nat→Value} {σ':St} {env':Env} {a':Act} {w':World} (l:Later B.M B.σ B.ν B.w M σ ν w) (d:a.defers=B.d)
  (g':Good M' σ' ν' w') (l':Later M σ ν w M' σ' ν' w') (e':EnvR M' (RefOK σ' ν') w' env' a') (d':a'.defers=a.defers):At B env' σ' a' w' :=
 ⟨M',ν',g',l.trans l',e',d'.trans d⟩
theorem zeL {own:List Tmp} (hm:P.follows .mixedOrders=true):∀(x:ACode) (c:Code) (KA:AExit→Env→St→Prop) (Q:Exit→Act→World→Prop) (env:Env) (σ:St) (a:Act) (w:World),
  cc P own c x=some x→ax P B.σ.length x KA env σ→At B env σ a w→(∀e u0 σ' a' w',KA e u0 σ'→At B u0 σ' a' w'→Q (zgr e) a' w')→c.wp P Q a w:=by
 intro x
 induction x with
 |skip =>
  intro c KA Q env σ a w hc hx hA hK;cases c<;>simp[cc]at hc
  · exact wp_skip (hK .normal env σ a w hx hA)
 |ops l =>
  intro c KA Q env σ a w hc hx hA hK
  cases c with
  |region id ops dr=>_
  |_=>simp[cc]at hc
  obtain⟨ops⟩:=ops;cases dr<;>simp only[cc]at hc<;>try cases hc
  obtain⟨l',t0,hc⟩:=z02 hc;simp at hc;subst hc;obtain⟨M,ν,g,lt,e,d⟩:=hA;exact wp_region_list (z9m _ _ l' env σ M ν w a (Nat.le_refl _) t0 hx g e fun u0 σ' M' ν' w' a' hk g' lt' e' d'=>hK .normal u0 σ' a' w' hk (.of_later lt d g' lt' e' d'))
 |draw ds =>
  intro c KA Q env σ a w hc hx hA hK
  cases c with
  |region id ops dr=>_
  |_=>simp[cc]at hc
  obtain⟨ops⟩:=ops;cases dr<;>simp only[cc]at hc<;>try cases hc
  obtain⟨ds',hz,hc⟩:=z06 hc;split at hc
  · rename_i n0;simp only[Bool.and_eq_true]at n0;simp at hc;subst hc;obtain⟨M,ν,g,lt,e,d⟩:=hA;exact zbt hm (zcy hz) n0.1 n0.2 hx g e fun u0 σ' M' ν' w' a' hk g' lt' e' d'=>hK .normal u0 σ' a' w' hk (.of_later lt d g' lt' e' d')
  · cases hc
 |seq x y ihx ihy =>
  intro c KA Q env σ a w hc hx hA hK;cases c<;>simp only[cc]at hc<;>try cases hc
  obtain⟨x',q0,hc⟩:=z06 hc;obtain⟨y',m0,hc⟩:=z02 hc;simp at hc;obtain⟨rfl,rfl⟩:=hc;refine wp_seq (ihx _ _ _ env σ a w q0 hx hA fun e u0 σ' a' w' hk y0=>?_)
  cases e with
  |normal=>exact ihy _ KA Q u0 σ' a' w' m0 hk y0 hK
  |exit id=>exact hK (.exit id) u0 σ' a' w' hk y0
  |ret=>exact hK .ret u0 σ' a' w' hk y0
 |cond _ x y ihx ihy =>
  intro c KA Q env σ a w hc hx hA hK
  cases c with
  |cond cnd p q=>_
  |_=>simp[cc]at hc
  simp only[cc]at hc;obtain⟨x',q0,hc⟩:=z06 hc;obtain⟨y',m0,hc⟩:=z02 hc;simp at hc;obtain⟨rfl,rfl,rfl⟩:=hc
  have hp:∀t,boolA (aev env cnd)=some t→a.eval cnd=.bool t:=by
   intro t ht;obtain⟨M,ν,g,lt,e,d⟩:=hA;exact z81 ht (e.parts cnd)
  simp only[ax]at hx;split at hx
  · rename_i hb;exact wp_cond_true (hp _ hb) (ihx _ KA Q env σ a w q0 hx hA hK)
  · rename_i hb;exact wp_cond_false (hp _ hb) (ihy _ KA Q env σ a w m0 hx hA hK)
  · exact hx.elim
 |block id x ihx =>
  intro c KA Q env σ a w hc hx hA hK;cases c<;>simp only[cc]at hc<;>try cases hc
  obtain⟨x',q0,hc⟩:=z02 hc;simp at hc;obtain⟨rfl,rfl⟩:=hc;refine wp_block (ihx _ _ _ env σ a w q0 hx hA fun e u0 σ' a' w' hk y0=>?_)
  cases e with
  |normal=>exact hK .normal u0 σ' a' w' hk y0
  |exit j =>
   simp only at hk;simp only[zgr,Exit.inBlock];split at hk
   · rename_i hj;rw[if_pos hj];exact hK .normal u0 σ' a' w' hk y0
   · rename_i hj;rw[if_neg hj];exact hK (.exit j) u0 σ' a' w' hk y0
  |ret=>exact hK .ret u0 σ' a' w' hk y0
 |loop clr x ihx =>
  intro c KA Q env σ a w hc hx hA hK
  cases c with
  |loop body=>_
  |_=>simp[cc]at hc
  simp only[cc]at hc;obtain⟨x',q0,hc⟩:=z02 hc;simp at hc;obtain⟨rfl⟩:=hc;refine z8d (hx (fun env σ=>∀a w,At B env σ a w→zaf P body Q a w) ?_ a w (hA.clear clr))
  intro u0 σ' hF a' w' y0;refine z8e (ihx _ _ _ u0 σ' a' w' q0 hF y0 fun e j0 σ2 a2 w2 hk k0=>?_)
  cases e with
  |normal=>exact hk a2 w2 (k0.clear clr)
  |exit id=>exact hK (.exit id) j0 σ2 a2 w2 hk k0
  |ret=>exact hK .ret j0 σ2 a2 w2 hk k0
 |exit id =>
  intro c KA Q env σ a w hc hx hA hK;cases c<;>simp only[cc]at hc<;>try cases hc
  exact wp_exit (hK (.exit _) env σ a w hx hA)
 |ret =>
  intro c KA Q env σ a w hc hx hA hK;cases c<;>simp only[cc]at hc<;>try cases hc
  exact wp_ret (hK .ret env σ a w hx hA)
 |ghost g x ihx =>
  intro c KA Q env σ a w hc hx hA hK;unfold cc at hc;obtain⟨x',q0,hc⟩:=z02 hc;simp at hc;subst hc;obtain⟨u0,σ',hk,y0⟩:=zae hx hA;exact ihx c KA Q u0 σ' a w q0 hk y0 hK
 |after x g ihx =>
  intro c KA Q env σ a w hc hx hA hK;unfold cc at hc;obtain⟨x',q0,hc⟩:=z02 hc;simp at hc;subst hc;refine ihx c _ Q env σ a w q0 hx hA fun e u0 σ' a' w' hk y0=>?_
  cases e with
  |normal =>
   obtain⟨j0,σ2,r0,k0⟩:=zae hk y0;exact hK .normal j0 σ2 a' w' r0 k0
  |exit id=>exact hK (.exit id) u0 σ' a' w' hk y0
  |ret=>exact hK .ret u0 σ' a' w' hk y0
end
end Go.Ab
