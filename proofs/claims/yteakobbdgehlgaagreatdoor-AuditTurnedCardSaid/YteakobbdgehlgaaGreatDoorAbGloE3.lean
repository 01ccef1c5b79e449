/- The evaluator a third time, its frame laid as a tree: each look takes few steps. It answers what the first one answers. No condition. -/
import Derived.Test.YteakobbdgehlgaaGreatDoorAbArgE3
import Derived.LaidMore
set_option linter.unusedSimpArgs false
set_option linter.unusedVariables false
set_option linter.unusedSectionVars false
namespace Go.Ab
open Go
inductive ET where
 |lf (v:AV)
 |nd (l r:ET)
/- A value brought to its form: each way by itself. -/
noncomputable def ET.get (t:ET):Nat→AV :=
 ET.rec (motive:=fun _=>Nat→AV) (fun v _=>v) (fun _ _ gl gr i=>Bool.rec (motive:=fun _=>AV) (gl (i/2)) (gr (i/2)) (Nat.beq (i%2) 1)) t
end Go.Ab
namespace Go.Ab
open Go.ChangeShapes Go.WideShapes Go.RowKit
theorem z7S {H:Type} {enc:TypeId×Value→H} {P:Program} {W:World} {t e:TypeId} {n f:Nat} {k:IntKind} {vs:List Int} {cs:List Value} {p:List MemPlace} {b:Bool} {sp:Nat→Bool}
  (h:P.underlying t=some (.array n e)) (he:P.underlying e=some (.int k)) (hc:P.cellsOf e=1) (ht:P.cellsOf t=n)
  (hx:DataW.trod enc P W 0 sp b f t cs=some (.agg (vs.map fun v=>.lit (.int k v)),p)):cs=vs.map (Value.int k):=by
 obtain⟨xs,m,rfl,hx1,hlen,hn,q0⟩:=DataW.trod_array h hx;simp only[Prod.mk.injEq,DataW.agg.injEq]at hx1
 have hl:vs.length=n:=by
  have:=congrArg List.length hx1.1;simp at this;omega
 have hcl:cs.length=n:=by omega
 apply List.ext_getElem (by simp;omega)
 intro i h1 h2;have j0:i<n:=by omega
 have hi:=q0 i j0;have u0:i<xs.length:=by omega
 rw[List.getElem?_eq_getElem u0]at hi;obtain⟨v,e1,e2,_⟩:=DataW.trod_int he hi;have hv:(xs[i]).1=.lit (.int k v):=by rw[e2]
 have y0:vs[i]'(by omega)=v:=by
  have h3:(vs.map fun v=>(DataW.lit (.int k v):DataW H))[i]?=(xs.map (·.1))[i]?:=by rw[hx1.1]
  rw[List.getElem?_map,List.getElem?_map,List.getElem?_eq_getElem u0,List.getElem?_eq_getElem (by omega:i<vs.length)]at h3
  simp only[Option.map_some,Option.some.injEq,hv,DataW.lit.injEq,Lit.int.injEq]at h3;exact h3.2
 rw[hc,Nat.mul_one]at e1;have h4:((cs.drop i).take 1)[0]?=some (Value.int k v):=by rw[e1];rfl
 rw[List.getElem?_take,if_pos (by omega),List.getElem?_drop,Nat.add_zero,List.getElem?_eq_getElem h1]at h4
 simp only[Option.some.injEq]at h4;rw[h4,List.getElem_map,y0]
def Glo (W:World) (o:Ob):Prop:=∃g vs,o=.glo g vs∧∀j u,vs[j]?=some u→W.cell? ⟨g,j,none⟩=some u
theorem zcb {P:Program} {W:World} {name:String} {g:Nat} {cs:Array Value} {k:IntKind} {vs:List Int} (hg:P.globalNamed name=some g) (hv:W.var? P name=some cs)
  (hc:cs.toList=vs.map (Value.int k)):Glo W (.glo g (vs.map (Value.int k))):=by
 refine⟨g,_,rfl,fun j u hj=>?_⟩
 rw[World.var?_cell hg hv j,←hj,←hc];simp
theorem zg2 {σ:St} {W:World} (h:∀o∈σ,Glo W o):Good (fun _=>False) σ (fun _=>.nilFunc) W:=by
 refine⟨fun l o ho=>?_,fun b hb=>hb.elim,fun l l' b _ _ hb=>by simp[blk]at hb⟩
 obtain⟨g,vs,rfl,hc⟩:=h o (List.mem_of_getElem? ho);exact .glo g vs _ (by simp) (by simp) fun j u hj=>⟨fun x=>x,hc j u hj⟩
theorem Ans.lawG {P : Program} {f : FuncId} {fn : Func} {args : List AV} {r : AV} {σ σ' : St} (hf : P.funcs[f]? = some fn) (hname : (fn.name == "runtime.NumGoroutine") = false) (hbody : fn.body.isNone = false)
  (h:Ans P f args σ r σ') {W:World} (hg:∀o∈σ,Glo W o) {vs:List Value} (hv:Reps (fun _=>False) (RefOK σ fun _=>.nilFunc) W args vs) :
  Calls P f vs.toArray W fun e W'=>∃v,e=.returned v∧Kept W W'∧∃M' R',Rep M' R' W' r v:=by
 rcases h _ _ W vs (zg2 hg) hv with⟨_,h⟩|⟨v,w',h,_⟩
 · refine h.mono fun e W' ⟨v,he,M',ν',g',l',hr⟩=>⟨v,he,⟨l'.size,fun b hb=>l'.keep b hb ?_,l'.out.1,l'.out.2⟩,M',_,hr⟩
   rintro⟨l,_,hb⟩;simp[blk]at hb
 · exfalso
   have h1 : fn.name ≠ "runtime.NumGoroutine" := by simpa using hname
   have h2:fn.body≠none:=by intro e;simp[e]at hbody
   simp[callFunc,hf,h1,h2]at h
end Go.Ab
