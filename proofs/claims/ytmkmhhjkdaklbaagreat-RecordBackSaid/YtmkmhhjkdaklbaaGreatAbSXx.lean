/- More steps for the abstract run: where a condition is not known, both ways are gone. No condition. -/
import Derived.Test.YtmkmhhjkdaklbaaGreatAbStepx
import Derived.Attr
set_option linter.unusedSimpArgs false
set_option linter.unusedVariables false
set_option linter.unusedSectionVars false
namespace Go.Ab
open Go
section
variable {P:Program} {n0:Nat} {k:List Fr} {B:Bs} {env:Env} {σ:St} {S:List St} {ob:List St→Prop}
theorem C.split {b:Bool} {x y:ACode} (h:b=true→C P n0 true x y k B env σ) (h':b=false→C P n0 false x y k B env σ):C P n0 b x y k B env σ:=by
 cases b
 · exact h' rfl
 · exact h rfl
theorem OG.split {b:Bool} {d:Option Tmp} {op:AOp} {l:List AOper} (h:b=true→OG P n0 true d op l k B env σ) (h':b=false→OG P n0 false d op l k B env σ):OG P n0 b d op l k B env σ:=by
 cases b
 · exact h' rfl
 · exact h rfl
theorem DG.split {b:Bool} {d:Option Tmp} {op:AOp} {bef:List Nat} {eff:Bool} {lo hi:Nat} {l:List DOper} (h:b=true→DG P n0 true d op bef eff lo hi l k B env S σ ob) (h':b=false→DG P n0 false d op bef eff lo hi l k B env S σ ob):DG P n0 b d op bef eff lo hi l k B env S σ ob:=by
 cases b
 · exact h' rfl
 · exact h rfl
theorem L.scan (n:Nat) (ok:Nat→Bool) (E:Nat→Env) (Z:Nat→St) {clr:List Tmp} {x:ACode}
  (h:∀i,i<n→(∀j,j<i→ok j=true)→∀J:Env→St→Prop,(ok i=true→J (E (i+1)) (Z (i+1)))→R P n0 x (.loop J clr::k) B (E i) (Z i))
  (h':(∀j,j<n→ok j=true)→∀J:Env→St→Prop,R P n0 x (.loop J clr::k) B (E n) (Z n)) (he:env=E 0) (hs:σ=Z 0):L P n0 clr x k B env σ:=by
 refine L.intro (α:={ i:Nat // i≤n∧∀j,j<i→ok j=true }) (fun i=>n-i.1) (fun i=>E i.1) (fun i=>Z i.1) (fun⟨i,hi,hp⟩ J hJ=>?_) ⟨0,Nat.zero_le _,by intro j hj;omega⟩ he hs
 by_cases hlt:i<n
 · exact h i hlt hp J fun hok=>hJ ⟨i+1,hlt,fun j hj=>by
   by_cases hji:j=i
   · rw[hji];exact hok
   · exact hp j (by omega)⟩ (by simp only;omega)
 · have:i=n:=by omega
   subst this;exact h' hp J
theorem Fini.ret' {m:Nat} {rvs:List RV} {r r':AV} (h:resA env σ rvs=some r') (e:r'=r):Fini m rvs r σ .ret env σ:=Fini.ret (e▸h)
theorem z0Y {a b:Bool} (h:a=b):AV.pl (.bool a)=AV.pl (.bool b):=by rw[h]
end
attribute [go_sem_proc] List.reduceReplicate Nat.reduceAdd Nat.reduceSub Nat.reduceLT Nat.reduceLeDiff Nat.reduceMul Nat.reduceEqDiff reduceCtorEq Int.reduceLE Int.reduceLT Int.reduceEq Int.reduceNe Int.reduceBEq Int.reduceBNe Int.reduceAdd Int.reduceSub
attribute [go_sem] List.foldl_cons List.foldl_nil R_seq zgn R_ret zgo R_ops zgp zfh zfi zfj zgq zgr N_seq zfk zfl zgs N_nil X_seq zfm zgt zfn T_seq zfo zfp zgu T_nil zgv zfq O_nil zgw zfr zfs zft zdF zgx D_nil D_eff zgy D_flo zfu zfv zfw zdG zgz zdH zdI aop aev tmpA wantA cval AV.okc AV.one AV.cells loadA ldc boolA intA z41 srcA z54 fillA z0p binF unF isB chunks z0e eqCells z2L Value.oneCell' G gh sealV sealL weakA zbJ List.cons_append List.nil_append List.append_nil List.length_cons List.length_nil List.set_cons_zero List.set_cons_succ List.getD_cons_zero List.getD_cons_succ List.drop_succ_cons List.drop_zero List.take_succ_cons List.take_zero List.head?_cons List.headD_cons Option.map_some Option.getD_some Option.getD_none Option.map_none Option.some.injEq if_true if_false Bool.false_eq_true List.all_cons List.all_nil Bool.and_self Bool.and_true Bool.true_and true_and and_true List.map_cons List.map_nil List.getElem?_cons_zero List.getElem?_cons_succ List.getElem?_nil Nat.zero_add Nat.add_zero ite_true ite_false Bool.not_true Bool.not_false Bool.not_eq_true' decide_true decide_false List.forall_mem_cons List.not_mem_nil false_imp_iff implies_true forall_const List.isEmpty_cons List.isEmpty_nil Nat.le_refl Int.toNat_natCast Int.natCast_nonneg beq_self_eq_true beq_true beq_false Bool.true_xor Bool.false_xor
end Go.Ab
