/- Words of 32 binary digits, as the program reckons with them. No condition. -/
import Derived.Test.YteakobbdgehlgaaGreatDoorAbStepE3
import Derived.Attr
set_option linter.unusedSimpArgs false
set_option linter.unusedVariables false
set_option linter.unusedSectionVars false
set_option maxRecDepth 100000
namespace Go.Ab
open Go
abbrev V32 (b:BitVec 32):AV:=.pl (.int .u32 (b.toNat:Int))
theorem wrap32 (n:Nat):IntKind.u32.wrap (n:Int)=((n%4294967296:Nat):Int):=by
 simp only[IntKind.wrap,IntKind.bits,IntKind.signed];simp
theorem z8f {n:Nat} (h:n<4294967296):IntKind.u32.wrap (n:Int)=(n:Int):=by rw[wrap32,Nat.mod_eq_of_lt h]
theorem wrapV (b:BitVec 32):IntKind.u32.wrap (b.toNat:Int)=(b.toNat:Int):=z8f b.isLt
theorem ofInt32 (b:BitVec 32):BitVec.ofInt 32 (b.toNat:Int)=b:=by simp
theorem V_add (a b:BitVec 32):IntKind.u32.wrap ((a.toNat:Int)+(b.toNat:Int))=((a+b).toNat:Int):=by
 have e:(a.toNat:Int)+(b.toNat:Int)=((a.toNat+b.toNat:Nat):Int):=by omega
 rw[e,wrap32,BitVec.toNat_add]
abbrev xor32 (x y:Int):Int:=IntKind.u32.wrap (((@HXor.hXor (BitVec 32) (BitVec 32) (BitVec 32) (@instHXorOfXorOp (BitVec IntKind.u32.bits) (@BitVec.instXorOp IntKind.u32.bits)) (BitVec.ofInt 32 x) (BitVec.ofInt 32 y)).toNat:Nat):Int)
abbrev or32 (x y:Int):Int:=IntKind.u32.wrap (((@HOr.hOr (BitVec 32) (BitVec 32) (BitVec 32) (@instHOrOfOrOp (BitVec IntKind.u32.bits) (@BitVec.instOrOp IntKind.u32.bits)) (BitVec.ofInt 32 x) (BitVec.ofInt 32 y)).toNat:Nat):Int)
abbrev and32 (x y:Int):Int:=IntKind.u32.wrap (((@HAnd.hAnd (BitVec 32) (BitVec 32) (BitVec 32) (@instHAndOfAndOp (BitVec IntKind.u32.bits) (@BitVec.instAndOp IntKind.u32.bits)) (BitVec.ofInt 32 x) (BitVec.ofInt 32 y)).toNat:Nat):Int)
abbrev and64 (x y:Int):Int:=IntKind.u64.wrap (((@HAnd.hAnd (BitVec 64) (BitVec 64) (BitVec 64) (@instHAndOfAndOp (BitVec IntKind.u64.bits) (@BitVec.instAndOp IntKind.u64.bits)) (BitVec.ofInt 64 x) (BitVec.ofInt 64 y)).toNat:Nat):Int)
theorem V_xor (a b:BitVec 32):xor32 (a.toNat:Int) (b.toNat:Int)=((a ^^^ b).toNat:Int):=by
 show IntKind.u32.wrap (((BitVec.ofInt 32 (a.toNat:Int) ^^^ BitVec.ofInt 32 (b.toNat:Int)).toNat:Nat):Int)=_;rw[ofInt32,ofInt32,wrapV]
theorem V_and (a b:BitVec 32):and32 (a.toNat:Int) (b.toNat:Int)=((a &&& b).toNat:Int):=by
 show IntKind.u32.wrap (((BitVec.ofInt 32 (a.toNat:Int) &&& BitVec.ofInt 32 (b.toNat:Int)).toNat:Nat):Int)=_;rw[ofInt32,ofInt32,wrapV]
theorem V_or (a b:BitVec 32):or32 (a.toNat:Int) (b.toNat:Int)=((a ||| b).toNat:Int):=by
 show IntKind.u32.wrap (((BitVec.ofInt 32 (a.toNat:Int) ||| BitVec.ofInt 32 (b.toNat:Int)).toNat:Nat):Int)=_;rw[ofInt32,ofInt32,wrapV]
theorem V_not (a:BitVec 32):xor32 4294967295 (a.toNat:Int)=((~~~ a).toNat:Int):=by
 show IntKind.u32.wrap (((BitVec.ofInt 32 4294967295 ^^^ BitVec.ofInt 32 (a.toNat:Int)).toNat:Nat):Int)=_;have e:BitVec.ofInt 32 4294967295=BitVec.allOnes 32:=by decide
 rw[ofInt32,e,BitVec.allOnes_xor,wrapV]
theorem V_shr (a:BitVec 32) (k:Nat) (h:k≤32):(a.toNat:Int).fdiv (2^(min k 32))=((a >>> k).toNat:Int):=by
 rw[Nat.min_eq_left h,BitVec.toNat_ushiftRight,Nat.shiftRight_eq_div_pow,Int.fdiv_eq_ediv_of_nonneg _ (Int.pow_nonneg (by omega))]
 simp
theorem V_shl (a:BitVec 32) (k:Nat) (h:k≤32):IntKind.u32.wrap ((a.toNat:Int)*2^(min k 32))=((a <<< k).toNat:Int):=by
 have e:(a.toNat:Int)*2^k=((a.toNat*2^k:Nat):Int):=by simp
 rw[Nat.min_eq_left h,e,wrap32,BitVec.toNat_shiftLeft,Nat.shiftLeft_eq]
def b32 (c:UInt8):BitVec 32:=BitVec.ofNat 32 c.toNat
theorem zhf (c:UInt8):(b32 c).toNat=c.toNat:=by
 have:=c.toNat_lt;unfold b32;rw[BitVec.toNat_ofNat];omega
theorem zeQ (c:UInt8):IntKind.u32.wrap ((c.toNat:Nat):Int)=((b32 c).toNat:Int):=by
 have:=c.toNat_lt;rw[zhf,z8f (by omega)]
def lo8 (a:BitVec 32):UInt8:=a.toNat.toUInt8
theorem zeR (a:BitVec 32):IntKind.u8.wrap (a.toNat:Int)=(((lo8 a).toNat:Nat):Int):=by
 unfold lo8;simp only[IntKind.wrap,IntKind.bits,IntKind.signed];simp[Nat.toUInt8]
section
variable {P:Program} {n0:Nat} {k:List Fr} {B:Bs} {env:Env} {σ:St} {S:List St} {ob:List St→Prop}
theorem C.split {b:Bool} {x y:ACode} (h:b=true→C P n0 true x y k B env σ) (h':b=false→C P n0 false x y k B env σ):C P n0 b x y k B env σ:=by
 cases b
 · exact h' rfl
 · exact h rfl
theorem OG.split {b:Bool} {d:Option Tmp} {op:AOp} {l:List AOper} (h:b=true→OG P n0 true d op l k B env σ) (h':b=false→OG P n0 false d op l k B env σ):OG P n0 b d op l k B env σ:=by
 cases b
 · exact h' rfl
 · exact h rfl
theorem DG.split {b:Bool} {d:Option Tmp} {op:AOp} {bef:List Nat} {eff:Bool} {lo hi:Nat} {l:List DOper} (h:b=true→DG P n0 true d op bef eff lo hi l k B env S σ ob) (h':b=false→DG P n0 false d op bef eff lo hi l k B env S σ ob):DG P n0 b d op bef eff lo hi l k B env S σ ob:=by
 cases b
 · exact h' rfl
 · exact h rfl
theorem L.scan (n:Nat) (ok:Nat→Bool) (E:Nat→Env) (Z:Nat→St) {clr:List Tmp} {x:ACode}
  (h:∀i,i<n→(∀j,j<i→ok j=true)→∀J:Env→St→Prop,(ok i=true→J (E (i+1)) (Z (i+1)))→R P n0 x (.loop J clr::k) B (E i) (Z i))
  (h':(∀j,j<n→ok j=true)→∀J:Env→St→Prop,R P n0 x (.loop J clr::k) B (E n) (Z n)) (he:env=E 0) (hs:σ=Z 0):L P n0 clr x k B env σ:=by
 refine L.intro (α:={ i:Nat // i≤n∧∀j,j<i→ok j=true }) (fun i=>n-i.1) (fun i=>E i.1) (fun i=>Z i.1) (fun⟨i,hi,hp⟩ J hJ=>?_) ⟨0,Nat.zero_le _,by intro j hj;omega⟩ he hs
 by_cases hlt:i<n
 · exact h i hlt hp J fun u0=>hJ ⟨i+1,hlt,fun j hj=>by
   by_cases hji:j=i
   · rw[hji];exact u0
   · exact hp j (by omega)⟩ (by simp only;omega)
 · have:i=n:=by omega
   subst this;exact h' hp J
theorem Fini.ret' {m:Nat} {rvs:List RV} {r r':AV} (h:resA env σ rvs=some r') (e:r'=r):Fini m rvs r σ .ret env σ:=Fini.ret (e▸h)
theorem z16 {a b:Bool} (h:a=b):AV.pl (.bool a)=AV.pl (.bool b):=by rw[h]
end
attribute [go_sem_proc] List.reduceReplicate Nat.reduceAdd Nat.reduceSub Nat.reduceLT Nat.reduceLeDiff Nat.reduceMul Nat.reduceEqDiff reduceCtorEq Int.reduceLE Int.reduceLT Int.reduceEq Int.reduceNe Int.reduceBEq Int.reduceBNe Int.reduceAdd Int.reduceSub
attribute [go_sem] List.foldl_cons List.foldl_nil R_seq ziq R_ret zir R_ops zis zgZ zh0 zh1 zit ziu N_seq zh2 zh3 ziv N_nil X_seq zh4 ziw zh5 T_seq zh6 zh7 zix T_nil ziy zh8 O_nil ziz zh9 zha zhb zeM ziA D_nil D_eff ziB D_flo zhc zhd zhe zeN ziC zeO zeP aop aev tmpA wantA cval AV.okc AV.one AV.cells loadA ldc boolA intA z4i srcA z5v fillA z0s binF unF isB chunks z0b eqCells z2G Value.oneCell' G gh sealV sealL weakA zcx List.cons_append List.nil_append List.append_nil List.length_cons List.length_nil List.set_cons_zero List.set_cons_succ List.getD_cons_zero List.getD_cons_succ List.drop_succ_cons List.drop_zero List.take_succ_cons List.take_zero List.head?_cons List.headD_cons Option.map_some Option.getD_some Option.getD_none Option.map_none Option.some.injEq if_true if_false Bool.false_eq_true List.all_cons List.all_nil Bool.and_self Bool.and_true Bool.true_and true_and and_true List.map_cons List.map_nil List.getElem?_cons_zero List.getElem?_cons_succ List.getElem?_nil Nat.zero_add Nat.add_zero ite_true ite_false Bool.not_true Bool.not_false Bool.not_eq_true' decide_true decide_false List.forall_mem_cons List.not_mem_nil false_imp_iff implies_true forall_const List.isEmpty_cons List.isEmpty_nil Nat.le_refl Int.toNat_natCast Int.natCast_nonneg beq_self_eq_true beq_true beq_false Bool.true_xor Bool.false_xor
end Go.Ab
