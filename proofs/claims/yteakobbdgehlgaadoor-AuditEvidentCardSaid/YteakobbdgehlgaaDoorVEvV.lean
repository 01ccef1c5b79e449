/- What the package variable's reading gives, in a call of this seat's law. No condition. -/
import Derived.Test.YteakobbdgehlgaaDoorRows
import Derived.Test.YteakobbdgehlgaaDoorCards
import Derived.Test.YteakobbdgehlgaaDoorTie
import Derived.Test.YteakobbdgehlgaaDoorVKE12V
import Derived.Test.YteakobbdgehlgaaDoorVKRowFV
import Derived.Test.YteakobbdgehlgaaDoorVKRq5aV
import Derived.Test.YteakobbdgehlgaaDoorAbGloV
import Derived.ProofKit
import Derived.LaidMore
import Derived.Stop.Joined
import Derived.SevenTiedAt
set_option linter.unusedSimpArgs false
set_option linter.unusedVariables false
set_option linter.unusedSectionVars false
set_option maxRecDepth 100000
namespace Go.Proofs.YteakobbdgehlgaaDoor
open Go Go.Ab Go.Cod Go.ChangeShapes Go.WideShapes Go.ChangeAt Go.RowKit
theorem zam:ownKnob Tryd.prog.godebug=none:=by kernel_rfl
theorem zan:laidOutB Tryd.prog=true:=by kernel_rfl
def z5M : List (String × DataW Unit) := [("sordine/sha.keys", Rows.laid_sordine_sha_keys)]
theorem gn0 : Tryd.prog.globalNamed "sordine/sha.keys" = some 0 := by kernel_rfl
theorem gt0:(Tryd.prog.globals[0]?).map (·.type)=some 71:=by kernel_rfl
def gvK:List Int:=Sha.shaK.map fun n:Nat=>(n:Int)
theorem zcU:gvK.map (Value.int .u32)=Sha.kV:=by kernel_rfl
theorem zbL {H:Type}:(Rows.laid_sordine_sha_keys:DataW H)=.agg (gvK.map fun v=>.lit (.int .u32 v)):=by kernel_rfl
theorem z56 {W:World} {x:AV} {v:Value} {R':Ref→Value→Prop} (h:Rep noM noR W x v):Rep noM R' W x v :=
 h.mono (fun b _ hm=>⟨hm,rfl⟩) fun r v h=>by cases r<;>simp[RefOK]at h
theorem z92 (os:Os) (args:Array Value):laidMetH Tryd.prog z5M ((World.doorLaid Tryd.prog 19 os).forCall (fun _ _=>0) ⟨#[],args,[]⟩).memory :=
 laidMetH_of_parts3 (fuel:=8) (laidMet_of_run' 8 (by kernel_rfl) (by kernel_rfl)) (by kernel_rfl) (by kernel_rfl)
def glo0:Ob:=.glo 0 Sha.kV
abbrev G1:St:=[glo0]
theorem g1_0:∀ex,gloA (G1++ex) 0=some Sha.kV:=fun ex=>rfl
theorem zao {W:World} (h:laidMetH Tryd.prog z5M W):∀o∈G1,Glo W o:=by
 intro o ho;rw[MakeChecks.laidMetH_plain _ _ _ (by kernel_rfl)]at h
 obtain⟨ps,⟨g0,t0,cs0,f0,p0,q0,m0,j0,y0,u0,_,_⟩,_,_⟩:=h;obtain rfl:=Option.some.inj (gn0.symm.trans m0);obtain rfl:=Option.some.inj (gt0.symm.trans j0);rw[zbL]at u0;have k0:=z7E gn0 y0 (z55 (vs:=gvK) (P:=Tryd.prog) (t:=71) (e:=51) (n:=64) (k:=.u32) (by kernel_rfl) (by kernel_rfl) (by kernel_rfl) (by kernel_rfl) u0)
 rw[zcU]at k0;simp only[List.mem_cons,List.not_mem_nil,or_false]at ho;rcases ho with rfl
 exact k0
theorem wf64r {n:Int} (h:(Lit.int .i64 n).wf=true): -9223372036854775808≤n∧n<9223372036854775808:=by
 simp[Lit.wf,IntKind.min,IntKind.max,IntKind.bits,IntKind.signed]at h;omega
theorem z77 {H:Type} {enc:TypeId×Value→H} {W:World} {base:Nat} {v:Value} {d:DataW H} {ps:List MemPlace} (hv:Value.okWide Tryd.prog W .any base 3 v) (h:DataW.Trod enc Tryd.prog W 0 (fun _=>true) true 3 v d ps):∃n,inI64 n∧Rep noM noR W (I n) v:=by
 obtain⟨n,rfl⟩:=okWide_int Tryd.underlying3 hv;obtain⟨x,hx,m,hm,e⟩:=Reads.arg (P:=Tryd.prog) (t:=3) (fun f=>Reads.int Tryd.underlying3 f) rfl h
 simp only[List.cons.injEq,and_true]at e;subst e;exact⟨m,wf64r hm,hx⟩
open Sha (z2v kV)
theorem z3s (σ:St) (o p:Int) (a c:Byt) (ho:inI64 o) (hp:inI64 p) (hG:∀ex,gloA (σ++ex) 0=some kV):Ans Tryd.prog 3 [I o,.sl 1 (byv a),I p,.sl 1 (byv c)] σ (Bo true) σ:=by
 have m1:=z05 a;have m2:=z05 c;have kr:=z8X σ hG;refine Ans.of_run t3 ?_;by_cases h1:900<a.length
 · have d1:decide ((900:Int)<(a.length:Int))=true:=decide_eq_true (by omega)
   simp -implicitDefEqProofs only[c3,r3,go_sem,m1,m2,d1];refine CO.intro kr ?_;simp -implicitDefEqProofs only[go_sem];exact Fini.ret rfl
 have d1:decide ((900:Int)<(a.length:Int))=false:=decide_eq_false (by omega)
 by_cases h2:900<c.length
 · have d2:decide ((900:Int)<(c.length:Int))=true:=decide_eq_true (by omega)
   simp -implicitDefEqProofs only[c3,r3,go_sem,m1,m2,d1,d2];refine CO.intro kr ?_;simp -implicitDefEqProofs only[go_sem];exact Fini.ret rfl
 have d2:decide ((900:Int)<(c.length:Int))=false:=decide_eq_false (by omega)
 simp -implicitDefEqProofs only[c3,r3,go_sem,m1,m2,d1,d2];refine CO.intro (z6q σ o p a c ho hp (by omega) (by omega) hG) ?_
 simp -implicitDefEqProofs only[go_sem];refine CO.intro kr ?_;simp -implicitDefEqProofs only[go_sem];exact Fini.ret rfl
end Go.Proofs.YteakobbdgehlgaaDoor
