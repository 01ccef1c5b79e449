/- What the document says of the drawn names. Printed by a program. No condition. -/
import Derived.Test.YtmkmhhjkdaklbaaGreatXMCode1x
import Derived.Test.YtmkmhhjkdaklbaaGreatAbSXx
import Derived.Test.YtmkmhhjkdaklbaaGreatAbArgx
import Derived.Test.YtmkmhhjkdaklbaaGreatProg
import Derived.Test.YtmkmhhjkdaklbaaGreatAbStepx
set_option linter.unusedSimpArgs false
set_option linter.unusedVariables false
set_option linter.unusedSectionVars false
namespace Go.Proofs.YtmkmhhjkdaklbaaGreat
open Go Go.Ab
set_option maxRecDepth 100000
theorem Lstep {P:Program} {n0:Nat} {clr:List Tmp} {x:ACode} {k:List Fr} {B:Bs} {env:Env} {σ:St}
  (h:∀J:Env→St→Prop,(∀env σ,L P n0 clr x k B env σ→J env σ)→R P n0 x (.loop J clr::k) B env σ):L P n0 clr x k B env σ:=by
 unfold L;intro I hI;refine hI _ _ (h I fun env' σ' hl=>?_)
 unfold L at hl;exact hl I hI
theorem rn0_ok:Ans Tryz.prog 121 [.pl (.string ⟨#[115,101,118]⟩)] [] (.pl (.bool true)) []:=by
 have hs:(⟨#[115,101,118]⟩:ByteArray).size=3:=rfl;have d0:decide ((0:Int)<((3:Nat):Int))=true:=rfl;have l0:((0:Int)<((3:Nat):Int))=True:=eq_true (by decide)
 have b0:((((([115,101,118]:List UInt8).getD (Int.toNat 0) 0).toNat:Nat)):Int)=115:=rfl;have w0:IntKind.i64.wrap (1:Int)=1:=rfl;have d1:decide ((1:Int)<((3:Nat):Int))=true:=rfl;have l1:((1:Int)<((3:Nat):Int))=True:=eq_true (by decide)
 have b1:((((([115,101,118]:List UInt8).getD (Int.toNat 1) 0).toNat:Nat)):Int)=101:=rfl;have w1:IntKind.i64.wrap (2:Int)=2:=rfl;have d2:decide ((2:Int)<((3:Nat):Int))=true:=rfl;have l2:((2:Int)<((3:Nat):Int))=True:=eq_true (by decide)
 have b2:((((([115,101,118]:List UInt8).getD (Int.toNat 2) 0).toNat:Nat)):Int)=118:=rfl;have w2:IntKind.i64.wrap (3:Int)=3:=rfl;have d3:decide ((3:Int)<((3:Nat):Int))=false:=rfl;have e1:decide ((1:Int)≤((3:Nat):Int))=true:=rfl;have e2:decide (((3:Nat):Int)≤12)=true:=rfl;refine Ans.of_run t121 ?_;simp -implicitDefEqProofs only[c121,r121,go_sem];refine Lstep fun J0 hJ0=>?_
 simp -implicitDefEqProofs only[go_sem,Int.reduceLE,Int.reduceLT,decide_true,decide_false,hs,d0,l0,b0,w0,d1,l1,b1,w1,d2,l2,b2,w2,d3,e1,e2];refine hJ0 _ _ ?_;refine Lstep fun J1 hJ1=>?_
 simp -implicitDefEqProofs only[go_sem,Int.reduceLE,Int.reduceLT,decide_true,decide_false,hs,d0,l0,b0,w0,d1,l1,b1,w1,d2,l2,b2,w2,d3,e1,e2];refine hJ1 _ _ ?_;refine Lstep fun J2 hJ2=>?_
 simp -implicitDefEqProofs only[go_sem,Int.reduceLE,Int.reduceLT,decide_true,decide_false,hs,d0,l0,b0,w0,d1,l1,b1,w1,d2,l2,b2,w2,d3,e1,e2];refine hJ2 _ _ ?_;refine Lstep fun J3 hJ3=>?_
 simp -implicitDefEqProofs only[go_sem,Int.reduceLE,Int.reduceLT,decide_true,decide_false,hs,d0,l0,b0,w0,d1,l1,b1,w1,d2,l2,b2,w2,d3,e1,e2];exact Fini.ret rfl
theorem rn1_ok:Ans Tryz.prog 121 [.pl (.string ⟨#[106,111,98]⟩)] [] (.pl (.bool true)) []:=by
 have hs:(⟨#[106,111,98]⟩:ByteArray).size=3:=rfl;have d0:decide ((0:Int)<((3:Nat):Int))=true:=rfl;have l0:((0:Int)<((3:Nat):Int))=True:=eq_true (by decide)
 have b0:((((([106,111,98]:List UInt8).getD (Int.toNat 0) 0).toNat:Nat)):Int)=106:=rfl;have w0:IntKind.i64.wrap (1:Int)=1:=rfl;have d1:decide ((1:Int)<((3:Nat):Int))=true:=rfl;have l1:((1:Int)<((3:Nat):Int))=True:=eq_true (by decide)
 have b1:((((([106,111,98]:List UInt8).getD (Int.toNat 1) 0).toNat:Nat)):Int)=111:=rfl;have w1:IntKind.i64.wrap (2:Int)=2:=rfl;have d2:decide ((2:Int)<((3:Nat):Int))=true:=rfl;have l2:((2:Int)<((3:Nat):Int))=True:=eq_true (by decide)
 have b2:((((([106,111,98]:List UInt8).getD (Int.toNat 2) 0).toNat:Nat)):Int)=98:=rfl;have w2:IntKind.i64.wrap (3:Int)=3:=rfl;have d3:decide ((3:Int)<((3:Nat):Int))=false:=rfl;have e1:decide ((1:Int)≤((3:Nat):Int))=true:=rfl;have e2:decide (((3:Nat):Int)≤12)=true:=rfl;refine Ans.of_run t121 ?_;simp -implicitDefEqProofs only[c121,r121,go_sem];refine Lstep fun J0 hJ0=>?_
 simp -implicitDefEqProofs only[go_sem,Int.reduceLE,Int.reduceLT,decide_true,decide_false,hs,d0,l0,b0,w0,d1,l1,b1,w1,d2,l2,b2,w2,d3,e1,e2];refine hJ0 _ _ ?_;refine Lstep fun J1 hJ1=>?_
 simp -implicitDefEqProofs only[go_sem,Int.reduceLE,Int.reduceLT,decide_true,decide_false,hs,d0,l0,b0,w0,d1,l1,b1,w1,d2,l2,b2,w2,d3,e1,e2];refine hJ1 _ _ ?_;refine Lstep fun J2 hJ2=>?_
 simp -implicitDefEqProofs only[go_sem,Int.reduceLE,Int.reduceLT,decide_true,decide_false,hs,d0,l0,b0,w0,d1,l1,b1,w1,d2,l2,b2,w2,d3,e1,e2];refine hJ2 _ _ ?_;refine Lstep fun J3 hJ3=>?_
 simp -implicitDefEqProofs only[go_sem,Int.reduceLE,Int.reduceLT,decide_true,decide_false,hs,d0,l0,b0,w0,d1,l1,b1,w1,d2,l2,b2,w2,d3,e1,e2];exact Fini.ret rfl
theorem rn2_ok:Ans Tryz.prog 121 [.pl (.string ⟨#[104,111,115,116]⟩)] [] (.pl (.bool true)) []:=by
 have hs:(⟨#[104,111,115,116]⟩:ByteArray).size=4:=rfl;have d0:decide ((0:Int)<((4:Nat):Int))=true:=rfl;have l0:((0:Int)<((4:Nat):Int))=True:=eq_true (by decide)
 have b0:((((([104,111,115,116]:List UInt8).getD (Int.toNat 0) 0).toNat:Nat)):Int)=104:=rfl;have w0:IntKind.i64.wrap (1:Int)=1:=rfl;have d1:decide ((1:Int)<((4:Nat):Int))=true:=rfl;have l1:((1:Int)<((4:Nat):Int))=True:=eq_true (by decide)
 have b1:((((([104,111,115,116]:List UInt8).getD (Int.toNat 1) 0).toNat:Nat)):Int)=111:=rfl;have w1:IntKind.i64.wrap (2:Int)=2:=rfl;have d2:decide ((2:Int)<((4:Nat):Int))=true:=rfl;have l2:((2:Int)<((4:Nat):Int))=True:=eq_true (by decide)
 have b2:((((([104,111,115,116]:List UInt8).getD (Int.toNat 2) 0).toNat:Nat)):Int)=115:=rfl;have w2:IntKind.i64.wrap (3:Int)=3:=rfl;have d3:decide ((3:Int)<((4:Nat):Int))=true:=rfl;have l3:((3:Int)<((4:Nat):Int))=True:=eq_true (by decide)
 have b3:((((([104,111,115,116]:List UInt8).getD (Int.toNat 3) 0).toNat:Nat)):Int)=116:=rfl;have w3:IntKind.i64.wrap (4:Int)=4:=rfl;have d4:decide ((4:Int)<((4:Nat):Int))=false:=rfl;have e1:decide ((1:Int)≤((4:Nat):Int))=true:=rfl;have e2:decide (((4:Nat):Int)≤12)=true:=rfl;refine Ans.of_run t121 ?_;simp -implicitDefEqProofs only[c121,r121,go_sem];refine Lstep fun J0 hJ0=>?_
 simp -implicitDefEqProofs only[go_sem,Int.reduceLE,Int.reduceLT,decide_true,decide_false,hs,d0,l0,b0,w0,d1,l1,b1,w1,d2,l2,b2,w2,d3,l3,b3,w3,d4,e1,e2];refine hJ0 _ _ ?_;refine Lstep fun J1 hJ1=>?_
 simp -implicitDefEqProofs only[go_sem,Int.reduceLE,Int.reduceLT,decide_true,decide_false,hs,d0,l0,b0,w0,d1,l1,b1,w1,d2,l2,b2,w2,d3,l3,b3,w3,d4,e1,e2];refine hJ1 _ _ ?_;refine Lstep fun J2 hJ2=>?_
 simp -implicitDefEqProofs only[go_sem,Int.reduceLE,Int.reduceLT,decide_true,decide_false,hs,d0,l0,b0,w0,d1,l1,b1,w1,d2,l2,b2,w2,d3,l3,b3,w3,d4,e1,e2];refine hJ2 _ _ ?_;refine Lstep fun J3 hJ3=>?_
 simp -implicitDefEqProofs only[go_sem,Int.reduceLE,Int.reduceLT,decide_true,decide_false,hs,d0,l0,b0,w0,d1,l1,b1,w1,d2,l2,b2,w2,d3,l3,b3,w3,d4,e1,e2];refine hJ3 _ _ ?_;refine Lstep fun J4 hJ4=>?_
 simp -implicitDefEqProofs only[go_sem,Int.reduceLE,Int.reduceLT,decide_true,decide_false,hs,d0,l0,b0,w0,d1,l1,b1,w1,d2,l2,b2,w2,d3,l3,b3,w3,d4,e1,e2];exact Fini.ret rfl
theorem rn3_ok:Ans Tryz.prog 121 [.pl (.string ⟨#[95,120]⟩)] [] (.pl (.bool true)) []:=by
 have hs:(⟨#[95,120]⟩:ByteArray).size=2:=rfl;have d0:decide ((0:Int)<((2:Nat):Int))=true:=rfl;have l0:((0:Int)<((2:Nat):Int))=True:=eq_true (by decide)
 have b0:((((([95,120]:List UInt8).getD (Int.toNat 0) 0).toNat:Nat)):Int)=95:=rfl;have w0:IntKind.i64.wrap (1:Int)=1:=rfl;have d1:decide ((1:Int)<((2:Nat):Int))=true:=rfl;have l1:((1:Int)<((2:Nat):Int))=True:=eq_true (by decide)
 have b1:((((([95,120]:List UInt8).getD (Int.toNat 1) 0).toNat:Nat)):Int)=120:=rfl;have w1:IntKind.i64.wrap (2:Int)=2:=rfl;have d2:decide ((2:Int)<((2:Nat):Int))=false:=rfl;have e1:decide ((1:Int)≤((2:Nat):Int))=true:=rfl;have e2:decide (((2:Nat):Int)≤12)=true:=rfl;refine Ans.of_run t121 ?_;simp -implicitDefEqProofs only[c121,r121,go_sem];refine Lstep fun J0 hJ0=>?_
 simp -implicitDefEqProofs only[go_sem,Int.reduceLE,Int.reduceLT,decide_true,decide_false,hs,d0,l0,b0,w0,d1,l1,b1,w1,d2,e1,e2];refine hJ0 _ _ ?_;refine Lstep fun J1 hJ1=>?_
 simp -implicitDefEqProofs only[go_sem,Int.reduceLE,Int.reduceLT,decide_true,decide_false,hs,d0,l0,b0,w0,d1,l1,b1,w1,d2,e1,e2];refine hJ1 _ _ ?_;refine Lstep fun J2 hJ2=>?_
 simp -implicitDefEqProofs only[go_sem,Int.reduceLE,Int.reduceLT,decide_true,decide_false,hs,d0,l0,b0,w0,d1,l1,b1,w1,d2,e1,e2];exact Fini.ret rfl
theorem rn4_ok:Ans Tryz.prog 121 [.pl (.string ⟨#[90,111,110,101,57]⟩)] [] (.pl (.bool true)) []:=by
 have hs:(⟨#[90,111,110,101,57]⟩:ByteArray).size=5:=rfl;have d0:decide ((0:Int)<((5:Nat):Int))=true:=rfl;have l0:((0:Int)<((5:Nat):Int))=True:=eq_true (by decide)
 have b0:((((([90,111,110,101,57]:List UInt8).getD (Int.toNat 0) 0).toNat:Nat)):Int)=90:=rfl;have w0:IntKind.i64.wrap (1:Int)=1:=rfl;have d1:decide ((1:Int)<((5:Nat):Int))=true:=rfl;have l1:((1:Int)<((5:Nat):Int))=True:=eq_true (by decide)
 have b1:((((([90,111,110,101,57]:List UInt8).getD (Int.toNat 1) 0).toNat:Nat)):Int)=111:=rfl;have w1:IntKind.i64.wrap (2:Int)=2:=rfl;have d2:decide ((2:Int)<((5:Nat):Int))=true:=rfl;have l2:((2:Int)<((5:Nat):Int))=True:=eq_true (by decide)
 have b2:((((([90,111,110,101,57]:List UInt8).getD (Int.toNat 2) 0).toNat:Nat)):Int)=110:=rfl;have w2:IntKind.i64.wrap (3:Int)=3:=rfl;have d3:decide ((3:Int)<((5:Nat):Int))=true:=rfl;have l3:((3:Int)<((5:Nat):Int))=True:=eq_true (by decide)
 have b3:((((([90,111,110,101,57]:List UInt8).getD (Int.toNat 3) 0).toNat:Nat)):Int)=101:=rfl;have w3:IntKind.i64.wrap (4:Int)=4:=rfl;have d4:decide ((4:Int)<((5:Nat):Int))=true:=rfl;have l4:((4:Int)<((5:Nat):Int))=True:=eq_true (by decide)
 have b4:((((([90,111,110,101,57]:List UInt8).getD (Int.toNat 4) 0).toNat:Nat)):Int)=57:=rfl;have w4:IntKind.i64.wrap (5:Int)=5:=rfl;have d5:decide ((5:Int)<((5:Nat):Int))=false:=rfl;have e1:decide ((1:Int)≤((5:Nat):Int))=true:=rfl;have e2:decide (((5:Nat):Int)≤12)=true:=rfl;refine Ans.of_run t121 ?_;simp -implicitDefEqProofs only[c121,r121,go_sem];refine Lstep fun J0 hJ0=>?_
 simp -implicitDefEqProofs only[go_sem,Int.reduceLE,Int.reduceLT,decide_true,decide_false,hs,d0,l0,b0,w0,d1,l1,b1,w1,d2,l2,b2,w2,d3,l3,b3,w3,d4,l4,b4,w4,d5,e1,e2];refine hJ0 _ _ ?_;refine Lstep fun J1 hJ1=>?_
 simp -implicitDefEqProofs only[go_sem,Int.reduceLE,Int.reduceLT,decide_true,decide_false,hs,d0,l0,b0,w0,d1,l1,b1,w1,d2,l2,b2,w2,d3,l3,b3,w3,d4,l4,b4,w4,d5,e1,e2];refine hJ1 _ _ ?_;refine Lstep fun J2 hJ2=>?_
 simp -implicitDefEqProofs only[go_sem,Int.reduceLE,Int.reduceLT,decide_true,decide_false,hs,d0,l0,b0,w0,d1,l1,b1,w1,d2,l2,b2,w2,d3,l3,b3,w3,d4,l4,b4,w4,d5,e1,e2];refine hJ2 _ _ ?_;refine Lstep fun J3 hJ3=>?_
 simp -implicitDefEqProofs only[go_sem,Int.reduceLE,Int.reduceLT,decide_true,decide_false,hs,d0,l0,b0,w0,d1,l1,b1,w1,d2,l2,b2,w2,d3,l3,b3,w3,d4,l4,b4,w4,d5,e1,e2];refine hJ3 _ _ ?_;refine Lstep fun J4 hJ4=>?_
 simp -implicitDefEqProofs only[go_sem,Int.reduceLE,Int.reduceLT,decide_true,decide_false,hs,d0,l0,b0,w0,d1,l1,b1,w1,d2,l2,b2,w2,d3,l3,b3,w3,d4,l4,b4,w4,d5,e1,e2];refine hJ4 _ _ ?_;refine Lstep fun J5 hJ5=>?_
 simp -implicitDefEqProofs only[go_sem,Int.reduceLE,Int.reduceLT,decide_true,decide_false,hs,d0,l0,b0,w0,d1,l1,b1,w1,d2,l2,b2,w2,d3,l3,b3,w3,d4,l4,b4,w4,d5,e1,e2];exact Fini.ret rfl
abbrev I (n:Int):AV:=.pl (.int .i64 n)
abbrev Bo (b:Bool):AV:=.pl (.bool b)
abbrev Sx (s:ByteArray):AV:=.pl (.string s)
theorem wrapN {n:Int} (h: -9223372036854775808≤n) (h':n<9223372036854775808):IntKind.i64.wrap n=n:=by
 simp only[IntKind.wrap,IntKind.bits,IntKind.signed];simp;omega
theorem z5e {args:List AV} (h:belL 0 args=true):∀a∈args,Bel 0 a:=fun a ha=>by
 obtain⟨i,hi,rfl⟩:=List.getElem_of_mem ha;exact Bel.of_mem (z3l 0 args h) i hi
theorem Fini.ret2 {n m:Nat} {rvs:List RV} {r r':AV} {σ σ':St} {env:Env} (h:resA env σ rvs=some r') (e:r'=r) (e':σ=σ'):Fini m rvs r σ' .ret env σ:=by
 subst e;subst e';exact Fini.ret h
theorem Fini.trim2 {m:Nat} {rvs:List RV} {r:AV} {σ σ' ex:St} {env:Env} (h:resA env σ rvs=some r) (he:σ=σ'++ex) (hl:m≤σ'.length) (hb:Bel σ'.length r) (ho:∀o∈σ',BelO σ'.length o):Fini m rvs r σ' .ret env σ:=by
 subst he;exact⟨r,σ'++ex,h,rfl,rfl,.inr ⟨hl,by simp,hb,ho⟩⟩
def names:List ByteArray:=[⟨#[115,101,118]⟩,⟨#[106,111,98]⟩,⟨#[104,111,115,116]⟩,⟨#[95,120]⟩,⟨#[90,111,110,101,57]⟩]
def values:List ByteArray:=[⟨#[97]⟩,⟨#[98]⟩,⟨#[99,114,105,116]⟩,⟨#[119,97,114,110]⟩,⟨#[97,98]⟩,⟨#[0,255]⟩,⟨#[97,98,97,98,97,98,97,98,97,98,97,98,97,98,97,98,97,98,97,98,97,98,97,98]⟩]
def pats:List ByteArray:=[⟨#[97,124,98]⟩,⟨#[]⟩,⟨#[40,99,114,105,116,124,119,97,114,110,41]⟩,⟨#[91,97,45,99,93,43,46,42]⟩,⟨#[46,43]⟩,⟨#[40,97,98,41,42]⟩,⟨#[97,63,98,63]⟩,⟨#[91,94,97,93,42]⟩,⟨#[97,42,97,42,97,42,97,42,97,42,97,42,97,42,97,42,97,42,97,42,97,42,97,42,97,42,97,42]⟩]
def emodW (n lo hi:Int):Int:=lo+n%(hi-lo+1)
def inD (n lo hi:Int):Int:=if lo≤n∧n≤hi then n else emodW n lo hi
theorem zdJ (n lo hi:Int) (h:lo≤hi):lo≤emodW n lo hi∧emodW n lo hi≤hi:=by
 unfold emodW;have h1:=Int.emod_nonneg n (show hi-lo+1≠0 by omega)
 have h2:=Int.emod_lt_of_pos n (show 0<hi-lo+1 by omega)
 omega
theorem z4B (n lo hi:Int) (h:lo≤hi):lo≤inD n lo hi∧inD n lo hi≤hi:=by
 unfold inD;split
 · assumption
 · exact zdJ n lo hi h
def nameOf (n:Int):ByteArray:=names.getD (inD n 0 4).toNat ⟨#[]⟩
def valueOf (n:Int):ByteArray:=values.getD (inD n 0 6).toNat ⟨#[]⟩
def patOf (n:Int):ByteArray:=pats.getD (inD n 0 8).toNat ⟨#[]⟩
theorem getD_mem {l:List ByteArray} {k:Nat} (h:k<l.length) (d:ByteArray):l.getD k d∈l:=by
 rw[List.getD_eq_getElem?_getD,List.getElem?_eq_getElem h];exact List.getElem_mem h
theorem z6m (n:Int):nameOf n∈names:=by
 have h:=z4B n 0 4 (by omega)
 unfold nameOf;have:(inD n 0 4).toNat<5:=by omega
 exact getD_mem this _
theorem z5f (n:Int):valueOf n∈values:=by
 have h:=z4B n 0 6 (by omega)
 unfold valueOf;have:(inD n 0 6).toNat<7:=by omega
 exact getD_mem this _
theorem zbM (n:Int):patOf n∈pats:=by
 have h:=z4B n 0 8 (by omega)
 unfold patOf;have:(inD n 0 8).toNat<9:=by omega
 exact getD_mem this _
section
variable (σ:St)
theorem z2O (n lo hi:Int) (h0:0≤lo) (h1:lo≤hi) (h2:hi≤100):Ans Tryz.prog 100 [I n,I lo,I hi] σ (I (emodW n lo hi)) σ:=by
 have e1:IntKind.i64.wrap (hi-lo)=hi-lo:=wrapN (by omega) (by omega)
 have e2:IntKind.i64.wrap (hi-lo+1)=hi-lo+1:=wrapN (by omega) (by omega)
 have e3:((hi-lo+1)=0)=False:=by simp;omega
 have h3:=Int.emod_nonneg n (show hi-lo+1≠0 by omega)
 have h4:=Int.emod_lt_of_pos n (show 0<hi-lo+1 by omega)
 have h5:=Int.tmod_eq_emod (a:=n) (b:=hi-lo+1);unfold emodW;generalize hm:n%(hi-lo+1)=m at h3 h4 h5
 have h6:n.tmod (hi-lo+1)=m∨n.tmod (hi-lo+1)=m-(hi-lo+1):=by
  rw[h5];split
  · left;omega
  · right;omega
 refine Ans.of_run t100 ?_;simp -implicitDefEqProofs only[c100,r100,go_sem,e1,e2,e3];generalize n.tmod (hi-lo+1)=r at h6;rcases h6 with rfl|rfl
 · have d1:decide (r<0)=false:=by simp;omega
   have e4:IntKind.i64.wrap (lo+r)=lo+r:=wrapN (by omega) (by omega)
   simp -implicitDefEqProofs only[go_sem,d1,e4];exact Fini.ret rfl
 · have d1:decide (m-(hi-lo+1)<0)=true:=by simp;omega
   have e4:IntKind.i64.wrap (m-(hi-lo+1)+hi)=m-(hi-lo+1)+hi:=wrapN (by omega) (by omega)
   have e5:IntKind.i64.wrap (m-(hi-lo+1)+hi-lo)=m-(hi-lo+1)+hi-lo:=wrapN (by omega) (by omega)
   have e6:IntKind.i64.wrap (m-(hi-lo+1)+hi-lo+1)=m:=by rw[wrapN (by omega) (by omega)];omega
   have e7:IntKind.i64.wrap (lo+m)=lo+m:=wrapN (by omega) (by omega)
   simp -implicitDefEqProofs only[go_sem,d1,e4,e5,e6,e7];exact Fini.ret rfl
theorem z0f (n lo hi:Int) (h0:0≤lo) (h1:lo≤hi) (h2:hi≤100):Ans Tryz.prog 99 [I n,I lo,I hi] σ (I (inD n lo hi)) σ:=by
 have hw:=z2O σ n lo hi h0 h1 h2;unfold inD;refine Ans.of_run t99 ?_;simp -implicitDefEqProofs only[c99,r99,go_sem];by_cases d1:lo≤n
 · by_cases d2:n≤hi
   · have d1':decide (lo≤n)=true:=by simpa using d1
     have d2':decide (n≤hi)=true:=by simpa using d2
     simp -implicitDefEqProofs only[go_sem,d1',d2'];rw[if_pos ⟨d1,d2⟩];exact Fini.ret rfl
   · have d1':decide (lo≤n)=true:=by simpa using d1
     have d2':decide (n≤hi)=false:=by simpa using d2
     simp -implicitDefEqProofs only[go_sem,d1',d2'];refine CO.intro hw ?_;simp -implicitDefEqProofs only[go_sem];rw[if_neg (fun h=>d2 h.2)]
     exact Fini.ret rfl
 · have d1':decide (lo≤n)=false:=by simpa using d1
   simp -implicitDefEqProofs only[go_sem,d1'];refine CO.intro hw ?_;simp -implicitDefEqProofs only[go_sem];rw[if_neg (fun h=>d1 h.1)]
   exact Fini.ret rfl
theorem z4P (n:Int):Ans Tryz.prog 81 [I n] σ (Sx (nameOf n)) σ:=by
 have h:=z4B n 0 4 (by omega)
 have hi:=z0f σ n 0 4 (by omega) (by omega) (by omega)
 unfold nameOf;generalize inD n 0 4=r at h hi⊢;refine Ans.of_run t81 ?_;simp -implicitDefEqProofs only[c81,r81,go_sem];refine CO.intro hi ?_;have h5:r=0∨r=1∨r=2∨r=3∨r=4:=by omega
 rcases h5 with rfl|rfl|rfl|rfl|rfl
 all_goals (
  simp -implicitDefEqProofs only[go_sem]
  exact Fini.ret rfl)
theorem z7M (n:Int):Ans Tryz.prog 133 [I n] σ (Sx (valueOf n)) σ:=by
 have h:=z4B n 0 6 (by omega)
 have hi:=z0f σ n 0 6 (by omega) (by omega) (by omega)
 unfold valueOf;generalize inD n 0 6=r at h hi⊢;refine Ans.of_run t133 ?_;simp -implicitDefEqProofs only[c133,r133,go_sem];refine CO.intro hi ?_;have h5:r=0∨r=1∨r=2∨r=3∨r=4∨r=5∨r=6:=by omega
 rcases h5 with rfl|rfl|rfl|rfl|rfl|rfl|rfl
 all_goals (
  simp -implicitDefEqProofs only[go_sem]
  exact Fini.ret rfl)
theorem z8Q (n:Int):Ans Tryz.prog 152 [I n] σ (Sx (patOf n)) σ:=by
 have h:=z4B n 0 8 (by omega)
 have hi:=z0f σ n 0 8 (by omega) (by omega) (by omega)
 unfold patOf;generalize inD n 0 8=r at h hi⊢;refine Ans.of_run t152 ?_;simp -implicitDefEqProofs only[c152,r152,go_sem];refine CO.intro hi ?_;have h5:r=0∨r=1∨r=2∨r=3∨r=4∨r=5∨r=6∨r=7∨r=8:=by omega
 rcases h5 with rfl|rfl|rfl|rfl|rfl|rfl|rfl|rfl|rfl
 all_goals (
  simp -implicitDefEqProofs only[go_sem]
  exact Fini.ret rfl)
abbrev mat (k:Int) (n v:ByteArray):AV:=.agg [I k,Sx n,Sx v]
def z2P (k v:Int):ByteArray:=if inD k 1 4<3 then(if v<0 then⟨#[]⟩ else valueOf v) else patOf v
theorem z8R (m:Nat) (k:Int) (n v:ByteArray):Bel m (mat k n v):=by
 refine .agg _ fun i hi=>?_
 have:∀y∈[I k,Sx n,Sx v],Bel m y:=by
  intro y hy;simp only[List.mem_cons,List.not_mem_nil,or_false]at hy;rcases hy with rfl|rfl|rfl<;>exact .pl _
 exact this _ (List.getElem_mem hi)
theorem z5g (k n v:Int):Ans Tryz.prog 123 [.agg [I k,I n,I v]] σ (mat (inD k 1 4) (nameOf n) (z2P k v)) σ:=by
 have k0:∀(x y:Ob),(σ++[x,y])[σ.length]?=some x:=fun x y=>by rw[List.getElem?_append_right (by simp)];simp
 have k0':∀(x:Ob),(σ++[x])[σ.length]?=some x:=fun x=>by rw[List.getElem?_append_right (by simp)];simp
 have k1:∀(x y:Ob),(σ++[x,y])[σ.length+1]?=some y:=fun x y=>by rw[List.getElem?_append_right (by simp)];simp
 have s0:∀(x y z:Ob),(σ++[x,y]).set σ.length z=σ++[z,y]:=fun x y z=>by rw[List.set_append_right _ _ (by simp)];simp
 have s1:∀(x y z:Ob),(σ++[x,y]).set (σ.length+1) z=σ++[x,z]:=fun x y z=>by rw[List.set_append_right _ _ (by simp)];simp
 have hb:=z8R σ.length (inD k 1 4) (nameOf n) (z2P k v);refine Ans.of_run' t123 (fun hbel _=>?_)
 simp -implicitDefEqProofs only[c123,r123,go_sem,z00,List.append_assoc,List.length_append];refine CS.intro (fun s=>z0f s k 1 4 (by omega) (by omega) (by omega)) ?_
 simp -implicitDefEqProofs only[go_sem,z00,List.append_assoc,List.length_append];refine CS.intro (fun s=>z4P s n) ?_
 simp -implicitDefEqProofs only[go_sem,z00,List.append_assoc,List.length_append];refine CS.intro (fun s=>z8Q s v) ?_
 simp -implicitDefEqProofs only[go_sem,z00,List.append_assoc,List.length_append,k0,k1,s0,s1];unfold z2P at hb⊢;by_cases h3:inD k 1 4<3
 · have h3':decide (inD k 1 4<3)=true:=by simpa using h3
   rw[if_pos h3]at hb⊢;simp -implicitDefEqProofs only[go_sem,h3'];refine CO.intro (z7M _ v) ?_;by_cases h0:v<0
   · have h0':decide (v<0)=true:=by simpa using h0
     rw[if_pos h0]at hb⊢;simp -implicitDefEqProofs only[go_sem,h0',k0,k1,s0,s1];exact Fini.trim2 (σ':=σ) (ex:=[_,_]) (by simp -implicitDefEqProofs only[go_sem,resA,z02,rvA,oneOf,k0]) rfl (Nat.le_refl _) hb hbel
   · have h0':decide (v<0)=false:=by simpa using h0
     rw[if_neg h0]at hb⊢;simp -implicitDefEqProofs only[go_sem,h0',k0,k1,s0,s1];exact Fini.trim2 (σ':=σ) (ex:=[_,_]) (by simp -implicitDefEqProofs only[go_sem,resA,z02,rvA,oneOf,k0]) rfl (Nat.le_refl _) hb hbel
 · have h3':decide (inD k 1 4<3)=false:=by simpa using h3
   rw[if_neg h3]at hb⊢;simp -implicitDefEqProofs only[go_sem,h3',k0,k1,s0,s1];exact Fini.trim2 (σ':=σ) (ex:=[_,_]) (by simp -implicitDefEqProofs only[go_sem,resA,z02,rvA,oneOf,k0]) rfl (Nat.le_refl _) hb hbel
end
abbrev Lab:=ByteArray×ByteArray
abbrev lv (x:Lab):AV:=.agg [Sx x.1,Sx x.2]
def lvs (L:List Lab):List AV:=L.map lv
theorem z0i (L:List Lab):(lvs L).length=L.length:=List.length_map ..
theorem z4q (L:List Lab) (i:Nat) (h:i<L.length):(lvs L)[i]?=some (lv L[i]):=by simp[lvs,h]
def getL:List Lab→ByteArray→ByteArray
 |[],_=>⟨#[]⟩
 |x::xs,nm=>if x.1.toList==nm.toList then x.2 else getL xs nm
section
variable (σ:St)
theorem z0c {i n:Nat} (h:i<n):((i:Int)<(n:Nat))=True:=by simp;omega
theorem z2Y {i n:Nat} (h:¬i<n):((i:Int)<(n:Nat))=False:=by simp;omega
theorem dec_lt {i n:Nat} (h:i<n):decide ((i:Int)<(n:Nat))=true:=by simp;omega
theorem z2Z {i n:Nat} (h:¬i<n):decide ((i:Int)<(n:Nat))=false:=by simp;omega
theorem wrap_succ {i:Nat} (h:i≤100000):IntKind.i64.wrap ((i:Int)+1)=((i+1:Nat):Int):=by rw[wrapN (by omega) (by omega)];rfl
theorem z7N (l:Nat) (L:List Lab) (nm:ByteArray) (h:σ[l]?=some (.row 2 (lvs L))) (hl:L.length≤1000):Ans Tryz.prog 134 [.osl l L.length,Sx nm] σ (Sx (getL L nm)) σ:=by
 refine Ans.of_run t134 ?_;simp -implicitDefEqProofs only[c134,r134,go_sem];generalize hres:getL L nm=res
 refine Go.Ab.L.intro (α:={ i:Nat // i≤L.length∧getL (L.drop i) nm=res }) (fun x=>L.length-x.1)
  (fun x=>mkE 24 [(0,.osl l L.length),(1,Sx nm),(5,I x.1)]) (fun _=>σ) (fun x J hJ=>?_) ⟨0,Nat.zero_le _,hres⟩ rfl rfl
 obtain⟨i,hi,hg⟩:=x;simp only at hJ⊢;by_cases hlt:i<L.length
 · rw[List.drop_eq_getElem_cons hlt,getL]at hg;have hx:=z4q L i hlt;cases he:L[i].1.toList==nm.toList
   · rw[he,if_neg Bool.false_ne_true]at hg;have hJ':=hJ ⟨i+1,hlt,hg⟩ (by simp only;omega)
     simp only at hJ';simp -implicitDefEqProofs only[mkE,go_sem,z0c hlt,dec_lt hlt,h,hx,z0i,he,wrap_succ (show i≤100000 by omega)]
     exact hJ'
   · rw[he,if_pos rfl]at hg;simp -implicitDefEqProofs only[mkE,go_sem,z0c hlt,dec_lt hlt,h,hx,z0i,he];rw[hg];exact Fini.ret rfl
 · have:i=L.length:=by omega
   subst this;rw[List.drop_length,getL]at hg;simp -implicitDefEqProofs only[mkE,go_sem,z2Y hlt,z2Z hlt,h,z0i];rw[←hg];exact Fini.ret rfl
def z2e (L:List Lab):Prop:=∀x∈L,x.1∈names∧x.2∈values
def leS (a b:ByteArray):Bool:=Op.bytesLess a.toList b.toList||a.toList==b.toList
def badAt (L:List Lab) (i:Nat):Bool:=decide (0<i)&&leS (L.getD i (⟨#[]⟩,⟨#[]⟩)).1 (L.getD (i-1) (⟨#[]⟩,⟨#[]⟩)).1
def isGo (L:List Lab):Nat→Nat→Bool
 |0,_=>true
 |k+1,i=>if badAt L i then false else isGo L k (i+1)
def z3i (L:List Lab):Bool:=if decide (L.length<1)||decide (6<L.length) then false else isGo L L.length 0
theorem z7O (n:ByteArray) (h:n∈names):Ans Tryz.prog 121 [Sx n] σ (Bo true) σ:=by
 simp only[names,List.mem_cons,List.not_mem_nil,or_false]at h;rcases h with rfl|rfl|rfl|rfl|rfl
 · exact rn0_ok.frame (z5e rfl) σ
 · exact rn1_ok.frame (z5e rfl) σ
 · exact rn2_ok.frame (z5e rfl) σ
 · exact rn3_ok.frame (z5e rfl) σ
 · exact rn4_ok.frame (z5e rfl) σ
theorem z5h (v:ByteArray) (h:v∈values):1≤v.size∧v.size≤24:=by
 simp only[values,List.mem_cons,List.not_mem_nil,or_false]at h;rcases h with rfl|rfl|rfl|rfl|rfl|rfl|rfl<;>exact⟨by decide,by decide⟩
theorem z6n (v:ByteArray) (h:v∈values):Ans Tryz.prog 156 [Sx v] σ (Bo true) σ:=by
 obtain⟨h1,h2⟩:=z5h v h;have d1:decide ((1:Int)≤(v.size:Nat))=true:=by simp;omega
 have d2:decide (((v.size:Nat):Int)≤24)=true:=by simp;omega
 refine Ans.of_run t156 ?_;simp -implicitDefEqProofs only[c156,r156,go_sem,d1,d2];exact Fini.ret rfl
theorem zbN (L:List Lab) (hd:z2e L) (hl:L.length≤1000):Ans Tryz.prog 130 [.sl 2 (lvs L)] σ (Bo (z3i L)) σ:=by
 refine Ans.of_run t130 ?_;unfold z3i;have e1:decide ((((lvs L).length:Nat):Int)<1)=decide (L.length<1):=by rw[z0i,Bool.eq_iff_iff];simp only[decide_eq_true_eq];omega
 have e2:decide ((6:Int)<(((lvs L).length:Nat):Int))=decide (6<L.length):=by rw[z0i,Bool.eq_iff_iff];simp only[decide_eq_true_eq];omega
 simp -implicitDefEqProofs only[c130,r130,go_sem,e1];cases h1:decide (L.length<1)
 case true =>
  simp -implicitDefEqProofs only[go_sem,Bool.true_or];exact Fini.ret rfl
 simp -implicitDefEqProofs only[go_sem,e2,Bool.false_or];cases h2:decide (6<L.length)
 case true =>
  simp -implicitDefEqProofs only[go_sem];exact Fini.ret rfl
 simp -implicitDefEqProofs only[go_sem];generalize hres:isGo L L.length 0=res
 refine Go.Ab.L.intro (α:={ x:Nat×Nat // x.2+x.1=L.length∧isGo L x.1 x.2=res }) (fun x=>x.1.1)
  (fun x=>mkE 52 [(0,.sl 2 (lvs L)),(3,I x.1.2)]) (fun _=>σ) (fun x J hJ=>?_) ⟨(L.length,0),by simp,hres⟩ rfl rfl
 obtain⟨⟨k,i⟩,hi,hg⟩:=x;simp only at hi hg hJ⊢
 cases k with
 |zero =>
  have hlt:¬i<L.length:=by omega
  rw[isGo]at hg;simp -implicitDefEqProofs only[mkE,go_sem,z0i,z2Y hlt,z2Z hlt];rw[←hg];exact Fini.ret rfl
 |succ k =>
  have hlt:i<L.length:=by omega
  have hx:=z4q L i hlt;obtain⟨d1,d2⟩:=hd L[i] (List.getElem_mem hlt);have hgd:L.getD i (⟨#[]⟩,⟨#[]⟩)=L[i]:=by rw[List.getD_eq_getElem?_getD,List.getElem?_eq_getElem hlt];rfl
  rw[isGo]at hg;simp -implicitDefEqProofs only[mkE,go_sem,z0i,z0c hlt,dec_lt hlt,hx,z00]
  first
  |refine CD.intro (z7O _ _ d1) ?_
  |refine CS.intro (fun s=>z7O s _ d1) ?_
  simp -implicitDefEqProofs only[go_sem,z0i,z0c hlt,dec_lt hlt,hx,z00]
  first
  |refine CD.intro (z6n _ _ d2) ?_
  |refine CS.intro (fun s=>z6n s _ d2) ?_
  have e0:decide ((0:Int)<(i:Nat))=decide (0<i):=by rw[Bool.eq_iff_iff];simp
  unfold badAt at hg;rw[hgd]at hg;simp -implicitDefEqProofs only[go_sem,e0];cases h0:decide (0<i)
  · rw[h0,Bool.false_and,if_neg Bool.false_ne_true]at hg;have hJ':=hJ ⟨(k,i+1),by simp only;omega,hg⟩ (Nat.lt_succ_self k)
    simp only at hJ';simp -implicitDefEqProofs only[go_sem,wrap_succ (show i≤100000 by omega)]
    exact hJ'
  · have hi0:0<i:=by simpa using h0
    have hlt2:i-1<L.length:=by omega
    have hx2:=z4q L (i-1) hlt2;have hgd2:L.getD (i-1) (⟨#[]⟩,⟨#[]⟩)=L[i-1]:=by rw[List.getD_eq_getElem?_getD,List.getElem?_eq_getElem hlt2];rfl
    have e3:IntKind.i64.wrap ((i:Int)-1)=((i-1:Nat):Int):=by rw[wrapN (by omega) (by omega)];omega
    rw[h0,Bool.true_and,hgd2]at hg;cases hb:leS L[i].1 L[i-1].1
    · rw[hb,if_neg Bool.false_ne_true]at hg;have hb':(Op.bytesLess L[i].1.toList L[i-1].1.toList||L[i].1.toList==L[i-1].1.toList)=false:=hb;have hJ':=hJ ⟨(k,i+1),by simp only;omega,hg⟩ (Nat.lt_succ_self k)
      simp only at hJ';simp -implicitDefEqProofs only[go_sem,e3,hx,hx2,z0i,z0c hlt2,z0c hlt,hb',wrap_succ (show i≤100000 by omega)]
      exact hJ'
    · rw[hb,if_pos rfl]at hg;have hb':(Op.bytesLess L[i].1.toList L[i-1].1.toList||L[i].1.toList==L[i-1].1.toList)=true:=hb;simp -implicitDefEqProofs only[go_sem,e3,hx,hx2,z0i,z0c hlt2,z0c hlt,hb'];rw[←hg];exact Fini.ret rfl
end
abbrev noL:Lab:=(⟨#[]⟩,⟨#[]⟩)
def pos (out:List Lab) (x:Lab):Nat→Nat
 |0=>0
 |n+1=>if Op.bytesLess x.1.toList (out.getD n noL).1.toList then pos out x n else n+1
def insL (out:List Lab) (x:Lab):List Lab:=out.take (pos out x out.length)++[x]++out.drop (pos out x out.length)
def setL (L:List Lab):List Lab:=L.foldl insL []
theorem zbO (out:List Lab) (x:Lab):∀n,pos out x n≤n
 |0=>Nat.le_refl _
 |n+1=>by
  rw[pos];split
  · exact Nat.le_succ_of_le (zbO out x n)
  · exact Nat.le_refl _
theorem zdK (out:List Lab) (x:Lab):(insL out x).length=out.length+1:=by
 have:=zbO out x out.length;simp only[insL,List.length_append,List.length_take,List.length_drop,List.length_cons,List.length_nil];omega
theorem zbP (L:List Lab) (x:Lab):setL (L++[x])=insL (setL L) x:=by simp[setL]
theorem zbQ (L:List Lab):∀acc:List Lab,(L.foldl insL acc).length=acc.length+L.length:=by
 induction L with
 |nil=>intro acc;rfl
 |cons x L ih=>intro acc;rw[List.foldl_cons,ih,zdK];simp;omega
theorem z6W (L:List Lab):(setL L).length=L.length:=by rw[setL,zbQ];simp
theorem z6X {out:List Lab} {x y:Lab} (h:y∈insL out x):y=x∨y∈out:=by
 simp only[insL,List.mem_append,List.mem_cons,List.not_mem_nil,or_false]at h;rcases h with(h|h)|h
 · exact .inr (List.mem_of_mem_take h)
 · exact .inl h
 · exact .inr (List.mem_of_mem_drop h)
theorem zbR (L:List Lab):∀(acc:List Lab),∀y∈L.foldl insL acc,y∈acc∨y∈L:=by
 induction L with
 |nil=>intro acc y hy;exact .inl hy
 |cons x L ih =>
  intro acc y hy;rcases ih _ y hy with h|h
  · rcases z6X h with rfl|h
    · exact .inr List.mem_cons_self
    · exact .inl h
  · exact .inr (List.mem_cons_of_mem _ h)
theorem z9G (L:List Lab):∀y∈setL L,y∈L:=fun y hy=>by
 rcases zbR L [] y hy with h|h
 · cases h
 · exact h
theorem z9H (L:List Lab) (k:Nat):(lvs L).take k=lvs (L.take k):=by simp[lvs]
theorem z9I (L:List Lab) (k:Nat):(lvs L).drop k=lvs (L.drop k):=by simp[lvs]
theorem zbS (L:List Lab) (f:AV→Bool) (h:∀x:Lab,f (lv x)=true):(lvs L).all f=true:=by
 simp only[lvs,List.all_map,List.all_eq_true];exact fun x _=>h x
theorem z6Y:lvs []=[]:=rfl
theorem z7P (L:List Lab):(lvs L).isEmpty=L.isEmpty:=by simp[lvs]
theorem z9J (n:Nat) (x:Lab):Bel n (lv x):=by
 refine .agg _ fun i hi=>?_
 have:∀y∈[Sx x.1,Sx x.2],Bel n y:=by
  intro y hy;simp only[List.mem_cons,List.not_mem_nil,or_false]at hy;rcases hy with rfl|rfl<;>exact .pl _
 exact this _ (List.getElem_mem hi)
theorem z4r (n:Nat) (L:List Lab):Bel n (.sl 2 (lvs L)):=by
 refine .sl 2 _ fun i hi=>?_
 have:∀y∈lvs L,Bel n y:=by
  intro y hy;simp only[lvs,List.mem_map]at hy;obtain⟨x,_,rfl⟩:=hy;exact z9J n x
 exact this _ (List.getElem_mem hi)
theorem B_pl (n:Nat) (v:Value):Bel n (.pl v)=True:=eq_true (.pl v)
theorem B_any (n:Nat):Bel n .any=True:=eq_true .any
theorem z2o (n:Nat):Bel n .nils=True:=eq_true .nils
theorem B_tup (n:Nat):Bel n (.tup [])=True:=eq_true (.tup _ fun i hi=>absurd hi (Nat.not_lt_zero _))
theorem B_lv (n:Nat) (x:Lab):Bel n (lv x)=True:=eq_true (z9J n x)
theorem B_lvs (n:Nat) (L:List Lab):Bel n (.sl 2 (lvs L))=True:=eq_true (z4r n L)
theorem B_sl1 (n:Nat) (x:Lab):Bel n (.sl 2 [lv x])=True:=eq_true (z4r n [x])
theorem z8S (A B:List Lab) (x:Lab):lvs (A++[x]++B)=lvs A++lv x::lvs B:=by simp[lvs]
theorem B_mid (n:Nat) (A B:List Lab) (a b:ByteArray):Bel n (.sl 2 (lvs A++.agg [Sx a,Sx b]::lvs B))=True:=eq_true (by have:=z4r n (A++[(a,b)]++B);rwa [z8S]at this)
theorem zeQ (n:Nat) (B:List Lab) (a b:ByteArray):Bel n (.sl 2 (.agg [Sx a,Sx b]::lvs B))=True:=eq_true (z4r n ((a,b)::B))
theorem B_rp2 (n:Nat) (a b:ByteArray):Bel n (.rp [Sx a,Sx b])=True:=eq_true (.rp _ fun i hi=>by
 have:∀y∈[Sx a,Sx b],Bel n y:=by
  intro y hy;simp only[List.mem_cons,List.not_mem_nil,or_false]at hy;rcases hy with rfl|rfl<;>exact .pl _
 exact this _ (List.getElem_mem hi))
theorem B_sl0 (n k:Nat):Bel n (.sl k [])=True:=eq_true (.sl k [] fun i hi=>absurd hi (Nat.not_lt_zero _))
theorem B_osl (n l k:Nat):Bel n (.osl l k)=(l<n):=by
 apply propext;constructor
 · intro h;cases h;assumption
 · intro h;exact .osl l k h
theorem B_ptr (n l k:Nat):Bel n (.ptr l k)=(l<n):=by
 apply propext;constructor
 · intro h;cases h;assumption
 · intro h;exact .ptr l k h
theorem z7Q (n:Nat) (a b:ByteArray):Bel n (.agg [Sx a,Sx b])=True:=eq_true (z9J n (a,b))
section
variable (σ:St)
theorem g0 (x:Ob) (ex:St):(σ++x::ex)[σ.length]?=some x:=by rw[List.getElem?_append_right (by simp)];simp
theorem s0 (x y:Ob) (ex:St):(σ++x::ex).set σ.length y=σ++y::ex:=by rw[List.set_append_right _ _ (by simp)];simp
theorem tr_ {rvs:List RV} {r:AV} {σ σ' ex:St} {env:Env} (he:σ=σ'++ex) (hb:Bel σ'.length r) (ho:∀o∈σ',BelO σ'.length o) (h:resA env σ rvs=some r:=by simp -implicitDefEqProofs only[go_sem,resA,z02,rvA,oneOf,g0]<;>rfl):Fini σ'.length rvs r σ' .ret env σ:=Fini.trim2 h he (Nat.le_refl _) hb ho
def setV (L:List Lab):AV:=if z3i (setL L) then .sl 2 (lvs (setL L)) else .nils
theorem z8T (L:List Lab) (hd:z2e L) (hl:L.length≤100):Ans Tryz.prog 135 [.sl 2 (lvs L)] σ (.tup [setV L,Bo (z3i (setL L))]) σ:=by
 refine Ans.of_run' t135 (fun hbel _=>?_)
 have hbel':(∀o∈σ,BelO σ.length o)=True:=eq_true hbel;simp -implicitDefEqProofs only[c135,r135,go_sem,B_pl,B_any,z2o,B_tup,B_lv,B_lvs,B_sl1,B_osl,B_ptr,z7Q,B_sl0,List.take_left,hbel',g0,s0,List.length_append,Nat.le_add_right];refine Go.Ab.L.count L.length (fun i=>mkE 51 [(0,.sl 2 (lvs L)),(4,.sl 2 (lvs (setL (L.take i)))),(5,I i)]) (fun _=>σ) ?_ ?_ rfl rfl
 · intro i hi Q hQ;have hx:=z4q L i hi;have hol:(setL (L.take i)).length=i:=by rw[z6W];simp;omega
   rw[List.take_succ_eq_append_getElem hi,zbP]at hQ;generalize setL (L.take i)=out at hol hQ⊢;simp -implicitDefEqProofs only[mkE,go_sem,z0i,z0c hi,dec_lt hi];unfold insL at hQ;generalize hp:pos out L[i] out.length=p at hQ
   refine Go.Ab.L.intro (α:={ n:Nat // n≤out.length∧pos out L[i] n=p }) (fun x=>x.1) (fun x=>mkE 51 [(0,.sl 2 (lvs L)),(4,.sl 2 (lvs out)),(5,I i),(6,I x.1)]) (fun _=>σ)
    (fun x J hJ=>?_) ⟨out.length,Nat.le_refl _,hp⟩ rfl rfl
   obtain⟨n,hn,hpn⟩:=x;simp only at hJ⊢
   cases n with
   |zero =>
    rw[pos]at hpn;subst hpn;have d00:decide ((0:Int)<((0:Nat):Int))=false:=by decide
    have h1:(1≤2^32)=True:=by simp
    have hp32:(1+out.length≤2^32)=True:=by simp;omega
    have q1:(1+out.length=out.length+1)=True:=by simp;omega
    rw[z8S]at hQ;simp -implicitDefEqProofs only[mkE,go_sem,q1,d00,z0i,z0c hi,hx,Int.natCast_zero,Int.le_refl,Int.toNat_zero,List.take_length,List.drop_zero,List.drop_nil,z6Y,z9H,z9I,zbS,z7P,z0i,g0,s0,B_pl,B_any,z2o,B_tup,B_lv,B_lvs,B_sl1,B_osl,B_ptr,z7Q,B_sl0,hp32,h1,zeQ,B_mid,B_rp2,List.take_left,hbel',List.length_append,List.append_assoc,Nat.le_add_right,wrap_succ (show i≤100000 by omega)]
    exact hQ
   |succ n =>
    have hx2:=z4q out n hn;have hgd:out.getD n noL=out[n]:=by rw[List.getD_eq_getElem?_getD,List.getElem?_eq_getElem hn];rfl
    have d0:decide ((0:Int)<((n+1:Nat):Int))=true:=by simp
    have e1:IntKind.i64.wrap (((n+1:Nat):Int)-1)=(n:Int):=by rw[wrapN (by omega) (by omega)];omega
    rw[pos,hgd]at hpn;cases hb:Op.bytesLess L[i].1.toList out[n].1.toList
    · rw[hb,if_neg Bool.false_ne_true]at hpn;subst hpn;have p1:(((n+1:Nat):Int)≤(out.length:Nat))=True:=by simp;omega
      have p2:(out.take (n+1)).isEmpty=false:=by
       cases h:out.take (n+1) with
       |nil =>
        have:(out.take (n+1)).length=0:=by rw[h];rfl
        rw[List.length_take]at this;omega
       |cons _ _=>rfl
      have p3:(out.take (n+1)).length=n+1:=by simp;omega
      have p4:(out.drop (n+1)).length=out.length-(n+1):=by simp
      have p5:(n+1≤2^32)=True:=by simp;omega
      have p6:(n+1+1≤2^32)=True:=by simp;omega
      have p7:(n+1+1+(out.length-(n+1))≤2^32)=True:=by simp;omega
      have q2:(n+1+1+(out.length-(n+1))=n+1+(out.length-(n+1)+1))=True:=by simp;omega
      rw[z8S]at hQ;simp -implicitDefEqProofs only[mkE,go_sem,q2,d0,e1,z0i,z0c hi,z0c hn,hx,hx2,hb,Int.natCast_zero,Int.le_refl,Int.toNat_zero,List.take_length,List.drop_zero,List.drop_nil,z6Y,z9H,z9I,zbS,z7P,z0i,g0,s0,B_pl,B_any,z2o,B_tup,B_lv,B_lvs,B_sl1,B_osl,B_ptr,z7Q,B_sl0,zeQ,B_mid,B_rp2,List.take_left,hbel',List.length_append,List.append_assoc,Nat.le_add_right,wrap_succ (show i≤100000 by omega),p1,p2,p3,p4,p5,p6,p7]
      exact hQ
    · rw[hb,if_pos rfl]at hpn;have hJ':=hJ ⟨n,by omega,hpn⟩ (Nat.lt_succ_self n)
      simp only at hJ';simp -implicitDefEqProofs only[mkE,go_sem,d0,e1,z0i,z0c hi,z0c hn,hx,hx2,hb];exact hJ'
 · intro Q;have hlt:¬L.length<L.length:=Nat.lt_irrefl _;have hdr:z2e (setL L):=fun x hx=>hd x (z9G L x hx)
   rw[List.take_length];simp -implicitDefEqProofs only[mkE,go_sem,z0i,z2Y hlt,z2Z hlt];refine CO.intro (zbN σ (setL L) hdr (by rw[z6W];omega)) ?_
   unfold setV;cases hs:z3i (setL L)
   · simp -implicitDefEqProofs only[go_sem];exact Fini.ret rfl
   · simp -implicitDefEqProofs only[go_sem];exact Fini.ret rfl
end
theorem z9K {n m:Nat} {x:AV} (h:Bel n x) (hle:n≤m):Bel m x:=by
 induction h with
 |any=>exact .any
 |pl v=>exact .pl v
 |nils=>exact .nils
 |sl sz xs _ ih=>exact .sl sz xs ih
 |rp cs _ ih=>exact .rp cs ih
 |ptr l off h=>exact .ptr l off (by omega)
 |osl l k h=>exact .osl l k (by omega)
 |ep l k i off h=>exact .ep l k i off (by omega)
 |psl l off k h=>exact .psl l off k (by omega)
 |zsl=>exact .zsl
 |win sz l k lo h=>exact .win sz l k lo (by omega)
 |agg cs _ ih=>exact .agg cs ih
 |tup cs _ ih=>exact .tup cs ih
 |fn f fs cs _ _ ih ih'=>exact .fn f fs cs ih ih'
theorem zbT {n m:Nat} {o:Ob} (h:BelO n o) (hle:n≤m):BelO m o:=by
 cases o with
 |dead=>trivial
 |glo=>trivial
 |box cs=>exact fun c hc=>z9K (h c hc) hle
 |row sz xs=>exact fun c hc=>z9K (h c hc) hle
def labOf (n:Int):Lab:=(nameOf (emodW n 0 4),valueOf (emodW (IntKind.i64.wrap (n.tdiv 5)) 0 6))
def z1r (out:List Lab) (n:Int):List Lab:=if(getL out (labOf n).1).toList==(⟨#[]⟩:ByteArray).toList then out++[labOf n] else out
def labs0 (ns:List Int):List Lab:=(ns.take 5).foldl z1r []
def labs (ns:List Int):List Lab:=if(labs0 ns).length=0 then[(⟨#[115,101,118]⟩,⟨#[97]⟩)] else labs0 ns
theorem z8U (out:List Lab) (n:Int):(z1r out n).length≤out.length+1:=by
 unfold z1r;split<;>simp
theorem z5i (l:List Int):∀acc:List Lab,(l.foldl z1r acc).length≤acc.length+l.length:=by
 induction l with
 |nil=>intro acc;exact Nat.le_refl _
 |cons n l ih =>
  intro acc;have h1:=ih (z1r acc n);have h2:=z8U acc n;rw[List.foldl_cons,List.length_cons];omega
theorem z8V (n:Int):(labOf n).1∈names∧(labOf n).2∈values:=⟨z6m _,z5f _⟩
theorem z3O (l:List Int):∀acc:List Lab,z2e acc→z2e (l.foldl z1r acc):=by
 induction l with
 |nil=>intro acc h;exact h
 |cons n l ih =>
  intro acc h;refine ih _ ?_;unfold z1r;split
  · intro x hx;rcases List.mem_append.1 hx with hx|hx
    · exact h x hx
    · simp only[List.mem_cons,List.not_mem_nil,or_false]at hx;subst hx;exact z8V n
  · exact h
theorem z7R (ns:List Int):(labs0 ns).length≤5:=by
 have:=z5i (ns.take 5) [];simp at this;unfold labs0;omega
theorem zdL (ns:List Int):(labs ns).length≤5:=by
 unfold labs;split
 · decide
 · exact z7R ns
theorem zaJ (ns:List Int):z2e (labs ns):=by
 unfold labs;split
 · intro x hx;simp only[List.mem_cons,List.not_mem_nil,or_false]at hx;subst hx;exact⟨by simp[names],by simp[values]⟩
 · exact z3O _ [] (fun x hx=>by cases hx)
theorem zeR (n:Nat) (ns:List Int):Bel n (.sl 1 (ns.map I))=True:=eq_true (.sl 1 _ fun i hi=>by
 have:∀y∈ns.map I,Bel n y:=by
  intro y hy;simp only[List.mem_map]at hy;obtain⟨x,_,rfl⟩:=hy;exact .pl _
 exact this _ (List.getElem_mem hi))
theorem B_rp1 (n:Nat) (v:Value):Bel n (.rp [.pl v])=True:=eq_true (.rp _ fun i hi=>by
 have:∀y∈[AV.pl v],Bel n y:=by
  intro y hy;simp only[List.mem_cons,List.not_mem_nil,or_false]at hy;subst hy;exact .pl _
 exact this _ (List.getElem_mem hi))
section
variable (σ:St)
theorem g1 (x y:Ob) (ex:St):(σ++x::y::ex)[σ.length+1]?=some y:=by rw[List.getElem?_append_right (by simp)];simp
theorem s1 (x y z:Ob) (ex:St):(σ++x::y::ex).set (σ.length+1) z=σ++x::z::ex:=by rw[List.set_append_right _ _ (by simp)];simp
theorem take_one (x:Ob) (ex:St):(σ++x::ex).take (σ.length+1)=σ++[x]:=by
 have e:σ++x::ex=(σ++[x])++ex:=by simp
 have h:=List.take_left (l₁:=σ++[x]) (l₂:=ex);rw[e];simpa using h
theorem CO.intro' {P:Program} {n0:Nat} {k:List Fr} {B:Bs} {env:Env} {σ σ₀ σ':St} {f:FuncId} {args args₀:List AV} {d:Option Tmp} {l:List AOper} {r:AV} (h:Ans P f args₀ σ₀ r σ') (ha:args=args₀) (hs:σ=σ₀)
  (h':O P n0 l k B (putA env d r) σ'):CO P n0 f args d l k B env σ:=by subst ha;subst hs;exact CO.intro h h'
theorem z42 (n:Nat):((n:Int)==0)=(n==0):=by rw[Bool.eq_iff_iff];simp
theorem zdM (L:List Lab) (a b:ByteArray):lvs L++[.agg [Sx a,Sx b]]=lvs (L++[(a,b)]):=by simp[lvs]
theorem zaK (ns:List Int):Ans Tryz.prog 101 [.sl 1 (ns.map I)] σ (setV (labs ns)) σ:=by
 refine Ans.of_run' t101 (fun hbel _=>?_)
 have hb1:∀L:List Lab,(∀o∈σ++[.row 2 (lvs L)],BelO (σ.length+1) o)=True:=fun L=>eq_true (by
  intro o ho;rcases List.mem_append.1 ho with ho|ho
  · exact zbT (hbel o ho) (Nat.le_succ _)
  · simp only[List.mem_cons,List.not_mem_nil,or_false]at ho;subst ho;intro y hy;simp only[lvs,List.mem_map]at hy;obtain⟨x,_,rfl⟩:=hy
    exact z9J _ x)
 simp -implicitDefEqProofs only[c101,r101,go_sem,List.append_assoc,List.length_append];have hm:∀i,i<(ns.take 5).length→i<ns.length∧i<5:=fun i hi=>by simp at hi;omega
 refine Go.Ab.L.count (ns.take 5).length (fun i=>mkE 54 [(0,.sl 1 (ns.map I)),(3,.osl σ.length (((ns.take 5).take i).foldl z1r []).length),(4,I i)])
  (fun i=>σ++[.row 2 (lvs (((ns.take 5).take i).foldl z1r []))]) ?_ ?_ rfl rfl
 · intro i hi Q hQ;obtain⟨hi1,hi2⟩:=hm i hi;have hns:(ns.take 5)[i]=ns[i]:=by simp
   rw[List.take_succ_eq_append_getElem hi,List.foldl_append,List.foldl_cons,List.foldl_nil,hns]at hQ
   have hlo:(((ns.take 5).take i).foldl z1r []).length≤5:=by
    have:=z5i ((ns.take 5).take i) [];simp at this;omega
   generalize ((ns.take 5).take i).foldl z1r []=out at hQ hlo⊢;have hget:(ns.map I)[i]?=some (I ns[i]):=by simp[hi1]
   generalize ns[i]=n at hget hQ;have d5:decide ((i:Int)<5)=true:=by simp;omega
   have dl:decide ((i:Int)<(((ns.map I).length:Nat):Int))=true:=by simp;omega
   have dl':((i:Int)<(((ns.map I).length:Nat):Int))=True:=by simp;omega
   have AA:True:=trivial;simp -implicitDefEqProofs only[mkE,go_sem,z00,dl,dl',d5,hget,List.append_assoc,List.length_append];refine CS.intro (fun s=>z2O s n 0 4 (by omega) (by omega) (by omega)) ?_
   simp -implicitDefEqProofs only[go_sem,z00,dl',hget,List.append_assoc,List.length_append];refine CS.intro (fun s=>z4P s _) ?_
   simp -implicitDefEqProofs only[go_sem,z00,dl',hget,List.append_assoc,List.length_append];refine CS.intro (fun s=>z2O s _ 0 6 (by omega) (by omega) (by omega)) ?_
   simp -implicitDefEqProofs only[go_sem,z00,dl',hget,List.append_assoc,List.length_append];refine CS.intro (fun s=>z7M s _) ?_
   simp -implicitDefEqProofs only[go_sem,z00,dl',hget,List.append_assoc,List.length_append,g0,g1,s0,s1];refine CO.intro (z7N _ σ.length out (nameOf (emodW n 0 4)) (g0 σ _ _) (by omega)) ?_
   simp -implicitDefEqProofs only[go_sem];unfold z1r at hQ;have hlab:(labOf n).1=nameOf (emodW n 0 4):=rfl;rw[hlab]at hQ;cases hc:(getL out (nameOf (emodW n 0 4))).toList==(⟨#[]⟩:ByteArray).toList
   · rw[hc,if_neg Bool.false_ne_true]at hQ;simp -implicitDefEqProofs only[go_sem,g0,g1,s0,s1,B_pl,B_any,z2o,B_tup,B_lv,B_lvs,B_sl1,B_osl,B_ptr,z7Q,B_sl0,zeR,B_rp1,take_one,hb1,List.length_append,wrap_succ (show i≤100000 by omega)]
     exact⟨⟨by omega,by omega⟩,by omega,hQ⟩
   · rw[hc,if_pos rfl]at hQ;have p1:(out.length+1≤2^32)=True:=by simp;omega
     simp -implicitDefEqProofs only[go_sem,g0,g1,s0,s1,B_pl,B_any,z2o,B_tup,B_lv,B_lvs,B_sl1,B_osl,B_ptr,z7Q,B_sl0,zeR,B_rp1,take_one,hb1,List.length_append,z0i,p1,zdM,wrap_succ (show i≤100000 by omega)]
     rw[List.length_append]at hQ;exact⟨⟨by omega,by omega,by omega,z4r _ [labOf n],by omega⟩,by omega,hQ⟩
 · intro Q;have hlt:¬((ns.take 5).length<ns.length∧(ns.take 5).length<5):=by simp;omega
   rw[List.take_length];have hlo:=z7R ns;have hd0:labs0 ns=(ns.take 5).foldl z1r []:=rfl;rw[←hd0];have hset:=z8T (σ++[.dead]) (labs ns) (zaJ ns) (by have:=zdL ns;omega)
   have hb2:Bel σ.length (setV (labs ns)):=by
    unfold setV;split
    · exact z4r _ _
    · exact .nils
   have hex:(¬(ns.take 5).length<ns.length)∨((ns.take 5).length<ns.length∧(ns.take 5).length=5):=by simp;omega
   have hmap:(((ns.map I).length:Nat):Int)=(ns.length:Nat):=by simp
   have d55:decide (((5:Nat):Int)<5)=false:=by decide
   rcases hex with hx|⟨hx,hx5⟩
   · simp -implicitDefEqProofs only[mkE,go_sem,hmap,z2Y hx,z2Z hx];cases h0:((labs0 ns).length==0)
     · have h0':((((labs0 ns).length:Nat):Int)==0)=false:=by rw[←h0];exact z42 _
       have hl:labs ns=labs0 ns:=by unfold labs;rw[if_neg (by simpa using h0)]
       rw[hl]at hset hb2;simp -implicitDefEqProofs only[go_sem,h0',g0,s0,z0i];refine CO.intro hset ?_;unfold setV at hb2⊢;rw[hl];cases hs:z3i (setL (labs0 ns))
       all_goals rw[hs]at hb2
       all_goals simp -implicitDefEqProofs only[go_sem]
       all_goals exact Fini.trim2 (σ':=σ) (ex:=[.dead]) rfl rfl (Nat.le_refl _) hb2 hbel
     · have h0':((((labs0 ns).length:Nat):Int)==0)=true:=by rw[←h0];exact z42 _
       have h00:labs0 ns=[]:=by simpa using h0
       have hl:labs ns=[(⟨#[115,101,118]⟩,⟨#[97]⟩)]:=by unfold labs;rw[if_pos (by simpa using h0)]
       have p1:(0+1≤2^32)=True:=by simp
       have p2:(1≤2^32)=True:=by simp
       rw[h00]at h0'⊢;rw[hl]at hset hb2;have z0:(((0:Nat):Int)==0)=true:=rfl;simp -implicitDefEqProofs only[go_sem,z0,h0',g0,s0,z0i,p1,p2,z6Y];refine CO.intro' hset rfl rfl ?_;unfold setV at hb2⊢;rw[hl];cases hs:z3i (setL [(⟨#[115,101,118]⟩,⟨#[97]⟩)])
       all_goals rw[hs]at hb2
       all_goals simp -implicitDefEqProofs only[go_sem]
       all_goals exact Fini.trim2 (σ':=σ) (ex:=[.dead]) rfl rfl (Nat.le_refl _) hb2 hbel
   · rw[hx5]at hx⊢;simp -implicitDefEqProofs only[mkE,go_sem,hmap,z0c hx,dec_lt hx,d55];cases h0:((labs0 ns).length==0)
     · have h0':((((labs0 ns).length:Nat):Int)==0)=false:=by rw[←h0];exact z42 _
       have hl:labs ns=labs0 ns:=by unfold labs;rw[if_neg (by simpa using h0)]
       rw[hl]at hset hb2;simp -implicitDefEqProofs only[go_sem,h0',g0,s0,z0i];refine CO.intro hset ?_;unfold setV at hb2⊢;rw[hl];cases hs:z3i (setL (labs0 ns))
       all_goals rw[hs]at hb2
       all_goals simp -implicitDefEqProofs only[go_sem]
       all_goals exact Fini.trim2 (σ':=σ) (ex:=[.dead]) rfl rfl (Nat.le_refl _) hb2 hbel
     · have h0':((((labs0 ns).length:Nat):Int)==0)=true:=by rw[←h0];exact z42 _
       have h00:labs0 ns=[]:=by simpa using h0
       have hl:labs ns=[(⟨#[115,101,118]⟩,⟨#[97]⟩)]:=by unfold labs;rw[if_pos (by simpa using h0)]
       have p1:(0+1≤2^32)=True:=by simp
       have p2:(1≤2^32)=True:=by simp
       rw[h00]at h0'⊢;rw[hl]at hset hb2;have z0:(((0:Nat):Int)==0)=true:=rfl;simp -implicitDefEqProofs only[go_sem,z0,h0',g0,s0,z0i,p1,p2,z6Y];refine CO.intro' hset rfl rfl ?_;unfold setV at hb2⊢;rw[hl];cases hs:z3i (setL [(⟨#[115,101,118]⟩,⟨#[97]⟩)])
       all_goals rw[hs]at hb2
       all_goals simp -implicitDefEqProofs only[go_sem]
       all_goals exact Fini.trim2 (σ':=σ) (ex:=[.dead]) rfl rfl (Nat.le_refl _) hb2 hbel
end
end Go.Proofs.YtmkmhhjkdaklbaaGreat
namespace Go.Proofs.YtmkmhhjkdaklbaaGreat
open Go Go.Ab Go.Cod
set_option maxRecDepth 100000
abbrev UN (n:Nat):AV:=.pl (.int .u64 n)
def bc (c:UInt8):AV:=.pl (.int .u8 c.toNat)
def byv (b:Byt):List AV:=b.map bc
theorem z04 (b:Byt):(byv b).length=b.length:=List.length_map ..
theorem zfA:byv []=[]:=rfl
theorem z4Q (c:UInt8) (b:Byt):byv (c::b)=bc c::byv b:=rfl
theorem z0l (a b:Byt):byv (a++b)=byv a++byv b:=List.map_append ..
theorem z3v (b:Byt) (k:Nat):(byv b).take k=byv (b.take k):=by simp[byv]
theorem z3w (b:Byt) (k:Nat):(byv b).drop k=byv (b.drop k):=by simp[byv]
theorem zbW (b:Byt):(byv b).isEmpty=b.isEmpty:=by simp[byv]
theorem z0o (b:Byt) (f:AV→Bool) (h:∀c:UInt8,f (bc c)=true):(byv b).all f=true:=by
 simp only[byv,List.all_map,List.all_eq_true];intro c _;exact h c
theorem zbX (b:Byt) (i:Nat) (h:i<b.length):(byv b)[i]?=some (bc b[i]):=by simp[byv,h]
theorem zgA (n:Nat) (c:UInt8):Bel n (bc c):=.pl _
theorem z1F (n:Nat) (b:Byt):Bel n (.sl 1 (byv b)):=.sl 1 _ fun i hi=>by
 have:(byv b)[i]=bc (b[i]'(by rw[←z04];exact hi)):=by simp[byv]
 rw[this];exact zgA n _
theorem zaL (s:ByteArray):z3C s=byv s.data.toList:=rfl
theorem z9N (s:ByteArray):(s.data.toList.map fun b=>(AV.pl (.int .u8 b.toNat)))=byv s.data.toList:=rfl
theorem z1M:∀b:Byt,byteL (byv b)=some (b.map fun c=>(c.toNat:Int))
 |[]=>rfl
 |c::b=>by simp only[z4Q,bc,byteL,z1M b,Option.map_some,List.map_cons]
theorem z1G (b:Byt):textOf (b.map fun c=>(c.toNat:Int))=⟨b.toArray⟩:=by
 unfold textOf;congr 2
 rw[List.map_map]
 conv=>rhs;rw[←List.map_id b]
 apply List.map_congr_left;intro c _;simp
theorem z1y {n:Nat} (h:n<18446744073709551616):IntKind.u64.wrap (n:Int)=(n:Int):=by
 simp only[IntKind.wrap,IntKind.bits,IntKind.signed];simp;omega
theorem z5j {n:Nat}:IntKind.u8.wrap (n:Int)=((n%256:Nat):Int):=by
 simp only[IntKind.wrap,IntKind.bits,IntKind.signed];simp
theorem or128:∀m:Fin 256,IntKind.u8.wrap ((BitVec.ofInt 8 (m.val:Int) ||| BitVec.ofInt 8 128).toNat:Int)=((m.val%128+128:Nat):Int):=by decide +kernel
theorem bc_of {n:Nat} (h:n<256):AV.pl (.int .u8 n)=bc n.toUInt8:=by
 rw[bc,toNat_toUInt8 h]
theorem row1 (σ:St) (x:Ob):(σ++[x])[σ.length]?=some x:=by simp
theorem shr7 (n:Nat):((n:Int).fdiv (2^min (7:Int).toNat 64))=((n/128:Nat):Int):=by
 have:(min (7:Int).toNat 64)=7:=rfl;rw[this];rw[Int.fdiv_eq_ediv_of_nonneg _ (by decide)]
 rfl
theorem z9O:∀(k n:Nat),n<128^(k+1)→(putN n).length≤k+1
 |0,n,h=>by rw[z2c (by simpa using h)];simp
 |k+1,n,h=>by
  by_cases h1:n<128
  · rw[z2c h1];simp
  · rw[z4s h1,List.length_cons];have:=z9O k (n/128) (Nat.div_lt_of_lt_mul (by rw[Nat.pow_succ,Nat.mul_comm]at h;exact h))
    omega
theorem z0w {n:Nat} (h:n<18446744073709551616):(putN n).length≤10:=z9O 9 n (Nat.lt_of_lt_of_le h (by decide))
theorem zbY (n:Nat):IntKind.u8.wrap ((BitVec.ofInt 8 (((n%256:Nat):Int)) ||| BitVec.ofInt 8 128).toNat:Int)=((n%128+128:Nat):Int):=by
 have:=or128 ⟨n%256,Nat.mod_lt _ (by decide)⟩
 simp only[show(n%256)%128=n%128 by omega]at this
 exact this
theorem u8_or (n:Nat):IntKind.u8.wrap ((BitVec.ofInt IntKind.u8.bits (((n%256:Nat):Int)) ||| BitVec.ofInt IntKind.u8.bits 128).toNat:Int)=((n%128+128:Nat):Int):=zbY n
theorem intle (a b:Nat):decide ((a:Int)≤(b:Int))=decide (a≤b):=by rw[Bool.eq_iff_iff];simp
theorem Fini.ret3 {n m:Nat} {rvs:List RV} {r r':AV} {σ σ':St} {env:Env} (h:resA env σ rvs=some r') (e:r'=r) (e':σ=σ'):Fini m rvs r σ' .ret env σ:=by
 subst e;subst e';exact Fini.ret h
section
variable (σ:St)
theorem zbZ (n:Nat) (hn:n<18446744073709551616):Ans Tryz.prog 71 [UN n] σ (.osl σ.length (putN n).length) (σ++[.row 1 (byv (putN n))]):=by
 have h10:=z0w hn;refine Ans.of_run t71 ?_;simp -implicitDefEqProofs only[c71,r71,go_sem];refine Go.Ab.L.intro (α:={ p:Nat×Byt // p.1<18446744073709551616∧p.2++putN p.1=putN n }) (fun p=>p.1.1) (fun p=>mkE 19 [(0,UN p.1.1),(3,.osl σ.length p.1.2.length)]) (fun p=>σ++[.row 1 (byv p.1.2)]) ?_ ⟨(n,[]),hn,rfl⟩ rfl rfl
 rintro⟨⟨m,pre⟩,hm,hp⟩ J hJ;have hl:pre.length+(putN m).length≤10:=by rw[←List.length_append,hp];exact h10
 have hx:∀c:Int,(byv pre++[AV.pl (.int .u8 c)]).length=pre.length+1:=fun c=>by simp[z04]
 have d0:=intle 128 m;simp only[Int.cast_ofNat_Int]at d0;have hw:=z1y hm;have hle:pre.length+1≤2^32:=by omega
 by_cases h:m<128
 · have d1:decide ((128:Int)≤m)=false:=by simp;omega
   have d2:IntKind.u8.wrap (m:Int)=m:=by rw[z5j];congr 1;omega
   simp -implicitDefEqProofs only[mkE,go_sem,d1,row1,z04,List.length_singleton,hle,d2];refine Fini.ret3 (n:=0) rfl ?_ ?_
   · show AV.osl σ.length (pre.length+1)=AV.osl σ.length (putN n).length;rw[←hp,z2c h];simp
   · rw[List.set_append_right _ _ (Nat.le_refl _)];simp only[Nat.sub_self,List.set_cons_zero];rw[←hp,z0l,z2c h,bc_of (show m<256 by omega)]
     rfl
 · have d1:decide ((128:Int)≤m)=true:=by simp;omega
   simp -implicitDefEqProofs only[mkE,go_sem,d1,row1,z04,List.length_singleton,hle,z5j (n:=m),u8_or,zbY,shr7,z1y (show m/128<18446744073709551616 by omega)]
   rw[List.set_append_right _ _ (Nat.le_refl _)];simp only[Nat.sub_self,List.set_cons_zero]
   have hgo:=hJ ⟨(m/128,pre++[(m%128+128).toUInt8]),by simp only;omega,by
    rw[←hp];simp only[List.append_assoc,List.singleton_append];rw[z4s h]⟩ (by simp only;omega)
   simp only[z0l,List.length_append,List.length_singleton]at hgo
   have key:∀v:Int,v=((m%128+128:Nat):Int)→J (mkE 19 [(0,UN (m/128)),(3,.osl σ.length (pre.length+1))]) (σ++[Ob.row 1 (byv pre++[AV.pl (.int .u8 v)])]):=by
    rintro _ rfl;rw[bc_of (show m%128+128<256 by omega)]
    exact hgo
   exact key _ (zbY m)
theorem z8W (s:ByteArray) (hs:s.size≤4294967280):Ans Tryz.prog 72 [Sx s] σ (.osl σ.length (txtB s).length) (σ++[.row 1 (byv (txtB s))]):=by
 have h10:=z0w (n:=s.size) (by omega)
 have hsz:=z1w s;have hw:=z1y (n:=s.size) (by omega)
 have hle:(putN s.size).length+s.size≤2^32:=by omega
 refine Ans.of_run' t72 (fun hbel _=>?_)
 simp -implicitDefEqProofs only[c72,r72,go_sem,hw];refine CO.intro (zbZ σ s.size (by omega)) ?_
 simp -implicitDefEqProofs only[go_sem,z9N,row1,z04,hsz,hle];simp -implicitDefEqProofs only[go_sem,g0,s0,z04,hsz,←z0l,List.length_append];refine Fini.ret3 (n:=0) rfl ?_ rfl;show AV.osl σ.length ((putN s.size).length+s.size)=AV.osl σ.length (txtB s).length;unfold txtB;rw[List.length_append,hsz]
theorem z8X (s:ByteArray) (hs:s.size≤4294967280):Ans Tryz.prog 72 [Sx s] σ (.sl 1 (byv (txtB s))) σ :=
 (z8W σ s hs).shut (by rw[z04]) (z1F _ _)
end
def getV (b:Byt):AV:=match getN 0 b with
 |some p=>.tup [UN p.1,I (b.length-p.2.length:Nat),Bo true]
 |none=>.tup [UN 0,I 0,Bo false]
theorem z43 {b:Byt} (h:getN 0 b=none):getV b=.tup [UN 0,I 0,Bo false]:=by unfold getV;rw[h]
theorem z5k {b:Byt} {n:Nat} {t:Byt} (h:getN 0 b=some (n,t)):getV b=.tup [UN n,I (b.length-t.length:Nat),Bo true]:=by unfold getV;rw[h]
theorem zgB:∀m:Fin 256,IntKind.u8.wrap ((BitVec.ofInt 8 (m.val:Int) &&& BitVec.ofInt 8 127).toNat:Int)=((m.val%128:Nat):Int):=by decide +kernel
theorem u8_and (c:UInt8):IntKind.u8.wrap ((BitVec.ofInt IntKind.u8.bits (c.toNat:Int) &&& BitVec.ofInt IntKind.u8.bits 127).toNat:Int)=((c.toNat%128:Nat):Int):=zgB ⟨c.toNat,c.toNat_lt⟩
theorem zeS (a d s:Nat) (ha:a<2^s) (hs:s<64) (hd:d*2^s<18446744073709551616) :
  IntKind.u64.wrap ((BitVec.ofInt IntKind.u64.bits (a:Int) ||| BitVec.ofInt IntKind.u64.bits (IntKind.u64.wrap ((d:Int)*2^min (((s:Nat):Int).toNat) IntKind.u64.bits))).toNat:Int)=((a+2^s*d:Nat):Int):=by
 have hm:min (((s:Nat):Int).toNat) IntKind.u64.bits=s:=by
  show min s 64=s;omega
 have ha2:a<18446744073709551616:=Nat.lt_of_lt_of_le ha (by
  calc 2^s≤2^63:=Nat.pow_le_pow_right (by decide) (by omega)
   _≤18446744073709551616:=by decide)
 rw[hm];have e1:((d:Int)*2^s)=((d*2^s:Nat):Int):=by push_cast;rfl
 rw[e1,z1y hd]
 have e2:(BitVec.ofInt IntKind.u64.bits (a:Int) ||| BitVec.ofInt IntKind.u64.bits ((d*2^s:Nat):Int)).toNat=a+2^s*d:=by
  rw[BitVec.toNat_or]
  have f:∀n:Nat,n<18446744073709551616→(BitVec.ofInt IntKind.u64.bits (n:Int)).toNat=n:=fun n hn=>by
   rw[BitVec.ofInt_natCast,BitVec.toNat_ofNat];exact Nat.mod_eq_of_lt hn
  rw[f a ha2,f _ hd,←Nat.shiftLeft_eq,Nat.or_comm,←Nat.shiftLeft_add_eq_or_of_lt ha,Nat.shiftLeft_eq,Nat.mul_comm,Nat.add_comm]
 rw[e2]
 have hlt:a+2^s*d<18446744073709551616:=by
  by_cases h0:d=0
  · subst h0;simpa using ha2
  · have h64:(18446744073709551616:Nat)=2^s*2^(64-s):=by rw[←Nat.pow_add,show s+(64-s)=64 by omega]
    have hd2:d<2^(64-s):=by
     rw[h64,Nat.mul_comm]at hd;exact Nat.lt_of_mul_lt_mul_left hd
    have:2^s*(d+1)≤2^s*2^(64-s):=Nat.mul_le_mul_left _ hd2;rw[Nat.mul_add,Nat.mul_one]at this;omega
 exact z1y hlt
def orT (a:Nat) (c:UInt8) (s:Nat):Int:=IntKind.u64.wrap ((BitVec.ofInt 64 (a:Int) ||| BitVec.ofInt 64 (IntKind.u64.wrap (IntKind.u64.wrap (IntKind.u8.wrap ((BitVec.ofInt 8 (c.toNat:Int) &&& BitVec.ofInt 8 127).toNat:Int))*2^min s 64))).toNat:Int)
theorem zgC (a:Nat) (c:UInt8) (s:Nat) (ha:a<2^s) (hs:s<64) (hd:c.toNat%128*2^s<18446744073709551616):orT a c s=((a+2^s*(c.toNat%128):Nat):Int):=by
 have h1:=zeS a (c.toNat%128) s ha hs hd
 have h2:IntKind.u64.wrap (IntKind.u8.wrap ((BitVec.ofInt 8 (c.toNat:Int) &&& BitVec.ofInt 8 127).toNat:Int))=((c.toNat%128:Nat):Int):=by
  have:IntKind.u8.wrap ((BitVec.ofInt 8 (c.toNat:Int) &&& BitVec.ofInt 8 127).toNat:Int)=((c.toNat%128:Nat):Int):=u8_and c;rw[this];exact z1y (by omega)
 unfold orT;rw[h2];exact h1
theorem zc0 {i:Nat} (h:i≤100):IntKind.i64.wrap (7*(i:Int))=((7*i:Nat):Int):=by rw[wrapN (by omega) (by omega)];push_cast;rfl
section
variable (σ:St)
theorem z9P (b:Byt) (hb:b.length≤100000):Ans Tryz.prog 115 [.sl 1 (byv b)] σ (getV b) σ:=by
 refine Ans.of_run t115 ?_;simp -implicitDefEqProofs only[c115,r115,go_sem,z04]
 refine Go.Ab.L.intro (α:={ p:Nat×Nat // p.1≤b.length∧p.1≤9∧p.2<2^(7*p.1)∧getN 0 b=(getN p.1 (b.drop p.1)).map fun q=>(p.2+2^(7*p.1)*q.1,q.2) }) (fun p=>b.length-p.1.1)
  (fun p=>mkE 43 [(5,UN p.1.2),(8,.sl 1 (byv b)),(9,I b.length),(10,I p.1.1)]) (fun _=>σ) ?_ ⟨(0,0),Nat.zero_le _,Nat.zero_le _,by simp,by cases h:getN 0 b<;>simp[h]⟩ rfl rfl
 rintro⟨⟨i,a⟩,hi,h9,ha,hg⟩ J hJ;simp only at hi h9 ha hg hJ;by_cases hlt:i<b.length
 · have hx:=zbX b i hlt;have hdr:b.drop i=b[i]::b.drop (i+1):=List.drop_eq_getElem_cons hlt;rw[hdr]at hg;have hcl:=(b[i]).toNat_lt;generalize hc:b[i]=c at hx hg hcl;have hbeq9:((i:Int)==9)=decide (i=9):=by rw[Bool.eq_iff_iff];simp;omega
   have hgt1:decide ((1:Int)<c.toNat)=decide (1<c.toNat):=by rw[Bool.eq_iff_iff];simp;omega
   have hgt0:decide ((0:Int)<i)=decide (0<i):=by rw[Bool.eq_iff_iff];simp
   have hbeq0:((c.toNat:Int)==0)=decide (c.toNat=0):=by rw[Bool.eq_iff_iff];simp
   have h128:decide ((c.toNat:Int)<128)=decide (c.toNat<128):=by rw[Bool.eq_iff_iff];simp;omega
   simp only[getN]at hg;by_cases hbad:(i=9∧1<c.toNat)∨(0<i∧c.toNat=0)
   · rw[if_pos hbad]at hg;simp only[Option.map_none]at hg;rw[z43 hg];rcases hbad with⟨h1,h2⟩|⟨h1,h2⟩
     · simp -implicitDefEqProofs only[mkE,go_sem,z04,z0c hlt,dec_lt hlt,hx,bc,hbeq9,hgt1,decide_eq_true h1,decide_eq_true h2];exact Fini.ret rfl
     · by_cases h3:i=9
       · have h4:decide (1<c.toNat)=false:=decide_eq_false (by omega)
         simp -implicitDefEqProofs only[mkE,go_sem,z04,z0c hlt,dec_lt hlt,hx,bc,hbeq9,hgt1,hgt0,hbeq0,decide_eq_true h1,decide_eq_true h2,decide_eq_true h3,h4];exact Fini.ret rfl
       · simp -implicitDefEqProofs only[mkE,go_sem,z04,z0c hlt,dec_lt hlt,hx,bc,hbeq9,hgt1,hgt0,hbeq0,decide_eq_true h1,decide_eq_true h2,decide_eq_false h3];exact Fini.ret rfl
   · rw[if_neg hbad]at hg;have hs:7*i<64:=by omega
     have hd:c.toNat%128*2^(7*i)<18446744073709551616:=by
      by_cases h3:i=9
      · subst h3;have:c.toNat≤1:=by omega
        have:c.toNat%128≤1:=by omega
        calc c.toNat%128*2^(7*9)≤1*2^63:=Nat.mul_le_mul_right _ this
         _<18446744073709551616:=by decide
      · have h4:c.toNat%128<2^7:=Nat.mod_lt _ (by decide)
        calc c.toNat%128*2^(7*i)<2^7*2^(7*i):=Nat.mul_lt_mul_of_pos_right h4 (Nat.two_pow_pos _)
         _=2^(7+7*i):=by rw[Nat.pow_add]
         _≤2^63:=Nat.pow_le_pow_right (by decide) (by omega)
         _<18446744073709551616:=by decide
     have hor:=zgC a c (7*i) ha hs hd;have hin:=wrap_succ (i:=i) (by omega)
     have h7:=zc0 (i:=i) (by omega)
     have go:∀(P:Prop),(decide (i=9)=true→decide (1<c.toNat)=false→P)→(decide (i=9)=false→P)→P:=fun P p q=>by
      by_cases h3:i=9
      · exact p (decide_eq_true h3) (decide_eq_false (by omega))
      · exact q (decide_eq_false h3)
     have go2:∀(P:Prop),(decide (0<i)=true→decide (c.toNat=0)=false→P)→(decide (0<i)=false→P)→P:=fun P p q=>by
      by_cases h3:0<i
      · exact p (decide_eq_true h3) (decide_eq_false (by omega))
      · exact q (decide_eq_false h3)
     by_cases hend:c.toNat<128
     · have e128:=decide_eq_true hend;rw[if_pos hend]at hg;simp only[Option.map_some]at hg;rw[z5k hg];have hmod:c.toNat%128=c.toNat:=Nat.mod_eq_of_lt hend
       have hfin:∀v:Int,v=((a+2^(7*i)*(c.toNat%128):Nat):Int)→(.tup [.pl (.int .u64 v),I ((i+1:Nat):Int),Bo true]:AV)=.tup [UN (a+2^(7*i)*c.toNat),I (b.length-(b.drop (i+1)).length:Nat),Bo true]:=by
        rintro _ rfl;rw[hmod,List.length_drop,show b.length-(b.length-(i+1))=i+1 by omega]
       refine go _ (fun x1 x2=>go2 _ (fun y1 y2=>?_) fun y1=>?_) fun x1=>go2 _ (fun y1 y2=>?_) fun y1=>?_
       · simp -implicitDefEqProofs only[mkE,go_sem,z04,z0c hlt,dec_lt hlt,hx,bc,hbeq9,hgt1,hgt0,hbeq0,x1,x2,y1,y2,h7,h128,e128,hin];exact Fini.ret' rfl (hfin _ hor)
       · simp -implicitDefEqProofs only[mkE,go_sem,z04,z0c hlt,dec_lt hlt,hx,bc,hbeq9,hgt1,hgt0,hbeq0,x1,x2,y1,h7,h128,e128,hin];exact Fini.ret' rfl (hfin _ hor)
       · simp -implicitDefEqProofs only[mkE,go_sem,z04,z0c hlt,dec_lt hlt,hx,bc,hbeq9,hgt1,hgt0,hbeq0,x1,y1,y2,h7,h128,e128,hin];exact Fini.ret' rfl (hfin _ hor)
       · simp -implicitDefEqProofs only[mkE,go_sem,z04,z0c hlt,dec_lt hlt,hx,bc,hbeq9,hgt1,hgt0,hbeq0,x1,y1,h7,h128,e128,hin];exact Fini.ret' rfl (hfin _ hor)
     · have e128:=decide_eq_false hend;rw[if_neg hend]at hg
       have hi9:i<9:=by
        rcases Nat.lt_or_eq_of_le h9 with h|h
        · exact h
        · omega
       have hgo:=hJ ⟨(i+1,a+2^(7*i)*(c.toNat%128)),by simp only;omega,by simp only;omega,(by
        simp only;have e1:2^(7*(i+1))=2^(7*i)*128:=by rw[Nat.mul_add,Nat.pow_add]
        have:c.toNat%128<128:=Nat.mod_lt _ (by decide)
        have:2^(7*i)*(c.toNat%128+1)≤2^(7*i)*128:=Nat.mul_le_mul_left _ this;rw[Nat.mul_add,Nat.mul_one]at this
        omega),(by
        simp only;rw[hg];have hm:c.toNat%128=c.toNat-128:=by omega
        cases getN (i+1) (b.drop (i+1)) with
        |none=>rfl
        |some q =>
         simp only[Option.map_some,Option.some.injEq,Prod.mk.injEq,and_true]
         rw[hm,show 7*(i+1)=7*i+7 by omega,Nat.pow_add,Nat.mul_add,Nat.add_assoc,←Nat.mul_assoc])⟩ (by simp only;omega)
       have key:∀v:Int,v=((a+2^(7*i)*(c.toNat%128):Nat):Int)→J (mkE 43 [(5,.pl (.int .u64 v)),(8,.sl 1 (byv b)),(9,I b.length),(10,I ((i+1:Nat):Int))]) σ:=by
        rintro _ rfl;exact hgo
       refine go _ (fun x1 x2=>go2 _ (fun y1 y2=>?_) fun y1=>?_) fun x1=>go2 _ (fun y1 y2=>?_) fun y1=>?_
       · simp -implicitDefEqProofs only[mkE,go_sem,z04,z0c hlt,dec_lt hlt,hx,bc,hbeq9,hgt1,hgt0,hbeq0,x1,x2,y1,y2,h7,h128,e128,hin];exact key _ hor
       · simp -implicitDefEqProofs only[mkE,go_sem,z04,z0c hlt,dec_lt hlt,hx,bc,hbeq9,hgt1,hgt0,hbeq0,x1,x2,y1,h7,h128,e128,hin];exact key _ hor
       · simp -implicitDefEqProofs only[mkE,go_sem,z04,z0c hlt,dec_lt hlt,hx,bc,hbeq9,hgt1,hgt0,hbeq0,x1,y1,y2,h7,h128,e128,hin];exact key _ hor
       · simp -implicitDefEqProofs only[mkE,go_sem,z04,z0c hlt,dec_lt hlt,hx,bc,hbeq9,hgt1,hgt0,hbeq0,x1,y1,h7,h128,e128,hin];exact key _ hor
 · have hn:b.drop i=[]:=List.drop_eq_nil_of_le (by omega)
   rw[hn]at hg;simp only[getN,Option.map_none]at hg;rw[z43 hg];simp -implicitDefEqProofs only[mkE,go_sem,z04,z2Y hlt,z2Z hlt];exact Fini.ret rfl
end
def textV (most:Nat) (b:Byt):AV:=match textR most b with
 |some p=>.tup [Sx p.1,I (b.length-p.2.length:Nat),Bo true]
 |none=>.tup [Sx ⟨#[]⟩,I 0,Bo false]
theorem z3x {most:Nat} {b:Byt} (h:textR most b=none):textV most b=.tup [Sx ⟨#[]⟩,I 0,Bo false]:=by unfold textV;rw[h]
theorem z6o {most:Nat} {b:Byt} {s:ByteArray} {t:Byt} (h:textR most b=some (s,t)):textV most b=.tup [Sx s,I (b.length-t.length:Nat),Bo true]:=by unfold textV;rw[h]
theorem zaM {most:Nat} {b:Byt} (h:getN 0 b=none):textR most b=none:=by simp only[textR,numR,h,Option.bind_none]
theorem zdQ {most:Nat} {b:Byt} {n:Nat} {t:Byt} (h:getN 0 b=some (n,t)):textR most b=if n≤most∧n≤t.length then some (⟨(t.take n).toArray⟩,t.drop n) else none:=by
 simp only[textR,numR,h,Option.bind_some];by_cases h1:n≤most
 · simp only[h1,if_true,Option.bind_some,true_and]
 · simp only[h1,if_false,Option.bind_none,false_and]
theorem decNN (a b:Nat):decide ((a:Int)<(b:Int))=decide (a<b):=by rw[Bool.eq_iff_iff];simp
theorem subN {a b:Nat} (h:b≤a) (ha:a≤100000):IntKind.i64.wrap ((a:Int)-(b:Int))=((a-b:Nat):Int):=by rw[wrapN (by omega) (by omega)];omega
theorem addN {a b:Nat} (h:a+b≤100000):IntKind.i64.wrap ((a:Int)+(b:Int))=((a+b:Nat):Int):=by rw[wrapN (by omega) (by omega)];omega
theorem wrapI {a:Nat} (h:a<9223372036854775808):IntKind.i64.wrap (a:Int)=(a:Int):=wrapN (by omega) (by omega)
section
variable (σ:St)
theorem z8Y (b:Byt) (most:Nat) (hb:b.length≤100000) (hm:most<9223372036854775808):Ans Tryz.prog 116 [.sl 1 (byv b),I most] σ (textV most b) σ:=by
 refine Ans.of_run t116 ?_;simp -implicitDefEqProofs only[c116,r116,go_sem];refine CO.intro (z9P σ b hb) ?_;have hneg:decide ((most:Int)<0)=false:=by simp
 have hwm:=z1y (n:=most) (by omega)
 cases hg:getN 0 b with
 |none =>
  rw[z43 hg,z3x (zaM hg)];simp -implicitDefEqProofs only[go_sem];exact Fini.ret rfl
 |some p =>
  obtain⟨n,t⟩:=p;obtain⟨hbt,hn,_⟩:=z6Z b 0 n t (by omega) hg
  have hn:n<18446744073709551616:=hn;have hlen:b.length=(putN n).length+t.length:=by rw[hbt,List.length_append]
  have hk:b.length-t.length=(putN n).length:=by omega
  have hsub:=subN (a:=b.length) (b:=(putN n).length) (by omega) hb
  have hsub2:b.length-(putN n).length=t.length:=by omega
  have hwt:=z1y (n:=t.length) (by omega)
  have e1:decide ((most:Int)<n)=decide (most<n):=decNN most n;have e2:decide ((t.length:Int)<n)=decide (t.length<n):=decNN _ n;rw[z5k hg,hk];have hR:=zdQ (most:=most) hg;by_cases h1:n≤most
  · have x1:decide (most<n)=false:=decide_eq_false (by omega)
    by_cases h2:n≤t.length
    · have x2:decide (t.length<n)=false:=decide_eq_false (by omega)
      rw[if_pos ⟨h1,h2⟩]at hR;have hwn:=wrapI (a:=n) (by omega)
      have hadd:=addN (a:=(putN n).length) (b:=n) (by omega)
      have hlo:((putN n).length:Int)≤((putN n).length+n:Nat):=by omega
      have hhi:(((putN n).length+n:Nat):Int)≤(b.length:Nat):=by omega
      have hcut:(b.take ((putN n).length+n)).drop (putN n).length=t.take n:=by
       rw[hbt,List.take_append,List.take_of_length_le (by omega),Nat.add_sub_cancel_left,List.drop_left]
      rw[z6o hR];simp -implicitDefEqProofs only[go_sem,hneg,hwm,e1,x1,hsub,hsub2,hwt,e2,x2,hwn,hadd,z04,hlo,hhi,AV.isStr,z3v,z3w,hcut,z0o,bc,z1M,z1G];refine Fini.ret' rfl ?_;rw[List.length_drop];have:b.length-(t.length-n)=(putN n).length+n:=by omega
      rw[this];rfl
    · have x2:decide (t.length<n)=true:=decide_eq_true (by omega)
      rw[if_neg (by omega)]at hR
      rw[z3x hR];simp -implicitDefEqProofs only[go_sem,hneg,hwm,e1,x1,z04,hsub,hsub2,hwt,e2,x2];exact Fini.ret rfl
  · have x1:decide (most<n)=true:=decide_eq_true (by omega)
    rw[if_neg (by omega)]at hR
    rw[z3x hR];simp -implicitDefEqProofs only[go_sem,hneg,hwm,e1,x1];exact Fini.ret rfl
end
abbrev rob (b:Byt) (q:Nat×Bool):Ob:=.box [.sl 1 (byv b),I q.1,Bo q.2]
theorem z5n {σ:St} {p:Nat} {o:Ob} (h:σ[p]?=some o) (x:Ob):(σ.set p x)[p]?=some x:=by
 have:=(List.getElem?_eq_some_iff.1 h).1;simp[this]
section
variable (σ:St) (p:Nat) (b:Byt) (q:Nat×Bool)
theorem z4t:Ans Tryz.prog 54 [.sl 1 (byv b)] σ (.ptr σ.length 0) (σ++[rob b (0,false)]):=by
 refine Ans.of_run t54 ?_;simp -implicitDefEqProofs only[c54,r54,go_sem];exact Fini.ret rfl
theorem z12 (h:σ[p]?=some (rob b q)) (hq:q.1≤b.length):Ans Tryz.prog 112 [.ptr p 0] σ (.sl 1 (byv (b.drop q.1))) σ:=by
 have h1:(q.1:Int)≤(b.length:Nat):=by omega
 refine Ans.of_run t112 ?_;simp -implicitDefEqProofs only[c112,r112,go_sem,h,z04,h1,z3v,z3w,List.take_length,Int.le_refl];exact Fini.ret rfl
theorem z13 (n:Nat) (ok:Bool) (h:σ[p]?=some (rob b q)) (hn:q.1+n≤100000):Ans Tryz.prog 113 [.ptr p 0,I n,Bo ok] σ (Bo !(took q n ok).2) (σ.set p (rob b (took q n ok))):=by
 obtain⟨a,bad⟩:=q;have h9:∀x,(σ.set p x)[p]?=some x:=z5n h;have hadd:=addN (a:=a) (b:=n) hn;unfold took;refine Ans.of_run t113 ?_
 cases bad with
 |true =>
  simp -implicitDefEqProofs only[c113,r113,go_sem,h,h9];exact Fini.ret rfl
 |false =>
  cases ok with
  |true =>
   simp -implicitDefEqProofs only[c113,r113,go_sem,h,h9,hadd,List.set_set];exact Fini.ret rfl
  |false =>
   simp -implicitDefEqProofs only[c113,r113,go_sem,h,h9];exact Fini.ret rfl
end
section
variable (σ:St) (p:Nat) (b:Byt) (q:Nat×Bool)
theorem z2d (most:Nat) (hm:most<18446744073709551616) (h:σ[p]?=some (rob b q)) (hq:Inb b q) (hb:b.length≤50000) :
  Ans Tryz.prog 59 [.ptr p 0,UN most] σ (UN (runR (numR most) 0 b q).1) (σ.set p (rob b (runR (numR most) 0 b q).2)):=by
 refine Ans.of_run t59 ?_;simp -implicitDefEqProofs only[c59,r59,go_sem];refine CO.intro (z12 σ p b q h hq) ?_;simp -implicitDefEqProofs only[go_sem];refine CO.intro (z9P σ (b.drop q.1) (by rw[List.length_drop];omega)) ?_
 obtain⟨a,bad⟩:=q;simp only at hq h⊢;have hq:a≤b.length:=hq
 cases hg:getN 0 (b.drop a) with
 |none =>
  have hR:numR most (b.drop a)=none:=by simp only[numR,hg,Option.bind_none]
  have ht:=z13 σ p b (a,bad) 0 false h (by simp only;omega)
  have ht:Ans Tryz.prog 113 [.ptr p 0,I 0,Bo false] σ (Bo false) (σ.set p (rob b (a,true))):=by
   have e:took (a,bad) 0 false=(a,true):=by cases bad<;>rfl
   rw[e]at ht;exact ht
  rw[z43 hg];simp -implicitDefEqProofs only[go_sem];refine CO.intro ht ?_;simp -implicitDefEqProofs only[go_sem]
  cases bad with
  |true=>rw[z0I];exact Fini.ret rfl
  |false=>rw[z16 hR];exact Fini.ret rfl
 |some x =>
  obtain⟨n,t⟩:=x;rw[z5k hg];have hl:=zdO hg;rw[List.length_drop]at hl;have e1:decide ((n:Int)≤most)=decide (n≤most):=intle n most;have ht:=z13 σ p b (a,bad) ((b.drop a).length-t.length) (decide (n≤most)) h (by simp only[List.length_drop];omega)
  by_cases h1:n≤most
  · have x1:decide (n≤most)=true:=decide_eq_true h1;rw[x1]at ht;have hR:numR most (b.drop a)=some (n,t):=by simp only[numR,hg,Option.bind_some,h1,if_true]
    simp -implicitDefEqProofs only[go_sem,e1,x1];refine CO.intro ht ?_
    cases bad with
    |true =>
     have e:took (a,true) ((b.drop a).length-t.length) true=(a,true):=rfl;rw[e,z0I];simp -implicitDefEqProofs only[go_sem];exact Fini.ret rfl
    |false =>
     have e:took (a,false) ((b.drop a).length-t.length) true=(b.length-t.length,false):=by
      simp only[took,Bool.false_or,Bool.not_true,Bool.false_eq_true,if_false,List.length_drop];congr 1;omega
     rw[e,z0P hR];simp -implicitDefEqProofs only[go_sem];exact Fini.ret rfl
  · have x1:decide (n≤most)=false:=decide_eq_false h1;rw[x1]at ht;have hR:numR most (b.drop a)=none:=by simp only[numR,hg,Option.bind_some,h1,if_false]
    have e:took (a,bad) ((b.drop a).length-t.length) false=(a,true):=by cases bad<;>rfl
    rw[e]at ht;simp -implicitDefEqProofs only[go_sem,e1,x1];refine CO.intro ht ?_;simp -implicitDefEqProofs only[go_sem]
    cases bad with
    |true=>rw[z0I];exact Fini.ret rfl
    |false=>rw[z16 hR];exact Fini.ret rfl
theorem z34 (most:Nat) (hm:most<9223372036854775808) (h:σ[p]?=some (rob b q)) (hq:Inb b q) (hb:b.length≤50000) :
  Ans Tryz.prog 60 [.ptr p 0,I most] σ (Sx (runR (textR most) ⟨#[]⟩ b q).1) (σ.set p (rob b (runR (textR most) ⟨#[]⟩ b q).2)):=by
 refine Ans.of_run t60 ?_;simp -implicitDefEqProofs only[c60,r60,go_sem];refine CO.intro (z12 σ p b q h hq) ?_;simp -implicitDefEqProofs only[go_sem];refine CO.intro (z8Y σ (b.drop q.1) most (by rw[List.length_drop];omega) hm) ?_
 obtain⟨a,bad⟩:=q;simp only at hq h⊢;have hq:a≤b.length:=hq
 cases hg:textR most (b.drop a) with
 |none =>
  have ht:=z13 σ p b (a,bad) 0 false h (by simp only;omega)
  have ht:Ans Tryz.prog 113 [.ptr p 0,I 0,Bo false] σ (Bo false) (σ.set p (rob b (a,true))):=by
   have e:took (a,bad) 0 false=(a,true):=by cases bad<;>rfl
   rw[e]at ht;exact ht
  rw[z3x hg];simp -implicitDefEqProofs only[go_sem];refine CO.intro ht ?_;simp -implicitDefEqProofs only[go_sem]
  cases bad with
  |true=>rw[z0I];exact Fini.ret rfl
  |false=>rw[z16 hg];exact Fini.ret rfl
 |some x =>
  obtain⟨n,t⟩:=x;rw[z6o hg];have hl:=((z1L (most:=most) (by omega)).rest hg).1
  rw[List.length_drop]at hl;have ht:=z13 σ p b (a,bad) ((b.drop a).length-t.length) true h (by simp only[List.length_drop];omega)
  simp -implicitDefEqProofs only[go_sem];refine CO.intro ht ?_
  cases bad with
  |true =>
   have e:took (a,true) ((b.drop a).length-t.length) true=(a,true):=rfl;rw[e,z0I];simp -implicitDefEqProofs only[go_sem];exact Fini.ret rfl
  |false =>
   have e:took (a,false) ((b.drop a).length-t.length) true=(b.length-t.length,false):=by
    simp only[took,Bool.false_or,Bool.not_true,Bool.false_eq_true,if_false,List.length_drop];congr 1;omega
   rw[e,z0P hg];simp -implicitDefEqProofs only[go_sem];exact Fini.ret rfl
theorem z18 (h:σ[p]?=some (rob b q)) (hq:Inb b q) (hb:b.length≤50000) :
  Ans Tryz.prog 83 [.ptr p 0] σ (bc (runR byteR 0 b q).1) (σ.set p (rob b (runR byteR 0 b q).2)):=by
 refine Ans.of_run t83 ?_;simp -implicitDefEqProofs only[c83,r83,go_sem];refine CO.intro (z12 σ p b q h hq) ?_;obtain⟨a,bad⟩:=q;simp only at hq h⊢;have hq:a≤b.length:=hq
 cases hg:b.drop a with
 |nil =>
  have hR:byteR (b.drop a)=none:=by rw[hg];rfl
  have d0:decide ((0:Int)<((0:Nat):Int))=false:=by simp
  have ht:=z13 σ p b (a,bad) 1 false h (by simp only;omega)
  have e:took (a,bad) 1 false=(a,true):=by cases bad<;>rfl
  rw[e]at ht;simp -implicitDefEqProofs only[go_sem,zfA,d0];refine CO.intro ht ?_;simp -implicitDefEqProofs only[go_sem]
  cases bad with
  |true=>rw[z0I];exact Fini.ret rfl
  |false=>rw[z16 hR];exact Fini.ret rfl
 |cons c t =>
  have hR:byteR (b.drop a)=some (c,t):=by rw[hg];rfl
  have hl:b.length-a=t.length+1:=by rw[←List.length_drop,hg];rfl
  have d0:decide ((0:Int)<(((byv t).length+1:Nat):Int))=true:=by simp
  have ht:=z13 σ p b (a,bad) 1 true h (by simp only;omega)
  simp -implicitDefEqProofs only[go_sem,z4Q,d0];refine CO.intro ht ?_
  cases bad with
  |true =>
   have e:took (a,true) 1 true=(a,true):=rfl;rw[e,z0I];simp -implicitDefEqProofs only[go_sem];exact Fini.ret rfl
  |false =>
   have e:took (a,false) 1 true=(b.length-t.length,false):=by
    simp only[took,Bool.false_or,Bool.not_true,Bool.false_eq_true,if_false];congr 1;omega
   rw[e,z0P hR];simp -implicitDefEqProofs only[go_sem,bc,Int.toNat_zero];exact Fini.ret rfl
theorem z0b (ok:Bool) (h:σ[p]?=some (rob b q)) (hq:Inb b q) (hb:b.length≤50000) :
  Ans Tryz.prog 61 [.ptr p 0,Bo ok] σ (.tup []) (σ.set p (rob b (took q 0 ok))):=by
 have hq:q.1≤b.length:=hq;refine Ans.of_run t61 ?_;simp -implicitDefEqProofs only[c61,r61,go_sem];refine CO.intro (z13 σ p b q 0 ok h (by omega)) ?_
 simp -implicitDefEqProofs only[go_sem];exact Fini.normal rfl
theorem z35 (h:σ[p]?=some (rob b q)):Ans Tryz.prog 62 [.ptr p 0] σ (.tup [I (if q.2 then 0 else q.1:Nat),Bo !q.2]) σ:=by
 obtain⟨a,bad⟩:=q;refine Ans.of_run t62 ?_
 cases bad with
 |true =>
  simp -implicitDefEqProofs only[c62,r62,go_sem,h];exact Fini.ret rfl
 |false =>
  simp -implicitDefEqProofs only[c62,r62,go_sem,h];exact Fini.ret rfl
end
end Go.Proofs.YtmkmhhjkdaklbaaGreat
namespace Go.Proofs.YtmkmhhjkdaklbaaGreat
open Go Go.Ab
set_option maxRecDepth 100000
abbrev U (n:Int):AV:=.pl (.int .u64 n)
inductive Rex where
 |mk (op a b c d:Int) (ks:List Rex)
namespace Rex
def op:Rex→Int|.mk op _ _ _ _ _=>op
def a:Rex→Int|.mk _ a _ _ _ _=>a
def b:Rex→Int|.mk _ _ b _ _ _=>b
def c:Rex→Int|.mk _ _ _ c _ _=>c
def d:Rex→Int|.mk _ _ _ _ d _=>d
def ks:Rex→List Rex|.mk _ _ _ _ _ ks=>ks
mutual
def av:Rex→AV
 |.mk op a b c d ks=>.agg [I op,U a,U b,U c,U d,.sl 6 (avL ks)]
def avL:List Rex→List AV
 |[]=>[]
 |x::xs=>av x::avL xs
end
theorem zeT:∀l:List Rex,avL l=l.map av
 |[]=>rfl
 |x::xs=>by rw[avL,zeT xs];rfl
theorem av_eq (x:Rex):x.av=.agg [I x.op,U x.a,U x.b,U x.c,U x.d,.sl 6 (x.ks.map av)]:=by
 cases x;simp only[av,op,a,b,c,d,ks,zeT]
theorem zc1 {x y:Rex} (h:y∈x.ks):SizeOf.sizeOf y<SizeOf.sizeOf x:=by
 cases x;have:=List.sizeOf_lt_of_mem h;simp only[ks]at this;simp;omega
mutual
def cut:Rex→Int→Int
 |.mk _ _ _ _ _ ks,most=>cutL ks most 1
def cutL:List Rex→Int→Int→Int
 |[],_,n=>n
 |x::xs,most,n=>if n≤most then cutL xs most (n+cut x (most-n)) else n
end
def run (ks:List Rex) (most:Int):Nat→Int
 |0=>1
 |i+1=>match ks[i]? with
  |some x=>run ks most i+x.cut (most-run ks most i)
  |none=>run ks most i
end Rex
open Rex
section
variable (σ:St)
end
end Go.Proofs.YtmkmhhjkdaklbaaGreat
namespace Go.Proofs.YtmkmhhjkdaklbaaGreat
open Go Go.Ab
set_option maxRecDepth 100000
namespace Rex
mutual
def size:Rex→Int
 |.mk op _ _ _ _ ks=>if op==1 then 1 else if op==3 then sizeL ks+2*((ks.length:Int)-1) else if op==4 then sizeL ks+2 else if op==5 then sizeL ks+1 else if op==6 then sizeL ks+1 else sizeL ks
def sizeL:List Rex→Int
 |[]=>0
 |x::xs=>size x+sizeL xs
end
def plain (x:Rex):Bool:=x.a==0&&(x.b==0&&(x.c==0&&(x.d==0&&true)))
end Rex
open Rex
section
variable (σ:St)
end
end Go.Proofs.YtmkmhhjkdaklbaaGreat
namespace Go.Proofs.YtmkmhhjkdaklbaaGreat
open Go Go.Ab
set_option maxRecDepth 100000
structure Stp where
 op:Int
 a:Int
 b:Int
 c:Int
 d:Int
 x:Int
 y:Int
def Stp.av (s:Stp):AV:=.agg [I s.op,U s.a,U s.b,U s.c,U s.d,I s.x,I s.y]
def inR (n at_:Int):Bool:=decide (0≤at_)&&decide (at_<n)
def Stp.none (s:Stp):Bool:=s.a==0&&(s.b==0&&(s.c==0&&(s.d==0&&true)))
def zeU (s:Stp) (n:Int) (last:Bool):Bool :=
 if(s.op != 1)&& !s.none then false
 else if s.op==1 then(s.x==0&&s.y==0)&& !last
 else if s.op==2 then inR n s.x&&inR n s.y
 else if s.op==3 then inR n s.x&&s.y==0
 else(s.op==4&&s.x==0)&&s.y==0
section
variable (σ:St)
def zgD (ys:List Stp):Bool :=
 if decide ((ys.length:Int)<1) then false else if decide ((40:Int)<ys.length) then false
 else !((ys.take (ys.length-1)).any fun s=>!zeU s ys.length false)&&(match ys[ys.length-1]? with|some s=>zeU s ys.length true|none=>false)
end
abbrev W (b:BitVec 64):AV:=U (b.toNat:Int)
end Go.Proofs.YtmkmhhjkdaklbaaGreat
namespace Go.Proofs.YtmkmhhjkdaklbaaGreat
open Go Go.Ab
set_option maxRecDepth 100000
namespace Rex
mutual
def lay:Nat→Rex→List Stp
 |n,.mk op a b c d ks =>
  if op==1 then[⟨1,a,b,c,d,0,0⟩]
  else if op==2 then layL n ks
  else if op==3 then layW n ((n+(layW n 0 ks).length:Nat):Int) ks
  else if op==4 then⟨2,0,0,0,0,(n:Int)+1,((n+2+(layH (n+1) ks).length:Nat):Int)⟩::(layH (n+1) ks++[⟨3,0,0,0,0,(n:Int),0⟩])
  else if op==5 then layH n ks++[⟨2,0,0,0,0,(n:Int),((n+(layH n ks).length:Nat):Int)+1⟩]
  else if op==6 then⟨2,0,0,0,0,(n:Int)+1,((n+1+(layH (n+1) ks).length:Nat):Int)⟩::layH (n+1) ks
  else[]
def layL:Nat→List Rex→List Stp
 |_,[]=>[]
 |n,x::xs=>lay n x++layL (n+(lay n x).length) xs
def layH:Nat→List Rex→List Stp
 |_,[]=>[]
 |n,x::_=>lay n x
def layW:Nat→Int→List Rex→List Stp
 |_,_,[]=>[]
 |n,fin,x::xs=>if xs.isEmpty then lay n x else
  ⟨2,0,0,0,0,(n:Int)+1,((n+2+(lay (n+1) x).length:Nat):Int)⟩::(lay (n+1) x++(⟨3,0,0,0,0,fin,0⟩::layW (n+2+(lay (n+1) x).length) fin xs))
end
end Rex
end Go.Proofs.YtmkmhhjkdaklbaaGreat
namespace Go.Proofs.YtmkmhhjkdaklbaaGreat
open Go Go.Ab
set_option maxRecDepth 100000
open Rex
theorem CD.intro' {P:Program} {n0:Nat} {k:List Fr} {B:Bs} {env:Env} {σ σ₀ σ':St} {S:List St} {ob:List St→Prop} {f:FuncId} {args args₀:List AV} {d:Option Tmp} {l:List DOper} {r:AV} (h:Ans P f args₀ σ₀ r σ') (ha:args=args₀) (hs:σ=σ₀)
  (h':D P n0 l k B (putA env d r) (S++[σ']) σ' ob):CD P n0 f args d l k B env S σ ob:=by subst ha;subst hs;exact CD.intro h h'
def rowV (k:Nat) (L:List AV):AV:=if L.isEmpty then .nils else .osl k L.length
def rowS (sz:Nat) (A:St) (L:List AV) (E:St):St:=if L.isEmpty then A++E else A++.row sz L::E
theorem zc2 {k:Nat} {L:List AV} (h:L≠[]):rowV k L=.osl k L.length:=by simp[rowV,h]
theorem zc3 {sz:Nat} {A E:St} {L:List AV} (h:L≠[]):rowS sz A L E=A++.row sz L::E:=by simp[rowS,h]
abbrev sv (l:List Stp):List AV:=l.map Stp.av
theorem sv_ne {l:List Stp} (h:l≠[]):sv l≠[]:=by simpa[sv] using h
def Lays (x:Rex):Prop:=∀(ls:List Stp) (A E:St),(ls=[]→E=[])→(ls.length:Int)+x.size≤1000 →
 Ans Tryz.prog 195 [rowV A.length (sv ls),x.av] (rowS 7 A (sv ls) E) (rowV A.length (sv (ls++lay ls.length x))) (rowS 7 A (sv (ls++lay ls.length x)) E)
theorem Lays.own {x:Rex} (h:Lays x) (ls:List Stp) (A E:St) (hne:ls≠[]) (hb:(ls.length:Int)+x.size≤1000) :
  Ans Tryz.prog 195 [.osl A.length ls.length,x.av] (A++.row 7 (sv ls)::E) (.osl A.length (ls.length+(lay ls.length x).length)) (A++.row 7 (sv (ls++lay ls.length x))::E):=by
 have:=h ls A E (fun e=>absurd e hne) hb
 rw[zc2 (sv_ne hne),zc3 (sv_ne hne),zc2 (sv_ne (by simp[hne])),zc3 (sv_ne (by simp[hne]))]at this
 simpa[sv] using this
theorem p32:(1≤2^32)=True:=by simp
theorem w1:IntKind.i64.wrap 1=1:=by decide
end Go.Proofs.YtmkmhhjkdaklbaaGreat
namespace Go.Proofs.YtmkmhhjkdaklbaaGreat
open Go Go.Ab
set_option maxRecDepth 100000
def c224:ACode :=
 (sq_ [pr_ 2 (mi_ .u8 0)]
 (.seq (sq_ [mv_ 4 0,
 c1_ 5 190 4,
 pr_ 6 (no_ 5)]
 (.cond (.tmp 6)
 (sq_ [mv_ 7 0,
 c1_ 8 217 7]
 (sq_ [pr_ 2 (mi_ .u8 0)]
 .ret))
 .skip))
 (.seq (.draw [⟨mv_ 9 0,[],false,0,0⟩,
 ⟨pr_ 10 (nc_ 9),[0],false,0,0⟩,
 ⟨pr_ 11 (fa_ 0 10),[0,1],false,0,0⟩,
 ⟨pr_ 12 (lf_ 1 11),[0,1,2],false,0,0⟩,
 ⟨mv_ 13 0,[],false,0,0⟩,
 ⟨pr_ 14 (nc_ 13),[4],false,0,0⟩,
 ⟨pr_ 15 (fa_ 1 14),[4,5],false,0,0⟩,
 ⟨pr_ 16 (lf_ 1 15),[4,5,6],false,0,0⟩,
 ⟨pr_ 17 (.idxs (.tmp 12) (.tmp 16)),(List.range 8),false,0,0⟩,
 ⟨mv_ 3 17,(List.range 9),false,0,0⟩])
 (sq_ [mv_ 18 0,
 pr_ 19 (nc_ 18),
 pr_ 20 (fa_ 1 19),
 pr_ 21 (lf_ 1 20),
 pr_ 22 (bk_ .add 21 .i64 1),
 pr_ 23 (nc_ 18),
 pr_ 24 (fa_ 1 23),
 st_ (so_ 1 24 22)]
 (.seq (sq_ [mv_ 25 3,
 pr_ 26 (bk_ .eql 25 .u8 92)]
 (.cond (.tmp 26)
 (.seq (.seq (.draw [⟨mv_ 27 0,[],false,0,0⟩,
 ⟨c1_ 28 190 27,[0],true,0,0⟩,
 ⟨pr_ 29 (no_ 28),[0,1],false,1,1⟩,
 ⟨mv_ 30 29,[0,1,2],false,1,1⟩,
 ⟨gp_ 31 30 false (mo_ 0),[0,1,2,3],false,1,1⟩,
 ⟨gp_ 32 30 false (nc_ 31),[0,1,2,3,4],false,1,1⟩,
 ⟨gp_ 33 30 false (fa_ 0 32),(List.range 6),false,1,1⟩,
 ⟨gp_ 34 30 false (lf_ 1 33),(List.range 7),false,1,1⟩,
 ⟨gp_ 35 30 false (mo_ 0),[0,1,2,3],false,1,1⟩,
 ⟨gp_ 36 30 false (nc_ 35),[0,1,2,3,8],false,1,1⟩,
 ⟨gp_ 37 30 false (fa_ 1 36),[0,1,2,3,8,9],false,1,1⟩,
 ⟨gp_ 38 30 false (lf_ 1 37),[0,1,2,3,8,9,10],false,1,1⟩,
 ⟨gp_ 39 30 false (.idxs (.tmp 34) (.tmp 38)),(List.range 12),false,1,1⟩,
 ⟨gc_ 40 30 false 216 [(.tmp 39)],(List.range 13),true,0,0⟩,
 ⟨gp_ 41 30 false (no_ 40),(List.range 14),false,2,2⟩,
 ⟨pr_ 42 (po_ 30 41),(List.range 15),false,2,2⟩])
 (.cond (.tmp 42)
 (sq_ [mv_ 43 0,
 c1_ 44 217 43]
 (sq_ [pr_ 2 (mi_ .u8 0)]
 .ret))
 .skip))
 (sq_ [mv_ 45 0,
 pr_ 46 (nc_ 45),
 pr_ 47 (fa_ 1 46),
 pr_ 48 (lf_ 1 47),
 pr_ 49 (bk_ .add 48 .i64 1),
 pr_ 50 (nc_ 45),
 pr_ 51 (fa_ 1 50),
 st_ (so_ 1 51 49)]
 (.seq (.draw [⟨mv_ 52 0,[],false,0,0⟩,
 ⟨pr_ 53 (nc_ 52),[0],false,0,0⟩,
 ⟨pr_ 54 (fa_ 0 53),[0,1],false,0,0⟩,
 ⟨pr_ 55 (lf_ 1 54),[0,1,2],false,0,0⟩,
 ⟨mv_ 56 0,[],false,0,0⟩,
 ⟨pr_ 57 (nc_ 56),[4],false,0,0⟩,
 ⟨pr_ 58 (fa_ 1 57),[4,5],false,0,0⟩,
 ⟨pr_ 59 (lf_ 1 58),[4,5,6],false,0,0⟩,
 ⟨pr_ 60 (bk_ .sub 59 .i64 1),[4,5,6,7],false,0,0⟩,
 ⟨pr_ 61 (.idxs (.tmp 55) (.tmp 60)),(List.range 9),false,0,0⟩,
 ⟨mv_ 2 61,(List.range 10),false,0,0⟩])
 .ret)))
 .skip))
 (.seq (sq_ [mv_ 62 3,
 pr_ 63 (bk_ .eql 62 .u8 93),
 mv_ 64 63,
 gp_ 65 64 false (mo_ 3),
 gp_ 66 64 false (bk_ .eql 65 .u8 91),
 pr_ 67 (po_ 64 66),
 mv_ 68 67,
 gp_ 69 68 false (mo_ 3),
 gp_ 70 68 false (bk_ .eql 69 .u8 94),
 pr_ 71 (po_ 68 70),
 mv_ 72 71,
 gp_ 73 72 false (mo_ 3),
 gp_ 74 72 false (bk_ .eql 73 .u8 45),
 pr_ 75 (po_ 72 74)]
 (.cond (.tmp 75)
 (.ops [mv_ 76 0,
 c1_ 77 217 76])
 .skip))
 (sq_ [mv_ 78 3,
 mv_ 2 78]
 .ret)))))))
def o224:List Tmp:=[]
def r224:List RV:=[.tmp 2]
theorem t224:Text Tryz.prog 224 o224 c224 r224 79:=.mk_ Tryz.f224 rfl
end Go.Proofs.YtmkmhhjkdaklbaaGreat
