/- The small functions of the parser of patterns. No condition. -/
import Derived.Test.YteakobbdgehlgaaDoorVMRunV
import Derived.Test.YteakobbdgehlgaaDoorAbArgV
import GoSem.Extern.BytealgCompare
set_option linter.unusedSimpArgs false
set_option linter.unusedVariables false
set_option linter.unusedSectionVars false
set_option maxRecDepth 100000
set_option maxHeartbeats 8000000
namespace Go.Proofs.YteakobbdgehlgaaDoor
open Go Go.Ab
abbrev B8 (n:Int):AV:=.pl (.int .u8 n)
abbrev pob (s:ByteArray) (at_:Nat) (bad:Bool):Ob:=.box [Sx s,I at_,Bo bad]
def byteAt (s:ByteArray) (a:Nat):Nat:=(s.data.toList.getD a 0).toNat
theorem z0O (s:ByteArray) (a:Nat):(s.data.toList.getD a 0).toNat=byteAt s a:=rfl
theorem z8i (s:ByteArray) (a:Nat):byteAt s a<256:=(s.data.toList.getD a 0).toNat_lt
theorem z1J (a b:Nat):((a:Int)==(b:Int))=(a==b):=by
 rw[Bool.eq_iff_iff];simp only[beq_iff_eq];omega
theorem set_same {σ:St} {p:Nat} {o:Ob} (h:σ[p]?=some o):σ.set p o=σ:=by
 apply List.ext_getElem?;intro i;rw[List.getElem?_set];split
 · rename_i e;subst e;have:p<σ.length:=(List.getElem?_eq_some_iff.1 h).1;simp only[this,if_true,h]
 · rfl
theorem z3B {n:Nat} (h:n≤4294967296):IntKind.i64.wrap ((n:Int)+1)=((n+1:Nat):Int):=by
 simp only[IntKind.wrap,IntKind.bits,IntKind.signed];simp;omega
def over (s:ByteArray) (a:Nat) (bad:Bool):Bool:=bad||decide (s.size≤a)
def sees (s:ByteArray) (a:Nat) (bad:Bool) (c:Nat):Bool:=!over s a bad&&(byteAt s a==c)
def nextA (s:ByteArray) (a:Nat) (bad:Bool) (c:Nat):Nat:=if sees s a bad c then a+1 else a
def pbyte (s:ByteArray) (a:Nat) (bad:Bool):Nat×Nat×Bool:=if over s a bad then(0,a,true) else(byteAt s a,a+1,bad)
def signs:List Nat:=[124,42,43,63,40,41,91,93,46,92,94,45]
def within:List Nat:=[92,93,91,94,45]
def psign (s:ByteArray) (a:Nat) (bad:Bool):Nat×Nat×Bool :=
 ((pbyte s a bad).1,(pbyte s a bad).2.1,(pbyte s a bad).2.2|| !signs.contains (pbyte s a bad).1)
def z06 (s:ByteArray) (a:Nat) (bad:Bool):Nat×Nat×Bool :=
 if(pbyte s a bad).1==92 then psign s (pbyte s a bad).2.1 (pbyte s a bad).2.2
 else((pbyte s a bad).1,(pbyte s a bad).2.1,(pbyte s a bad).2.2||within.contains (pbyte s a bad).1)
theorem z41 {s:ByteArray} {a:Nat} {bad:Bool} (h:over s a bad=false):a<s.size:=by
 simp[over]at h;omega
theorem z2m (s:ByteArray) (a:Nat) (bad:Bool):(pbyte s a bad).1<256:=by
 unfold pbyte;split
 · show 0<256;decide
 · exact z8i s a
theorem z4t (s:ByteArray) (a:Nat) (bad:Bool):(z06 s a bad).1<256:=by
 unfold z06;split
 · exact z2m _ _ _
 · exact z2m _ _ _
section
variable (σ:St) (p:Nat) (s:ByteArray) (a:Nat) (bad:Bool)
theorem z2V (h:σ[p]?=some (pob s a bad)):Ans Tryd.prog 85 [.ptr p 0] σ (Bo (over s a bad)) σ:=by
 refine Ans.of_run t85 ?_;cases bad<;>simp -implicitDefEqProofs only[c85,r85,h,go_sem]
 · refine Fini.ret ?_;simp -implicitDefEqProofs only[go_sem,over,Bool.false_or,Int.ofNat_le];rfl
 · exact Fini.ret rfl
theorem z3C (c:Nat) (h:σ[p]?=some (pob s a bad)):Ans Tryd.prog 86 [.ptr p 0,B8 c] σ (Bo (sees s a bad c)) σ:=by
 refine Ans.of_run t86 ?_;simp -implicitDefEqProofs only[c86,r86,h,go_sem];refine CD.intro (z2V σ p s a bad h) ?_;cases hb:over s a bad
 · have hlt:=z41 hb;have h1:(a:Int)<s.size:=by omega
   simp -implicitDefEqProofs only[go_sem,h,h1,z0O];refine Fini.ret ?_;simp -implicitDefEqProofs only[go_sem,sees,hb,z1J];rfl
 · simp -implicitDefEqProofs only[go_sem,h];refine Fini.ret ?_;simp -implicitDefEqProofs only[go_sem,sees,hb,Bool.false_and];rfl
theorem z3D (c:Nat) (hs:bad=true∨s.size≤40) (h:σ[p]?=some (pob s a bad)):Ans Tryd.prog 83 [.ptr p 0,B8 c] σ (Bo (sees s a bad c)) (σ.set p (pob s (nextA s a bad c) bad)):=by
 refine Ans.of_run t83 ?_;simp -implicitDefEqProofs only[c83,r83,h,go_sem];refine CO.intro (z3C σ p s a bad c h) ?_;unfold nextA;cases hb:sees s a bad c
 · simp -implicitDefEqProofs only[go_sem];rw[set_same h];exact Fini.ret rfl
 · have hlt:a<s.size:=by
    simp[sees]at hb;exact z41 hb.1
   have hsz:s.size≤40:=by
    rcases hs with rfl|hs
    · simp[sees,over]at hb
    · exact hs
   simp -implicitDefEqProofs only[go_sem,h,z3B (show a≤4294967296 by omega)]
   exact Fini.ret rfl
theorem z4R (hs:bad=true∨s.size≤40) (h:σ[p]?=some (pob s a bad)):Ans Tryd.prog 89 [.ptr p 0] σ (B8 (pbyte s a bad).1) (σ.set p (pob s (pbyte s a bad).2.1 (pbyte s a bad).2.2)):=by
 refine Ans.of_run t89 ?_;simp -implicitDefEqProofs only[c89,r89,h,go_sem];refine CO.intro (z2V σ p s a bad h) ?_;unfold pbyte;cases hb:over s a bad
 · have hlt:=z41 hb
   have hsz:s.size≤40:=by
    rcases hs with rfl|hs
    · simp[over]at hb
    · exact hs
   have h1:(a:Int)<s.size:=by omega
   have h2:IntKind.i64.wrap (((a+1:Nat):Int)-1)=(a:Int):=by
    simp only[IntKind.wrap,IntKind.bits,IntKind.signed];simp;omega
   simp -implicitDefEqProofs only[go_sem,h,z0b h,z3B (show a≤4294967296 by omega),h1,h2,z0O]
   exact Fini.ret rfl
 · simp -implicitDefEqProofs only[go_sem,h,z0b h];exact Fini.ret rfl
theorem idx60 (t:ByteArray) (c:Nat):Ans Tryd.prog 97 [Sx t,B8 c] σ (I (firstIdx t c.toUInt8)) σ:=zca _ _ _ _ rfl
theorem z2F (t:ByteArray) (c:Nat):Ans Tryd.prog 94 [Sx t,B8 c] σ (I (firstIdx t c.toUInt8)) σ:=by
 have u0:Ans Tryd.prog 96 [Sx t,B8 c] σ (I (firstIdx t c.toUInt8)) σ:=by
  refine Ans.of_run t96 ?_;simp -implicitDefEqProofs only[c96,r96,go_sem];refine CO.intro (idx60 σ t c) ?_;simp -implicitDefEqProofs only[go_sem];exact Fini.ret rfl
 refine Ans.of_run t94 ?_;simp -implicitDefEqProofs only[c94,r94,go_sem];refine CO.intro u0 ?_;simp -implicitDefEqProofs only[go_sem];exact Fini.ret rfl
theorem z8j:∀c:Nat,c<256→decide (firstIdx (ByteArray.mk #[124,42,43,63,40,41,91,93,46,92,94,45]) c.toUInt8<0)= !signs.contains c:=by decide +kernel
theorem z7o:∀c:Nat,c<256→decide (0≤firstIdx (ByteArray.mk #[92,93,91,94,45]) c.toUInt8)=within.contains c:=by decide +kernel
def stray:List Nat:=[42,43,63,93]
theorem z8k:∀c:Nat,c<256→decide (0≤firstIdx (ByteArray.mk #[42,43,63,93]) c.toUInt8)=stray.contains c:=by decide +kernel
theorem z6H (hs:bad=true∨s.size≤40) (h:σ[p]?=some (pob s a bad)):Ans Tryd.prog 93 [.ptr p 0] σ (B8 (psign s a bad).1) (σ.set p (pob s (psign s a bad).2.1 (psign s a bad).2.2)):=by
 have hc:=z8j _ (z2m s a bad);unfold psign;refine Ans.of_run t93 ?_;simp -implicitDefEqProofs only[c93,r93,h,go_sem];refine CO.intro (z4R σ p s a bad hs h) ?_;generalize pbyte s a bad=q at hc⊢;obtain⟨c,a',b'⟩:=q;have hg:(σ.set p (pob s a' b'))[p]?=some (pob s a' b'):=z0b h _
 cases b' with
 |true =>
  simp -implicitDefEqProofs only[go_sem,hg,List.set_set];exact Fini.ret rfl
 |false =>
  simp -implicitDefEqProofs only[go_sem,hg];refine CO.intro (z2F _ _ c) ?_;simp -implicitDefEqProofs only[go_sem,hg,List.set_set];refine Fini.ret2 (n:=0) rfl rfl ?_;rw[hc];rfl
theorem z4u (hs:bad=true∨s.size≤40) (h:σ[p]?=some (pob s a bad)):Ans Tryd.prog 95 [.ptr p 0] σ (B8 (z06 s a bad).1) (σ.set p (pob s (z06 s a bad).2.1 (z06 s a bad).2.2)):=by
 have hc:=z7o _ (z2m s a bad)
 have y0:(pbyte s a bad).2.2=true∨s.size≤40:=by
  unfold pbyte;split
  · exact .inl rfl
  · exact hs
 unfold z06;refine Ans.of_run t95 ?_;simp -implicitDefEqProofs only[c95,r95,h,go_sem];refine CO.intro (z4R σ p s a bad hs h) ?_;generalize pbyte s a bad=q at hc y0⊢;obtain⟨c,a',b'⟩:=q;have hg:(σ.set p (pob s a' b'))[p]?=some (pob s a' b'):=z0b h _;have u0:((c:Int)==92)=(c==92):=z1J c 92
 cases h92:c==92 with
 |true =>
  simp -implicitDefEqProofs only[go_sem,u0,h92];refine CO.intro (z6H _ p s a' b' y0 hg) ?_;simp -implicitDefEqProofs only[go_sem,List.set_set];exact Fini.ret rfl
 |false =>
  simp -implicitDefEqProofs only[go_sem,u0,h92]
  cases b' with
  |true =>
   simp -implicitDefEqProofs only[go_sem,hg,List.set_set];exact Fini.ret rfl
  |false =>
   simp -implicitDefEqProofs only[go_sem,hg];refine CO.intro (z2F _ _ c) ?_;simp -implicitDefEqProofs only[go_sem,hg,List.set_set];refine Fini.ret2 (n:=0) rfl rfl ?_;rw[hc];rfl
end
def orU (v w:Int):Int:=IntKind.u64.wrap (BitVec.ofInt IntKind.u64.bits v ||| BitVec.ofInt IntKind.u64.bits w).toNat
def bitU (r:Nat):Int:=IntKind.u64.wrap (1*2^(min r IntKind.u64.bits))
def notU (v:Int):Int:=IntKind.u64.wrap (BitVec.ofInt IntKind.u64.bits (if IntKind.u64.signed then -1 else IntKind.u64.max) ^^^ BitVec.ofInt IntKind.u64.bits v).toNat
def z28 (S:List Int) (c:Nat):List Int:=S.set (c/64) (orU (S.getD (c/64) 0) (bitU (c%64)))
def addR (S:List Int) (f:Nat):Nat→List Int
 |0=>S
 |n+1=>z28 (addR S f n) (f+n)
theorem z7p (S:List Int) (c:Nat):(z28 S c).length=S.length:=by simp[z28]
theorem z2n (S:List Int) (f n:Nat):(addR S f n).length=S.length:=by
 induction n with
 |zero=>rfl
 |succ n ih=>rw[addR,z7p,ih]
theorem gA {σ:St} {p:Nat} (hp:p<σ.length) (o:Ob) (ex:St):(σ.set p o++ex)[p]?=some o:=by
 rw[List.getElem?_append_left (by simpa using hp)];simp[hp]
theorem sA {σ:St} {p:Nat} (hp:p<σ.length) (o o':Ob) (ex:St):(σ.set p o++ex).set p o'=σ.set p o'++ex:=by
 rw[List.set_append_left _ _ (by simpa using hp),List.set_set]
theorem gL0 (σ:St) (p:Nat) (o x:Ob) (ex:St):(σ.set p o++x::ex)[σ.length]?=some x:=by
 rw[List.getElem?_append_right (by simp)];simp
theorem sL0 (σ:St) (p:Nat) (o x y:Ob) (ex:St):(σ.set p o++x::ex).set σ.length y=σ.set p o++y::ex:=by
 rw[List.set_append_right _ _ (by simp)];simp
theorem gL1 (σ:St) (p:Nat) (o x y:Ob) (ex:St):(σ.set p o++x::y::ex)[σ.length+1]?=some y:=by
 rw[List.getElem?_append_right (by simp)];simp
theorem sL1 (σ:St) (p:Nat) (o x y z:Ob) (ex:St):(σ.set p o++x::y::ex).set (σ.length+1) z=σ.set p o++x::z::ex:=by
 rw[List.set_append_right _ _ (by simp)];simp
theorem Fini.normal2 {n m:Nat} {rvs:List RV} {r r':AV} {σ σ':St} {env:Env} (h:resA env σ rvs=some r') (e:r'=r) (e':σ=σ'):Fini m rvs r σ' .normal env σ:=by
 subst e;subst e';exact Fini.normal h
section
variable (σ:St)
theorem z2G (l off:Nat) (cs:List AV) (c:Nat) (v:Int) (h:σ[l]?=some (.box cs)) (hv:cs[off+c/64]?=some (U v)) (hc:c<256) :
  Ans Tryd.prog 92 [.ptr l off,B8 c] σ (.tup []) (σ.set l (.box (cs.set (off+c/64) (U (orU v (bitU (c%64))))))):=by
 have hk:off+c/64<cs.length:=(List.getElem?_eq_some_iff.1 hv).1
 have e1:IntKind.u8.wrap ((c:Int).tdiv 64)=((c/64:Nat):Int):=by
  rw[show(c:Int).tdiv 64=((c/64:Nat):Int) from rfl]
  simp only[IntKind.wrap,IntKind.bits,IntKind.signed];simp;omega
 have e2:(c:Int).tmod 64=((c%64:Nat):Int):=rfl;have e3:((64:Int)=0)=False:=by simp
 have e4:(((c/64:Nat):Int)<(4:Nat))=True:=by simp;omega
 have e5:cs.drop (off+c/64)=U v::cs.drop (off+c/64+1):=by
  rw[List.drop_eq_getElem_cons hk];have:=(List.getElem?_eq_some_iff.1 hv).2;rw[this]
 have e6:(off+c/64+1≤cs.length)=True:=by simp;omega
 have e7:(1≤(cs.drop (off+c/64+1)).length+1)=True:=by simp
 refine Ans.of_run t92 ?_;simp -implicitDefEqProofs only[c92,r92,go_sem,e1,e2,e3,e4,Nat.mul_one,h,e5,e6,e7,List.drop_succ_cons]
 have u0:cs.set (off+c/64) (U (orU v (bitU (c%64))))=cs.take (off+c/64)++[U (orU v (bitU (c%64)))]++cs.drop (off+c/64+1):=by
  rw[List.set_eq_take_append_cons_drop,if_pos hk];simp
 rw[u0];exact Fini.normal2 (n:=0) rfl rfl rfl
def turnS (S:List Int):List Int:=S.map notU
theorem z3h (a b c d:Int):Ans Tryd.prog 91 [.agg [U a,U b,U c,U d]] σ (.agg [U (notU a),U (notU b),U (notU c),U (notU d)]) σ:=by
 have k0:∀(x y:Ob),(σ++[x,y])[σ.length]?=some x:=fun x y=>by rw[List.getElem?_append_right (by simp)];simp
 have k1:∀(x y:Ob),(σ++[x,y])[σ.length+1]?=some y:=fun x y=>by rw[List.getElem?_append_right (by simp)];simp
 have s0:∀(x y z:Ob),(σ++[x,y]).set σ.length z=σ++[z,y]:=fun x y z=>by rw[List.set_append_right _ _ (by simp)];simp
 have s1:∀(x y z:Ob),(σ++[x,y]).set (σ.length+1) z=σ++[x,z]:=fun x y z=>by rw[List.set_append_right _ _ (by simp)];simp
 have q1:IntKind.i64.wrap (0+1)=1:=by decide
 have q2:IntKind.i64.wrap (1+1)=2:=by decide
 have q3:IntKind.i64.wrap (2+1)=3:=by decide
 have q4:IntKind.i64.wrap (3+1)=4:=by decide
 have q5:IntKind.i64.wrap 1=1:=by decide
 have q6:IntKind.i64.wrap 2=2:=by decide
 have q7:IntKind.i64.wrap 3=3:=by decide
 have q8:IntKind.i64.wrap 4=4:=by decide
 have n1:Int.toNat 1=1:=rfl;have n2:Int.toNat 2=2:=rfl;have n3:Int.toNat 3=3:=rfl;have c4:((4:Nat):Int)=4:=rfl;refine Ans.of_run' t91 (fun u0 _=>?_)
 simp -implicitDefEqProofs only[c91,r91,go_sem,List.append_assoc,List.length_append]
 refine L.count 4 (fun i=>mkE 15 [(1,.ptr σ.length 0),(2,.ptr (σ.length+1) 0),(4,I i)])
  (fun i=>σ++[.box (match i with|0=>[U a,U b,U c,U d]|1=>[U (notU a),U b,U c,U d]|2=>[U (notU a),U (notU b),U c,U d]|3=>[U (notU a),U (notU b),U (notU c),U d]|_=>[U (notU a),U (notU b),U (notU c),U (notU d)]),.box [U 0,U 0,U 0,U 0]]) ?_ ?_ rfl rfl
 · intro i hi Q hQ
   match i,hi,hQ with
   |0,_,hQ =>
    simp -implicitDefEqProofs only[mkE,go_sem,k0,k1,s0,s1,q1,q2,q3,q4,q5,q6,q7,q8,n1,n2,n3,c4,Int.toNat_zero,Int.cast_ofNat_Int,Int.natCast_one,Int.natCast_zero];exact hQ
   |1,_,hQ =>
    simp -implicitDefEqProofs only[mkE,go_sem,k0,k1,s0,s1,q1,q2,q3,q4,q5,q6,q7,q8,n1,n2,n3,c4,Int.toNat_zero,Int.cast_ofNat_Int,Int.natCast_one,Int.natCast_zero];exact hQ
   |2,_,hQ =>
    simp -implicitDefEqProofs only[mkE,go_sem,k0,k1,s0,s1,q1,q2,q3,q4,q5,q6,q7,q8,n1,n2,n3,c4,Int.toNat_zero,Int.cast_ofNat_Int,Int.natCast_one,Int.natCast_zero];exact hQ
   |3,_,hQ =>
    simp -implicitDefEqProofs only[mkE,go_sem,k0,k1,s0,s1,q1,q2,q3,q4,q5,q6,q7,q8,n1,n2,n3,c4,Int.toNat_zero,Int.cast_ofNat_Int,Int.natCast_one,Int.natCast_zero];exact hQ
 · intro Q;simp -implicitDefEqProofs only[mkE,go_sem,k0,k1,s0,s1,c4,Int.cast_ofNat_Int];refine Fini.trim2 (σ':=σ) (ex:=[.box [U (notU a),U (notU b),U (notU c),U (notU d)],.box [U (notU a),U (notU b),U (notU c),U (notU d)]]) ?_ rfl (Nat.le_refl _) ?_ u0
   · simp -implicitDefEqProofs only[go_sem,resA,z04,rvA,oneOf,k1]
   · refine .agg _ fun i hi=>?_
     have:∀y∈[U (notU a),U (notU b),U (notU c),U (notU d)],Bel σ.length y:=by
      intro y hy;simp only[List.mem_cons,List.not_mem_nil,or_false]at hy;rcases hy with rfl|rfl|rfl|rfl<;>exact .pl _
     exact this _ (List.getElem_mem hi)
end
def fuel:Nat:=2^64+1
def tstU (v:Int) (r:Nat):Bool:=IntKind.u64.wrap (BitVec.ofInt IntKind.u64.bits (v.fdiv (2^(min ((r:Int)).toNat IntKind.u64.bits))) &&& BitVec.ofInt IntKind.u64.bits 1).toNat==1
def setU (s:Stp) (k:Nat):Int:=[s.a,s.b,s.c,s.d].getD k 0
def z42 (s:Stp) (c:Nat):Bool:=s.op==1&&tstU (setU s (c/64)) (c%64)
def stpAt (ys:List Stp) (i:Nat):Stp:=ys.getD i ⟨0,0,0,0,0,0,0⟩
def cGo (s:ByteArray) (a:Nat) (b first:Bool):Bool:=first||(!over s a b&& !sees s a b 93)
def cTo (s:ByteArray) (a:Nat) (b:Bool):Nat×Nat×Bool :=
 if sees s (z06 s a b).2.1 (z06 s a b).2.2 45 then z06 s ((z06 s a b).2.1+1) (z06 s a b).2.2 else z06 s a b
def cBad (s:ByteArray) (a:Nat) (b:Bool):Bool:=(cTo s a b).2.2||decide ((cTo s a b).1<(z06 s a b).1)
def z1V (s:ByteArray):Nat→List Int→Nat→Bool→Bool→List Int×Nat×Bool
 |0,S,a,b,_=>(S,a,b)
 |n+1,S,a,b,first=>if cGo s a b first then
   z1V s n (addR S (z06 s a b).1 ((cTo s a b).1+1-(z06 s a b).1)) (cTo s a b).2.1 (cBad s a b) false
  else(S,a,b)
def cMeas (s:ByteArray) (a:Nat) (b first:Bool):Nat:=(s.size-a)+(if b then 0 else 1)+(if first then 1 else 0)
theorem z3E (s:ByteArray) (a:Nat) (b:Bool):a≤(pbyte s a b).2.1:=by
 unfold pbyte;split
 · exact Nat.le_refl _
 · exact Nat.le_succ _
theorem z2W (s:ByteArray) (a:Nat):(pbyte s a true)=(0,a,true):=by simp[pbyte,over]
theorem z7q (s:ByteArray) (a:Nat) (b:Bool) (h:b=false):(s.size-(pbyte s a b).2.1)+(if(pbyte s a b).2.2 then 0 else 1)+1≤(s.size-a)+1:=by
 subst h;unfold pbyte;split
 · simp
 · rename_i h;have:a<s.size:=z41 (by simpa using h)
   simp;omega
theorem z2X (s:ByteArray) (a:Nat) (b:Bool):a≤(psign s a b).2.1:=z3E s a b
theorem z4v (s:ByteArray) (a:Nat) (b:Bool):a≤(z06 s a b).2.1:=by
 unfold z06;split
 · exact Nat.le_trans (z3E s a b) (z2X _ _ _)
 · exact z3E s a b
theorem z4w (s:ByteArray) (a:Nat):(psign s a true).2.2=true:=by simp[psign,z2W]
theorem z2c (s:ByteArray) (a:Nat):z06 s a true=(0,a,true):=by simp[z06,z2W]
theorem z5q (s:ByteArray) (a:Nat) (b:Bool) (h:b=false):(s.size-(z06 s a b).2.1)+(if(z06 s a b).2.2 then 0 else 1)+1≤(s.size-a)+1:=by
 have h1:=z7q s a b h;unfold z06;split
 · have h2:=z2X s (pbyte s a b).2.1 (pbyte s a b).2.2
   cases hb:(pbyte s a b).2.2 with
   |true =>
    rw[hb]at h1 h2;rw[z4w];simp at h1⊢;omega
   |false =>
    rw[hb]at h1 h2;simp at h1;split<;>omega
 · cases hb:(pbyte s a b).2.2 with
   |true=>rw[hb]at h1;simp at h1⊢;omega
   |false =>
    rw[hb]at h1;simp only[Bool.false_or,Bool.false_eq_true,if_false]at h1⊢;split<;>omega
theorem zaw (s:ByteArray) (a:Nat) (b:Bool):(z06 s a b).2.1≤(cTo s a b).2.1:=by
 unfold cTo;split
 · exact Nat.le_trans (Nat.le_succ _) (z4v _ _ _)
 · exact Nat.le_refl _
theorem z9y (s:ByteArray) (a:Nat) (b:Bool) (h:(z06 s a b).2.2=true):(cTo s a b).2.2=true:=by
 unfold cTo;split
 · rw[h,z2c]
 · exact h
theorem z6I (s:ByteArray) (a:Nat):cTo s a true=(0,a,true):=by
 unfold cTo;rw[z2c];simp[sees,over]
theorem z43 (s:ByteArray) (a:Nat):cBad s a true=true:=by simp[cBad,z6I]
theorem zcb (s:ByteArray) (a:Nat) (b:Bool):(cTo s a b).1<256:=by
 unfold cTo;split<;>exact z4t _ _ _
theorem z9z (s:ByteArray) (a:Nat) (b first:Bool) (h:cGo s a b first=true):cMeas s (cTo s a b).2.1 (cBad s a b) false<cMeas s a b first:=by
 unfold cMeas
 cases b with
 |true =>
  rw[z43,z6I]
  cases first with
  |true=>simp
  |false=>simp[cGo,over]at h
 |false =>
  have h1:=z5q s a false rfl;have h2:=zaw s a false
  have h3:(if cBad s a false then 0 else 1)≤(if(z06 s a false).2.2 then 0 else 1):=by
   cases hm:(z06 s a false).2.2 with
   |true=>simp[cBad,z9y s a false hm]
   |false=>split<;>simp
  have h0:(if(false:Bool)=true then 0 else 1)=1:=rfl
  have y0:(if(false:Bool)=true then 1 else 0)=0:=rfl
  cases first with
  |true =>
   have h5:(if(true:Bool)=true then 1 else 0)=1:=rfl
   rw[h0,y0,h5];omega
  |false =>
   have u0:over s a false=false:=by simp[cGo]at h;exact h.1
   have hlt:=z41 u0
   have hp:a+1≤(z06 s a false).2.1:=by
    have:(pbyte s a false).2.1=a+1:=by simp[pbyte,u0]
    unfold z06;split
    · exact Nat.le_trans (by omega) (z2X _ _ _)
    · show a+1≤(pbyte s a false).2.1;omega
   have h4:(if cBad s a false then 0 else 1)≤1:=by split<;>omega
   rw[h0,y0];omega
def z1W (s:ByteArray) (a:Nat) (b:Bool):List Int×Nat×Bool :=
 let l:=z1V s (s.size+3) [0,0,0,0] (nextA s a b 94) b true
 ((if sees s a b 94 then turnS l.1 else l.1),nextA s l.2.1 l.2.2 93,!sees s l.2.1 l.2.2 93||l.2.2)
theorem z3i (s:ByteArray):∀(n:Nat) (S:List Int) (a:Nat) (b first:Bool),(z1V s n S a b first).1.length=S.length
 |0,S,a,b,first=>rfl
 |n+1,S,a,b,first=>by
  rw[z1V];split
  · rw[z3i s n,z2n]
  · rfl
theorem z7r {s:ByteArray} {a:Nat} {b:Bool} (h:b=true∨s.size≤40):(z06 s a b).2.2=true∨s.size≤40:=by
 rcases h with rfl|h
 · exact .inl (by rw[z2c])
 · exact .inr h
theorem z8l {s:ByteArray} {a:Nat} {b:Bool} (h:b=true∨s.size≤40):cBad s a b=true∨s.size≤40:=by
 rcases h with rfl|h
 · exact .inl (z43 s a)
 · exact .inr h
theorem z5r (s:ByteArray):∀(n:Nat) (S:List Int) (a:Nat) (b first:Bool),(b=true∨s.size≤40)→((z1V s n S a b first).2.2=true∨s.size≤40)
 |0,S,a,b,first,h=>h
 |n+1,S,a,b,first,h=>by
  rw[z1V];split
  · exact z5r s n _ _ _ _ (z8l h)
  · exact h
theorem zbk (n:Nat) (s:ByteArray) (a:Nat) (b:Bool):BelO n (pob s a b):=by
 intro x hx;simp only[List.mem_cons,List.not_mem_nil,or_false]at hx;rcases hx with rfl|rfl|rfl<;>exact .pl _
theorem z3F (n:Nat) (S:List Int):Bel n (.agg (S.map U)):=by
 refine .agg _ fun i hi=>?_
 have:∀y∈S.map U,Bel n y:=by
  intro y hy;simp only[List.mem_map]at hy;obtain⟨v,_,rfl⟩:=hy;exact .pl _
 exact this _ (List.getElem_mem hi)
theorem z3m {σ:St} {p:Nat} {s:ByteArray} {a:Nat} {b:Bool} (h:∀o∈σ.set p (pob s a b),BelO (σ.set p (pob s a b)).length o) (a':Nat) (b':Bool) :
  ∀o∈σ.set p (pob s a' b'),BelO (σ.set p (pob s a' b')).length o:=by
 have e:σ.set p (pob s a' b')=(σ.set p (pob s a b)).set p (pob s a' b'):=by rw[List.set_set]
 have el:(σ.set p (pob s a' b')).length=(σ.set p (pob s a b)).length:=by simp
 rw[el,e];exact z1q h (zbk _ _ _ _)
theorem z69 (s:ByteArray) (a:Nat) (b:Bool):cMeas s a b true<s.size+3:=by
 unfold cMeas;have h0:(if b=true then 0 else 1)≤1:=by split<;>omega
 have h1:(if(true:Bool)=true then 1 else 0)=1:=rfl
 rw[h1];omega
theorem z2o (S:List Int) (c:Nat):(S.map U).set (0+c/64) (U (orU (S.getD (c/64) 0) (bitU (c%64))))=(z28 S c).map U:=by
 rw[Nat.zero_add,z28,List.map_set]
theorem z4S {S:List Int} (h:S.length=4) {c:Nat} (hc:c<256):(S.map U)[0+c/64]?=some (U (S.getD (c/64) 0)):=by
 have hk:c/64<S.length:=by omega
 rw[Nat.zero_add,List.getElem?_map,List.getElem?_eq_getElem hk];simp[List.getD,hk]
theorem wrap8 {n:Nat} (h:n<256):IntKind.u8.wrap (n:Int)=n:=by
 simp only[IntKind.wrap,IntKind.bits,IntKind.signed];simp;omega
theorem wrap64 {n:Nat} (h:n<100000):IntKind.i64.wrap (n:Int)=n:=by
 simp only[IntKind.wrap,IntKind.bits,IntKind.signed];simp;omega
theorem four {S:List Int} (h:S.length=4):∃a b c d,S=[a,b,c,d]:=by
 match S,h with
 |[a,b,c,d],_=>exact⟨a,b,c,d,rfl⟩
theorem z8m (σ:St) (p:Nat) (s:ByteArray) (a:Nat) (b:Bool) (hp:p<σ.length) (hs:b=true∨s.size≤40) :
  Ans Tryd.prog 90 [.ptr p 0] (σ.set p (pob s a b)) (.agg ((z1W s a b).1.map U)) (σ.set p (pob s (z1W s a b).2.1 (z1W s a b).2.2)):=by
 refine Ans.of_run' t90 (fun j0 _=>?_)
 have hlen:(σ.set p (pob s a b)).length=σ.length:=by simp
 simp -implicitDefEqProofs only[c90,r90,go_sem,List.append_assoc,List.length_append,List.length_set];refine CO.intro (z3D _ p s a b 94 hs (gA hp _ _)) ?_;simp -implicitDefEqProofs only[go_sem,sA hp];unfold z1W;have y1:cMeas s (nextA s a b 94) b true<s.size+3:=z69 _ _ _;have k1:(z1V s (s.size+3) [0,0,0,0] (nextA s a b 94) b true).1.length=4:=z3i _ _ _ _ _ _;have n1:=z5r s (s.size+3) [0,0,0,0] (nextA s a b 94) b true hs;generalize f0:z1V s (s.size+3) [0,0,0,0] (nextA s a b 94) b true=res at k1 n1⊢;generalize sees s a b 94=none
 refine L.intro (α:={ x:Nat×List Int×Nat×Bool×Bool // z1V s x.1 x.2.1 x.2.2.1 x.2.2.2.1 x.2.2.2.2=res∧cMeas s x.2.2.1 x.2.2.2.1 x.2.2.2.2<x.1∧x.2.1.length=4∧(x.2.2.2.1=true∨s.size≤40) })
  (fun x=>x.1.1)
  (fun x=>mkE 68 [(0,.ptr p 0),(2,.ptr σ.length 0),(3,.ptr (σ.length+1) 0),(4,Bo none),(5,Bo x.1.2.2.2.2)])
  (fun x=>σ.set p (pob s x.1.2.2.1 x.1.2.2.2.1)++[.box [U 0,U 0,U 0,U 0],.box (x.1.2.1.map U)])
  (fun x J hJ=>?_) ⟨(s.size+3,[0,0,0,0],nextA s a b 94,b,true),f0,y1,rfl,hs⟩ ?_ ?_
 · obtain⟨⟨n,S,a1,b1,first⟩,h1,h2,h3,h4⟩:=x;simp only at h1 h2 h3 h4 hJ⊢
   cases n with
   |zero=>omega
   |succ n =>
   rw[z1V]at h1
   cases hgo:cGo s a1 b1 first with
   |false =>
    rw[hgo]at h1;simp only[Bool.false_eq_true,if_false]at h1;subst h1;have hf:first=false:=by cases first<;>simp[cGo]at hgo⊢
    subst hf;have l0:∀ex,Ans Tryd.prog 85 [.ptr p 0] (σ.set p (pob s a1 b1)++ex) (Bo (over s a1 b1)) (σ.set p (pob s a1 b1)++ex):=fun ex=>z2V _ p s a1 b1 (gA hp _ _)
    have o0:∀ex,Ans Tryd.prog 86 [.ptr p 0,B8 (93:Nat)] (σ.set p (pob s a1 b1)++ex) (Bo (sees s a1 b1 93)) (σ.set p (pob s a1 b1)++ex):=fun ex=>z3C _ p s a1 b1 93 (gA hp _ _)
    have q1:∀J:Prop,J→J:=fun _ h=>h
    obtain⟨x0,x1,x2,x3,rfl⟩:=four h3
    have t0:∀(c:Nat),Ans Tryd.prog 83 [.ptr p 0,B8 c] (σ.set p (pob s a1 b1)++[.box [U 0,U 0,U 0,U 0],.box [U x0,U x1,U x2,U x3]]) (Bo (sees s a1 b1 c)) (σ.set p (pob s (nextA s a1 b1 c) b1)++[.box [U 0,U 0,U 0,U 0],.box [U x0,U x1,U x2,U x3]]):=fun c=>by
     have:=z3D (σ.set p (pob s a1 b1)++[.box [U 0,U 0,U 0,U 0],.box [U x0,U x1,U x2,U x3]]) p s a1 b1 c h4 (gA hp _ _)
     rwa [sA hp]at this
    cases ho:over s a1 b1 with
    |true =>
     have y0:sees s a1 b1 93=false:=by simp[sees,ho]
     simp -implicitDefEqProofs only[mkE,go_sem];refine CO.intro (l0 _) ?_;simp -implicitDefEqProofs only[go_sem,ho];refine CO.intro (t0 93) ?_;cases none
     · simp -implicitDefEqProofs only[go_sem,y0,sA hp,gA hp,gL0,sL0,gL1,sL1,nextA];refine Fini.trim2 (σ':=σ.set p (pob s a1 true)) (ex:=[.box [U x0,U x1,U x2,U x3],.box [U x0,U x1,U x2,U x3]]) ?_ rfl ?_ (z3F _ [x0,x1,x2,x3]) ?_
       · simp -implicitDefEqProofs only[go_sem,resA,z04,rvA,oneOf,gL0]
       · simp
       · exact z3m j0 _ _
     · simp -implicitDefEqProofs only[go_sem,y0,sA hp,gA hp,gL0,sL0,gL1,sL1,nextA];refine CO.intro (z3h _ x0 x1 x2 x3) ?_;simp -implicitDefEqProofs only[go_sem,sA hp,gA hp,gL0,sL0,gL1,sL1,turnS];refine Fini.trim2 (σ':=σ.set p (pob s a1 true)) (ex:=[.box [U (notU x0),U (notU x1),U (notU x2),U (notU x3)],.box [U x0,U x1,U x2,U x3]]) ?_ rfl ?_ (z3F _ [notU x0,notU x1,notU x2,notU x3]) ?_
       · simp -implicitDefEqProofs only[go_sem,resA,z04,rvA,oneOf,gL0]
       · simp
       · exact z3m j0 _ _
    |false =>
     have y0:sees s a1 b1 93=true:=by simpa[cGo,ho] using hgo
     simp -implicitDefEqProofs only[mkE,go_sem];refine CO.intro (l0 _) ?_;simp -implicitDefEqProofs only[go_sem,ho];refine CO.intro (o0 _) ?_;simp -implicitDefEqProofs only[go_sem,y0];refine CO.intro (t0 93) ?_;cases none
     · simp -implicitDefEqProofs only[go_sem,y0,sA hp,gA hp,gL0,sL0,gL1,sL1,nextA];refine Fini.trim2 (σ':=σ.set p (pob s (a1+1) b1)) (ex:=[.box [U x0,U x1,U x2,U x3],.box [U x0,U x1,U x2,U x3]]) ?_ rfl ?_ (z3F _ [x0,x1,x2,x3]) ?_
       · simp -implicitDefEqProofs only[go_sem,resA,z04,rvA,oneOf,gL0]
       · simp
       · exact z3m j0 _ _
     · simp -implicitDefEqProofs only[go_sem,y0,sA hp,gA hp,gL0,sL0,gL1,sL1,nextA];refine CO.intro (z3h _ x0 x1 x2 x3) ?_;simp -implicitDefEqProofs only[go_sem,sA hp,gA hp,gL0,sL0,gL1,sL1,turnS];refine Fini.trim2 (σ':=σ.set p (pob s (a1+1) b1)) (ex:=[.box [U (notU x0),U (notU x1),U (notU x2),U (notU x3)],.box [U x0,U x1,U x2,U x3]]) ?_ rfl ?_ (z3F _ [notU x0,notU x1,notU x2,notU x3]) ?_
       · simp -implicitDefEqProofs only[go_sem,resA,z04,rvA,oneOf,gL0]
       · simp
       · exact z3m j0 _ _
   |true =>
    rw[hgo,if_pos rfl]at h1;have h5:=z9z s a1 b1 first hgo;have h0:cMeas s (cTo s a1 b1).2.1 (cBad s a1 b1) false<n:=by omega
    have d0:(addR S (z06 s a1 b1).1 ((cTo s a1 b1).1+1-(z06 s a1 b1).1)).length=4:=by rw[z2n];exact h3
    have u0:=hJ ⟨(n,addR S (z06 s a1 b1).1 ((cTo s a1 b1).1+1-(z06 s a1 b1).1),(cTo s a1 b1).2.1,cBad s a1 b1,false),h1,h0,d0,z8l h4⟩ (Nat.lt_succ_self n);simp only at u0;have u1:=z4t s a1 b1;have k0:=zcb s a1 b1;have e0:=z7r (a:=a1) h4;clear hJ h1 h2 h5
    have n0:∀ex,Ans Tryd.prog 95 [.ptr p 0] (σ.set p (pob s a1 b1)++ex) (B8 (z06 s a1 b1).1) (σ.set p (pob s (z06 s a1 b1).2.1 (z06 s a1 b1).2.2)++ex):=fun ex=>by
     have:=z4u (σ.set p (pob s a1 b1)++ex) p s a1 b1 h4 (gA hp _ _)
     rwa [sA hp]at this
    have r0:∀(a:Nat) (b:Bool) (c:Nat) ex,(b=true∨s.size≤40)→Ans Tryd.prog 83 [.ptr p 0,B8 c] (σ.set p (pob s a b)++ex) (Bo (sees s a b c)) (σ.set p (pob s (nextA s a b c) b)++ex):=fun a b c ex h=>by
     have:=z3D (σ.set p (pob s a b)++ex) p s a b c h (gA hp _ _)
     rwa [sA hp]at this
    have m1:∀(f t aT:Nat) (bT:Bool) (Q:Env→St→Prop),True:=fun _ _ _ _ _=>trivial
    cases first
    all_goals first
    |(simp -implicitDefEqProofs only[mkE,go_sem]
      refine CO.intro (n0 _) ?_
      simp -implicitDefEqProofs only[go_sem])
    |(have ho:over s a1 b1=false:=by simp[cGo]at hgo;exact hgo.1
      have y0:sees s a1 b1 93=false:=by simp[cGo]at hgo;exact hgo.2
      simp -implicitDefEqProofs only[mkE,go_sem];refine CO.intro (z2V _ p s a1 b1 (gA hp _ _)) ?_;simp -implicitDefEqProofs only[go_sem,ho];refine CO.intro (z3C _ p s a1 b1 93 (gA hp _ _)) ?_;simp -implicitDefEqProofs only[go_sem,y0];refine CO.intro (n0 _) ?_
      simp -implicitDefEqProofs only[go_sem])
    all_goals (
     clear hgo n0;refine CO.intro (r0 _ _ 45 _ e0) ?_;have q0:cTo s a1 b1=if sees s (z06 s a1 b1).2.1 (z06 s a1 b1).2.2 45 then z06 s ((z06 s a1 b1).2.1+1) (z06 s a1 b1).2.2 else z06 s a1 b1:=rfl
     have j1:cBad s a1 b1=((cTo s a1 b1).2.2||decide ((cTo s a1 b1).1<(z06 s a1 b1).1)):=rfl;have t0:nextA s (z06 s a1 b1).2.1 (z06 s a1 b1).2.2 45=if sees s (z06 s a1 b1).2.1 (z06 s a1 b1).2.2 45 then(z06 s a1 b1).2.1+1 else(z06 s a1 b1).2.1:=rfl
     rw[t0];rw[j1]at u0;generalize z06 s a1 b1=m at *;obtain⟨f,am,bm⟩:=m;simp only at u1 e0 q0 u0⊢
     have m0:∀ex,Ans Tryd.prog 95 [.ptr p 0] (σ.set p (pob s (am+1) bm)++ex) (B8 (z06 s (am+1) bm).1) (σ.set p (pob s (z06 s (am+1) bm).2.1 (z06 s (am+1) bm).2.2)++ex):=fun ex=>by
      have:=z4u (σ.set p (pob s (am+1) bm)++ex) p s (am+1) bm e0 (gA hp _ _)
      rwa [sA hp]at this
     cases hsee:sees s am bm 45)
    all_goals (
     first
     |(rw[hsee,if_pos rfl]at q0
       simp -implicitDefEqProofs only[go_sem];refine CO.intro (m0 _) ?_;rw[←q0]
       simp -implicitDefEqProofs only[go_sem])
     |(rw[hsee,if_neg Bool.false_ne_true]at q0
       simp -implicitDefEqProofs only[go_sem]))
    all_goals (
     clear m0 t0
     first|rw[←q0]|rw[show((f,am,bm):Nat×Nat×Bool)=cTo s a1 b1 from q0.symm]|skip)
    · rw[q0]at k0 u0;clear q0;simp only at k0 u0;have d1:decide ((f:Int)<(f:Int))=decide (f<f):=by rw[Bool.eq_iff_iff];simp
      have d2:IntKind.i64.wrap (f:Int)=(f:Int):=wrap64 (by omega)
      have d3:IntKind.i64.wrap (f:Int)=(f:Int):=wrap64 (by omega)
      cases bm
      all_goals (
       simp -implicitDefEqProofs only[go_sem,gA hp,sA hp,d1,d2,Bool.true_or,Bool.false_or]at u0⊢
       refine L.count (f+1-f) (fun i=>mkE 68 [(0,.ptr p 0),(2,.ptr σ.length 0),(3,.ptr (σ.length+1) 0),(4,Bo none),(7,B8 f),(8,I ((f+i:Nat):Int))])
        (fun i=>σ.set p (pob s am _)++[.box [U 0,U 0,U 0,U 0],.box ((addR S f i).map U)]) ?_ ?_ rfl rfl
       · intro i hi Q hQ;have c1:(((f+i:Nat):Int)≤(f:Int))=True:=by simp;omega
         have c2:IntKind.u8.wrap ((f+i:Nat):Int)=((f+i:Nat):Int):=wrap8 (by omega)
         have c3:IntKind.i64.wrap (((f+i:Nat):Int)+1)=((f+(i+1):Nat):Int):=by rw[wrapN (by omega) (by omega)];omega
         simp -implicitDefEqProofs only[mkE,go_sem,d3,c1,c2,c3];refine CO.intro (z2G _ (σ.length+1) 0 ((addR S f i).map U) (f+i) _ (gL1 _ _ _ _ _ _) (z4S (by rw[z2n];exact h3) (by omega)) (by omega)) ?_
         rw[sL1,z2o];simp -implicitDefEqProofs only[go_sem,c3];exact hQ
       · intro Q;have c1:(((f+(f+1-f):Nat):Int)≤(f:Int))=False:=by simp;omega
         simp -implicitDefEqProofs only[mkE,go_sem,d3,c1]
         exact u0)
    · clear q0;generalize cTo s a1 b1=q at k0 u0 h0 d0⊢;obtain⟨t,aT,bT⟩:=q;simp only at k0 u0⊢;have d1:decide ((t:Int)<(f:Int))=decide (t<f):=by rw[Bool.eq_iff_iff];simp
      have d2:IntKind.i64.wrap (f:Int)=(f:Int):=wrap64 (by omega)
      have d3:IntKind.i64.wrap (t:Int)=(t:Int):=wrap64 (by omega)
      cases bT
      all_goals (
       simp -implicitDefEqProofs only[go_sem,gA hp,sA hp,d1,d2,Bool.true_or,Bool.false_or]at u0⊢
       refine L.count (t+1-f) (fun i=>mkE 68 [(0,.ptr p 0),(2,.ptr σ.length 0),(3,.ptr (σ.length+1) 0),(4,Bo none),(7,B8 t),(8,I ((f+i:Nat):Int))])
        (fun i=>σ.set p (pob s aT _)++[.box [U 0,U 0,U 0,U 0],.box ((addR S f i).map U)]) ?_ ?_ rfl rfl
       · intro i hi Q hQ;have c1:(((f+i:Nat):Int)≤(t:Int))=True:=by simp;omega
         have c2:IntKind.u8.wrap ((f+i:Nat):Int)=((f+i:Nat):Int):=wrap8 (by omega)
         have c3:IntKind.i64.wrap (((f+i:Nat):Int)+1)=((f+(i+1):Nat):Int):=by rw[wrapN (by omega) (by omega)];omega
         simp -implicitDefEqProofs only[mkE,go_sem,d3,c1,c2,c3];refine CO.intro (z2G _ (σ.length+1) 0 ((addR S f i).map U) (f+i) _ (gL1 _ _ _ _ _ _) (z4S (by rw[z2n];exact h3) (by omega)) (by omega)) ?_
         rw[sL1,z2o];simp -implicitDefEqProofs only[go_sem,c3];exact hQ
       · intro Q;have c1:(((f+(t+1-f):Nat):Int)≤(t:Int))=False:=by simp;omega
         simp -implicitDefEqProofs only[mkE,go_sem,d3,c1]
         exact u0)
    · rw[q0]at k0 u0;clear q0;simp only at k0 u0;have d1:decide ((f:Int)<(f:Int))=decide (f<f):=by rw[Bool.eq_iff_iff];simp
      have d2:IntKind.i64.wrap (f:Int)=(f:Int):=wrap64 (by omega)
      have d3:IntKind.i64.wrap (f:Int)=(f:Int):=wrap64 (by omega)
      cases bm
      all_goals (
       simp -implicitDefEqProofs only[go_sem,gA hp,sA hp,d1,d2,Bool.true_or,Bool.false_or]at u0⊢
       refine L.count (f+1-f) (fun i=>mkE 68 [(0,.ptr p 0),(2,.ptr σ.length 0),(3,.ptr (σ.length+1) 0),(4,Bo none),(7,B8 f),(8,I ((f+i:Nat):Int))])
        (fun i=>σ.set p (pob s am _)++[.box [U 0,U 0,U 0,U 0],.box ((addR S f i).map U)]) ?_ ?_ rfl rfl
       · intro i hi Q hQ;have c1:(((f+i:Nat):Int)≤(f:Int))=True:=by simp;omega
         have c2:IntKind.u8.wrap ((f+i:Nat):Int)=((f+i:Nat):Int):=wrap8 (by omega)
         have c3:IntKind.i64.wrap (((f+i:Nat):Int)+1)=((f+(i+1):Nat):Int):=by rw[wrapN (by omega) (by omega)];omega
         simp -implicitDefEqProofs only[mkE,go_sem,d3,c1,c2,c3];refine CO.intro (z2G _ (σ.length+1) 0 ((addR S f i).map U) (f+i) _ (gL1 _ _ _ _ _ _) (z4S (by rw[z2n];exact h3) (by omega)) (by omega)) ?_
         rw[sL1,z2o];simp -implicitDefEqProofs only[go_sem,c3];exact hQ
       · intro Q;have c1:(((f+(f+1-f):Nat):Int)≤(f:Int))=False:=by simp;omega
         simp -implicitDefEqProofs only[mkE,go_sem,d3,c1]
         exact u0)
    · clear q0;generalize cTo s a1 b1=q at k0 u0 h0 d0⊢;obtain⟨t,aT,bT⟩:=q;simp only at k0 u0⊢;have d1:decide ((t:Int)<(f:Int))=decide (t<f):=by rw[Bool.eq_iff_iff];simp
      have d2:IntKind.i64.wrap (f:Int)=(f:Int):=wrap64 (by omega)
      have d3:IntKind.i64.wrap (t:Int)=(t:Int):=wrap64 (by omega)
      cases bT
      all_goals (
       simp -implicitDefEqProofs only[go_sem,gA hp,sA hp,d1,d2,Bool.true_or,Bool.false_or]at u0⊢
       refine L.count (t+1-f) (fun i=>mkE 68 [(0,.ptr p 0),(2,.ptr σ.length 0),(3,.ptr (σ.length+1) 0),(4,Bo none),(7,B8 t),(8,I ((f+i:Nat):Int))])
        (fun i=>σ.set p (pob s aT _)++[.box [U 0,U 0,U 0,U 0],.box ((addR S f i).map U)]) ?_ ?_ rfl rfl
       · intro i hi Q hQ;have c1:(((f+i:Nat):Int)≤(t:Int))=True:=by simp;omega
         have c2:IntKind.u8.wrap ((f+i:Nat):Int)=((f+i:Nat):Int):=wrap8 (by omega)
         have c3:IntKind.i64.wrap (((f+i:Nat):Int)+1)=((f+(i+1):Nat):Int):=by rw[wrapN (by omega) (by omega)];omega
         simp -implicitDefEqProofs only[mkE,go_sem,d3,c1,c2,c3];refine CO.intro (z2G _ (σ.length+1) 0 ((addR S f i).map U) (f+i) _ (gL1 _ _ _ _ _ _) (z4S (by rw[z2n];exact h3) (by omega)) (by omega)) ?_
         rw[sL1,z2o];simp -implicitDefEqProofs only[go_sem,c3];exact hQ
       · intro Q;have c1:(((f+(t+1-f):Nat):Int)≤(t:Int))=False:=by simp;omega
         simp -implicitDefEqProofs only[mkE,go_sem,d3,c1]
         exact u0)
 · simp[mkE]
 · simp
namespace Rex
mutual
def rv:Rex→AV
 |.mk op a b c d ks=>.agg [I op,U a,U b,U c,U d,rvK ks]
def rvK:List Rex→AV
 |[]=>.nils
 |x::xs=>.sl 6 (rv x::rvL xs)
def rvL:List Rex→List AV
 |[]=>[]
 |x::xs=>rv x::rvL xs
end
theorem zax:∀l:List Rex,rvL l=l.map rv
 |[]=>rfl
 |x::xs=>by rw[rvL,zax xs];rfl
theorem z4T (x:Rex) (xs:List Rex):rvK (x::xs)=.sl 6 ((x::xs).map rv):=by rw[rvK,zax];rfl
theorem rv_eq (x:Rex):x.rv=.agg [I x.op,U x.a,U x.b,U x.c,U x.d,rvK x.ks]:=by
 cases x;rfl
theorem rvK_cases (ks:List Rex):rvK ks=.nils∨∃l,rvK ks=.sl 6 l:=by
 cases ks with
 |nil=>exact .inl rfl
 |cons x xs=>exact .inr ⟨_,z4T x xs⟩
mutual
theorem z0t (n:Nat):∀x:Rex,Bel n x.rv
 |.mk op a b c d ks=>by
  have hk:=zbl n ks;rw[rv];refine .agg _ fun i hi=>?_
  have:∀y∈[I op,U a,U b,U c,U d,rvK ks],Bel n y:=by
   intro y hy;simp only[List.mem_cons,List.not_mem_nil,or_false]at hy;rcases hy with rfl|rfl|rfl|rfl|rfl|rfl
   · exact .pl _
   · exact .pl _
   · exact .pl _
   · exact .pl _
   · exact .pl _
   · exact hk
  exact this _ (List.getElem_mem hi)
theorem zbl (n:Nat):∀ks:List Rex,Bel n (rvK ks)
 |[]=>.nils
 |x::xs=>by
  have h1:=z0t n x;have h2:=z8n n xs;rw[rvK];refine .sl 6 _ fun i hi=>?_
  have:∀y∈rv x::rvL xs,Bel n y:=by
   intro y hy;rcases List.mem_cons.1 hy with rfl|hy
   · exact h1
   · exact h2 y hy
  exact this _ (List.getElem_mem hi)
theorem z8n (n:Nat):∀ks:List Rex,∀y∈rvL ks,Bel n y
 |[]=>fun y hy=>absurd hy (by rw[rvL];exact List.not_mem_nil)
 |x::xs=>fun y hy=>by
  have h1:=z0t n x;have h2:=z8n n xs;rw[rvL]at hy;rcases List.mem_cons.1 hy with rfl|hy
  · exact h1
  · exact h2 y hy
end
end Rex
def ofSet (S:List Int):Rex:=.mk 1 (S.getD 0 0) (S.getD 1 0) (S.getD 2 0) (S.getD 3 0) []
abbrev z4:List Int:=[0,0,0,0]
abbrev PF:=Nat→Bool→Rex×Nat×Bool
def patom (s:ByteArray) (F:PF) (d:Nat):PF:=fun a b =>
 let q:=pbyte s a b
 if q.1==40 then
  let w:=if q.2.2||d==8 then(ofSet z4,q.2.1,q.2.2||d==8) else F q.2.1 q.2.2
  (w.1,nextA s w.2.1 w.2.2 41,!sees s w.2.1 w.2.2 41||w.2.2)
 else if q.1==91 then
  let k:=z1W s q.2.1 q.2.2
  (ofSet k.1,k.2.1,k.2.2)
 else if q.1==46 then(ofSet (turnS z4),q.2.1,q.2.2)
 else if q.1==92 then
  let k:=psign s q.2.1 q.2.2
  (ofSet (z28 z4 k.1),k.2.1,k.2.2)
 else(ofSet (z28 z4 q.1),q.2.1,q.2.2||stray.contains q.1)
def z2d (s:ByteArray) (F:PF):PF:=fun a b =>
 let x:=F a b
 if sees s x.2.1 x.2.2 42 then(.mk 4 0 0 0 0 [x.1],x.2.1+1,x.2.2)
 else if sees s x.2.1 x.2.2 43 then(.mk 5 0 0 0 0 [x.1],x.2.1+1,x.2.2)
 else if sees s x.2.1 x.2.2 63 then(.mk 6 0 0 0 0 [x.1],x.2.1+1,x.2.2)
 else x
def wGo (s:ByteArray) (a:Nat) (b:Bool):Bool:=!over s a b&&(!sees s a b 124&& !sees s a b 41)
def pwayL (s:ByteArray) (F:PF):Nat→List Rex→Nat→Bool→List Rex×Nat×Bool
 |0,K,a,b=>(K,a,b)
 |n+1,K,a,b=>if wGo s a b then pwayL s F n (K++[(F a b).1]) (F a b).2.1 (F a b).2.2 else(K,a,b)
def one (op:Int):List Rex→Rex
 |[x]=>x
 |K=>.mk op 0 0 0 0 K
def pway (s:ByteArray) (F:PF):PF:=fun a b =>
 (one 2 (pwayL s F (s.size+1) [] a b).1,(pwayL s F (s.size+1) [] a b).2)
def z2Y (s:ByteArray) (F:PF):Nat→List Rex→Nat→Bool→List Rex×Nat×Bool
 |0,K,a,b=>(K,a,b)
 |n+1,K,a,b=>if sees s a b 124 then z2Y s F n (K++[(F (a+1) b).1]) (F (a+1) b).2.1 (F (a+1) b).2.2 else(K,a,b)
def pways (s:ByteArray) (F:PF):PF:=fun a b =>
 (one 3 (z2Y s F (s.size+1) [(F a b).1] (F a b).2.1 (F a b).2.2).1,(z2Y s F (s.size+1) [(F a b).1] (F a b).2.1 (F a b).2.2).2)
def lvl (s:ByteArray) (W:PF) (d:Nat):PF:=pways s (pway s (z2d s (patom s W d)))
def PW (s:ByteArray):Nat→PF
 |0=>lvl s (fun a b=>(ofSet z4,a,b)) 8
 |k+1=>lvl s (PW s k) (7-k)
def Fwd (F:PF):Prop:=∀a b,a≤(F a b).2.1∧(b=true→(F a b).2.2=true)
theorem Fwd.hs {F:PF} (h:Fwd F) {s:ByteArray} {a:Nat} {b:Bool} (hs:b=true∨s.size≤40):(F a b).2.2=true∨s.size≤40:=by
 rcases hs with rfl|hs
 · exact .inl ((h a true).2 rfl)
 · exact .inr hs
theorem z2p (s:ByteArray) (a:Nat) (b:Bool) (c:Nat):a≤nextA s a b c:=by unfold nextA;split<;>omega
theorem z5s (s:ByteArray) (a c:Nat):sees s a true c=false:=by simp[sees,over]
theorem z8o {s:ByteArray} {a:Nat} {b:Bool} {c:Nat} (h:sees s a b c=true):a<s.size∧b=false:=by
 simp[sees,over]at h;exact⟨by omega,h.1.1⟩
theorem zcc {s:ByteArray} {a:Nat} {b:Bool} (h:wGo s a b=true):a<s.size∧b=false:=by
 simp[wGo,over]at h;exact⟨by omega,h.1.1⟩
theorem z5t (s:ByteArray):∀(n:Nat) (S:List Int) (a:Nat) (b first:Bool),a≤(z1V s n S a b first).2.1∧(b=true→(z1V s n S a b first).2.2=true)
 |0,S,a,b,first=>⟨Nat.le_refl _,id⟩
 |n+1,S,a,b,first=>by
  rw[z1V];split
  · have h:=z5t s n (addR S (z06 s a b).1 ((cTo s a b).1+1-(z06 s a b).1)) (cTo s a b).2.1 (cBad s a b) false;refine⟨Nat.le_trans (Nat.le_trans (z4v s a b) (zaw s a b)) h.1,fun hb=>h.2 ?_⟩
    subst hb;exact z43 s a
  · exact⟨Nat.le_refl _,id⟩
theorem z44 (s:ByteArray) (a:Nat) (b:Bool):a≤(z1W s a b).2.1∧(b=true→(z1W s a b).2.2=true):=by
 have h:=z5t s (s.size+3) [0,0,0,0] (nextA s a b 94) b true;refine⟨Nat.le_trans (Nat.le_trans (z2p s a b 94) h.1) (z2p _ _ _ _),fun hb=>?_⟩
 show(_||_)=true;rw[h.2 hb,Bool.or_true]
theorem z22 (s:ByteArray) {F:PF} (h:Fwd F) (d:Nat):Fwd (patom s F d):=by
 intro a b;have h1:=z3E s a b;have hb:b=true→pbyte s a b=(0,a,true):=fun e=>by subst e;exact z2W s a
 unfold patom;generalize pbyte s a b=q at h1 hb⊢;obtain⟨c,a',b'⟩:=q;simp only at h1 hb⊢;split
 · rename_i hc
   have y0:b=true→False:=fun e=>by
    have:=congrArg Prod.fst (hb e);simp only at this;subst this;simp at hc
   refine⟨?_,fun e=>(y0 e).elim⟩
   split
   · exact Nat.le_trans h1 (z2p s a' _ 41)
   · exact Nat.le_trans h1 (Nat.le_trans (h a' b').1 (z2p _ _ _ 41))
 · have u0:b=true→b'=true:=fun e=>by
    have:=hb e;simp only[Prod.mk.injEq]at this;exact this.2.2
   split
   · exact⟨Nat.le_trans h1 (z44 s a' b').1,fun e=>(z44 s a' b').2 (u0 e)⟩
   · split
     · exact⟨h1,u0⟩
     · split
       · refine⟨Nat.le_trans h1 (z2X s a' b'),fun e=>?_⟩
         rw[u0 e];exact z4w s a'
       · refine⟨h1,fun e=>?_⟩
         show(_||_)=true;rw[u0 e,Bool.true_or]
def Eats (s:ByteArray) (F:PF):Prop:=∀a b,over s a b=false→a+1≤(F a b).2.1
theorem z5u (s:ByteArray) {F:PF} (h:Fwd F) (d:Nat):Eats s (patom s F d):=by
 intro a b ho;have h1:pbyte s a b=(byteAt s a,a+1,b):=by simp[pbyte,ho]
 unfold patom;rw[h1];simp only;split
 · split
   · exact z2p s (a+1) _ 41
   · exact Nat.le_trans (h (a+1) b).1 (z2p _ _ _ 41)
 · split
   · exact(z44 s (a+1) b).1
   · split
     · exact Nat.le_refl _
     · split
       · exact z2X s (a+1) b
       · exact Nat.le_refl _
theorem z3n (s:ByteArray) (F:PF) (a:Nat) (b:Bool):(z2d s F a b).2.2=(F a b).2.2∧(F a b).2.1≤(z2d s F a b).2.1:=by
 unfold z2d;simp only;split
 · exact⟨rfl,Nat.le_succ _⟩
 · split
   · exact⟨rfl,Nat.le_succ _⟩
   · split
     · exact⟨rfl,Nat.le_succ _⟩
     · exact⟨rfl,Nat.le_refl _⟩
theorem z1X (s:ByteArray) {F:PF} (h:Fwd F):Fwd (z2d s F):=by
 intro a b;have h2:=z3n s F a b;rw[h2.1];exact⟨Nat.le_trans (h a b).1 h2.2,(h a b).2⟩
theorem z45 (s:ByteArray) {F:PF} (h:Eats s F):Eats s (z2d s F):=by
 intro a b ho;exact Nat.le_trans (h a b ho) (z3n s F a b).2
theorem z6J (s:ByteArray) {F:PF} (h:Fwd F):∀n K a b,a≤(pwayL s F n K a b).2.1∧(b=true→(pwayL s F n K a b).2.2=true)
 |0,K,a,b=>⟨Nat.le_refl _,id⟩
 |n+1,K,a,b=>by
  rw[pwayL];split
  · have h1:=z6J s h n (K++[(F a b).1]) (F a b).2.1 (F a b).2.2;exact⟨Nat.le_trans (h a b).1 h1.1,fun e=>h1.2 ((h a b).2 e)⟩
  · exact⟨Nat.le_refl _,id⟩
theorem z6a (s:ByteArray) {F:PF} (h:Fwd F):Fwd (pway s F):=fun a b=>z6J s h (s.size+1) [] a b
theorem z5v (s:ByteArray) {F:PF} (h:Fwd F):∀n K a b,a≤(z2Y s F n K a b).2.1∧(b=true→(z2Y s F n K a b).2.2=true)
 |0,K,a,b=>⟨Nat.le_refl _,id⟩
 |n+1,K,a,b=>by
  rw[z2Y];split
  · have h1:=z5v s h n (K++[(F (a+1) b).1]) (F (a+1) b).2.1 (F (a+1) b).2.2;exact⟨Nat.le_trans (Nat.le_trans (Nat.le_succ a) (h (a+1) b).1) h1.1,fun e=>h1.2 ((h (a+1) b).2 e)⟩
  · exact⟨Nat.le_refl _,id⟩
theorem z9A (s:ByteArray) {F:PF} (h:Fwd F):Fwd (pways s F):=fun a b=>by
 have h1:=z5v s h (s.size+1) [(F a b).1] (F a b).2.1 (F a b).2.2;exact⟨Nat.le_trans (h a b).1 h1.1,fun e=>h1.2 ((h a b).2 e)⟩
theorem z8p (s:ByteArray) {W:PF} (h:Fwd W) (d:Nat):Fwd (lvl s W d):=z9A s (z6a s (z1X s (z22 s h d)))
theorem z8q (s:ByteArray):∀k,Fwd (PW s k)
 |0=>z8p s (fun a b=>⟨Nat.le_refl _,id⟩) 8
 |k+1=>z8p s (z8q s k) _
open Rex
def FAns (f:FuncId) (args:List AV) (s:ByteArray) (F:PF):Prop :=
 ∀(σ:St) (p a:Nat) (b:Bool),p<σ.length→(b=true∨s.size≤40) →
  Ans Tryd.prog f (.ptr p 0::args) (σ.set p (pob s a b)) (F a b).1.rv (σ.set p (pob s (F a b).2.1 (F a b).2.2))
section
variable {σ:St} {p:Nat} {s:ByteArray}
theorem FAns.ex {f:FuncId} {args:List AV} {F:PF} (h:FAns f args s F) (hp:p<σ.length) (a:Nat) (b:Bool) (hs:b=true∨s.size≤40) (ex:St) :
  Ans Tryd.prog f (.ptr p 0::args) (σ.set p (pob s a b)++ex) (F a b).1.rv (σ.set p (pob s (F a b).2.1 (F a b).2.2)++ex):=by
 have:=h (σ.set p (pob s a b)++ex) p a b (by simp;omega) hs
 rwa [sA hp,sA hp]at this
theorem z2H (hp:p<σ.length) (a:Nat) (b:Bool) (c:Nat) (hs:b=true∨s.size≤40) (ex:St) :
  Ans Tryd.prog 83 [.ptr p 0,B8 c] (σ.set p (pob s a b)++ex) (Bo (sees s a b c)) (σ.set p (pob s (nextA s a b c) b)++ex):=by
 have:=z3D (σ.set p (pob s a b)++ex) p s a b c hs (gA hp _ _)
 rwa [sA hp]at this
theorem zbm (hp:p<σ.length) (a:Nat) (b:Bool) (hs:b=true∨s.size≤40) (ex:St) :
  Ans Tryd.prog 89 [.ptr p 0] (σ.set p (pob s a b)++ex) (B8 (pbyte s a b).1) (σ.set p (pob s (pbyte s a b).2.1 (pbyte s a b).2.2)++ex):=by
 have:=z4R (σ.set p (pob s a b)++ex) p s a b hs (gA hp _ _)
 rwa [sA hp]at this
theorem zbn (hp:p<σ.length) (a:Nat) (b:Bool) (hs:b=true∨s.size≤40) (ex:St) :
  Ans Tryd.prog 93 [.ptr p 0] (σ.set p (pob s a b)++ex) (B8 (psign s a b).1) (σ.set p (pob s (psign s a b).2.1 (psign s a b).2.2)++ex):=by
 have:=z6H (σ.set p (pob s a b)++ex) p s a b hs (gA hp _ _)
 rwa [sA hp]at this
theorem z4U (hp:p<σ.length) (a:Nat) (b:Bool) (ex:St):Ans Tryd.prog 85 [.ptr p 0] (σ.set p (pob s a b)++ex) (Bo (over s a b)) (σ.set p (pob s a b)++ex) :=
 z2V _ p s a b (gA hp _ _)
theorem z46 (hp:p<σ.length) (a:Nat) (b:Bool) (c:Nat) (ex:St):Ans Tryd.prog 86 [.ptr p 0,B8 c] (σ.set p (pob s a b)++ex) (Bo (sees s a b c)) (σ.set p (pob s a b)++ex) :=
 z3C _ p s a b c (gA hp _ _)
theorem z9B (hp:p<σ.length) (a:Nat) (b:Bool) (hs:b=true∨s.size≤40) (ex:St) :
  Ans Tryd.prog 90 [.ptr p 0] (σ.set p (pob s a b)++ex) (.agg ((z1W s a b).1.map U)) (σ.set p (pob s (z1W s a b).2.1 (z1W s a b).2.2)++ex):=by
 have:=z8m (σ.set p (pob s a b)++ex) p s a b (by simp;omega) hs
 rwa [sA hp,sA hp]at this
end
theorem z7s (s:ByteArray) (a:Nat) (b:Bool):(z1W s a b).1.length=4:=by
 have h:=z3i s (s.size+3) [0,0,0,0] (nextA s a b 94) b true;unfold z1W;simp only;split
 · simp only[turnS,List.length_map];exact h
 · exact h
theorem z9C {s:ByteArray} {a:Nat} {b:Bool} (h:b=true∨s.size≤40):(pbyte s a b).2.2=true∨s.size≤40:=by
 rcases h with rfl|h
 · exact .inl (by rw[z2W])
 · exact .inr h
theorem add_get {c:Nat} (hc:c<256):([I 1,U 0,U 0,U 0,U 0,.nils]:List AV)[1+c/64]?=some (U 0):=by
 have h:c/64<4:=by omega
 generalize c/64=k at h
 match k,h with
 |0,_=>rfl
 |1,_=>rfl
 |2,_=>rfl
 |3,_=>rfl
theorem z47 {c:Nat} (hc:c<256):([I 1,U 0,U 0,U 0,U 0,.nils]:List AV).set (1+c/64) (U (orU 0 (bitU (c%64)))) =
  [I 1,U ((z28 z4 c).getD 0 0),U ((z28 z4 c).getD 1 0),U ((z28 z4 c).getD 2 0),U ((z28 z4 c).getD 3 0),.nils]:=by
 have h:c/64<4:=by omega
 unfold z28;generalize bitU (c%64)=w;generalize c/64=k at h
 match k,h with
 |0,_=>rfl
 |1,_=>rfl
 |2,_=>rfl
 |3,_=>rfl
theorem z9D (x:Rex):AV.cells x.rv=[I x.op,U x.a,U x.b,U x.c,U x.d,rvK x.ks]:=by rw[rv_eq];rfl
section
variable (s:ByteArray)
theorem z6K (F:PF) (d:Nat) (hd:d≤8) (hF:d<8→FAns 79 [I ((d+1:Nat):Int)] s F) (hfw:Fwd F):FAns 88 [I d] s (patom s F d):=by
 intro σ p a b hp hs;have hlen:∀o,(σ.set p o).length=σ.length:=fun o=>by simp
 refine Ans.of_run' t88 (fun n0 _=>?_)
 have u0:=z3m n0;simp -implicitDefEqProofs only[c88,r88,go_sem,List.append_assoc,List.length_append,List.length_set,gA hp,sA hp,gL0,sL0,gL1,sL1];refine CO.intro (zbm hp a b hs _) ?_;unfold patom;have hc:=z2m s a b;have m0:=z9C (a:=a) hs;have r0:=z8k _ hc;generalize pbyte s a b=q at hc m0 r0⊢;obtain⟨c,a',b'⟩:=q;simp only at hc m0 r0⊢;have j0:((c:Int)==40)=(c==40):=z1J c 40;have k8:((d:Int)==8)=(d==8):=z1J d 8;have y0:((c:Int)==91)=(c==91):=z1J c 91;have q0:((c:Int)==46)=(c==46):=z1J c 46;have k0:((c:Int)==92)=(c==92):=z1J c 92
 cases h40:c==40 with
 |true =>
  cases b' with
  |true =>
   simp -implicitDefEqProofs only[go_sem,j0,y0,q0,k0,h40,gA hp,sA hp,gL0,sL0,gL1,sL1,if_true,Bool.true_or,Bool.or_true];refine CO.intro (z2H hp _ _ 41 (.inl rfl) _) ?_;simp -implicitDefEqProofs only[go_sem,gA hp,sA hp,gL0,sL0,gL1,sL1,z5s,nextA];refine Fini.trim2 (ex:=[_,_]) ?_ rfl ?_ (z0t _ _) (u0 _ _)
   · (simp -implicitDefEqProofs only[go_sem,resA,z04,rvA,oneOf,gL0];first|done|rfl|rw[rv_eq,hK]|(simp only[rv,rvK,rvL];rw[rv_eq,hK]))
   · simp
  |false =>
   cases hd8:d==8 with
   |true =>
    simp -implicitDefEqProofs only[go_sem,j0,y0,q0,k0,h40,gA hp,sA hp,gL0,sL0,gL1,sL1,if_true,k8,hd8,Bool.false_or,Bool.or_false,Bool.or_true,Bool.true_or];refine CO.intro (z2H hp _ _ 41 (.inl rfl) _) ?_;simp -implicitDefEqProofs only[go_sem,gA hp,sA hp,gL0,sL0,gL1,sL1,z5s,nextA];refine Fini.trim2 (ex:=[_,_]) ?_ rfl ?_ (z0t _ _) (u0 _ _)
    · (simp -implicitDefEqProofs only[go_sem,resA,z04,rvA,oneOf,gL0];first|done|rfl|rw[rv_eq,hK]|(simp only[rv,rvK,rvL];rw[rv_eq,hK]))
    · simp
   |false =>
    have e0:d<8:=by
     have:d≠8:=by simpa using hd8
     omega
    have e1:IntKind.i64.wrap ((d:Int)+1)=((d+1:Nat):Int):=by rw[wrapN (by omega) (by omega)];rfl
    simp -implicitDefEqProofs only[go_sem,j0,y0,q0,k0,h40,gA hp,sA hp,gL0,sL0,gL1,sL1,if_true,k8,hd8,Bool.false_or,Bool.or_false,Bool.or_true,Bool.true_or,e1];refine CO.intro ((hF e0).ex hp _ _ m0 _) ?_;have t0:(F a' false).2.2=true∨s.size≤40:=hfw.hs m0;generalize F a' false=w at t0⊢;obtain⟨x,a1,b1⟩:=w;simp only at t0⊢;have d0:∀n,Bel n x.rv:=fun n=>z0t n x
    rw[rv_eq x]at d0⊢;rcases rvK_cases x.ks with hK|⟨l,hK⟩
    all_goals rw[hK]at d0⊢
    all_goals simp -implicitDefEqProofs only[go_sem,gA hp,sA hp,gL0,sL0,gL1,sL1]
    all_goals refine CO.intro (z2H hp _ _ 41 t0 _) ?_
    all_goals cases hse:sees s a1 b1 41
    all_goals (
     first
     |(have f0:=(z8o hse).2
       subst f0)
     |skip
     simp -implicitDefEqProofs only[go_sem,gA hp,sA hp,gL0,sL0,gL1,sL1,hse,nextA,Bool.true_or,Bool.false_or];refine Fini.trim2 (ex:=[_,_]) ?_ rfl ?_ (d0 _) (u0 _ _)
     · (simp -implicitDefEqProofs only[go_sem,resA,z04,rvA,oneOf,gL0];first|done|rfl|rw[rv_eq,hK]|(simp only[rv,rvK,rvL];rw[rv_eq,hK]))
     · simp)
 |false =>
  cases h91:c==91 with
  |true =>
   simp -implicitDefEqProofs only[go_sem,j0,y0,q0,k0,h40,h91,gA hp,sA hp,if_true,Bool.false_eq_true,if_false];refine CO.intro (z9B hp a' b' m0 _) ?_;have h4:=z7s s a' b';generalize z1W s a' b'=k at h4⊢;obtain⟨S,a1,b1⟩:=k;simp only at h4⊢;obtain⟨x0,x1,x2,x3,rfl⟩:=four h4;simp -implicitDefEqProofs only[go_sem,gA hp,sA hp,gL0,sL0,gL1,sL1,List.map_cons,List.map_nil];refine Fini.trim2 (ex:=[_,_]) ?_ rfl ?_ (z0t _ _) (u0 _ _)
   · (simp -implicitDefEqProofs only[go_sem,resA,z04,rvA,oneOf,gL0];first|done|rfl|rw[rv_eq,hK]|(simp only[rv,rvK,rvL];rw[rv_eq,hK]))
   · simp
  |false =>
   cases h46:c==46 with
   |true =>
    simp -implicitDefEqProofs only[go_sem,j0,y0,q0,k0,h40,h91,h46,gA hp,sA hp,gL0,sL0,gL1,sL1,if_true,Bool.false_eq_true,if_false];refine CO.intro (z3h _ 0 0 0 0) ?_;simp -implicitDefEqProofs only[go_sem,gA hp,sA hp,gL0,sL0,gL1,sL1,List.map_cons,List.map_nil];refine Fini.trim2 (ex:=[_,_]) ?_ rfl ?_ (z0t _ _) (u0 _ _)
    · (simp -implicitDefEqProofs only[go_sem,resA,z04,rvA,oneOf,gL0];first|done|rfl|rw[rv_eq,hK]|(simp only[rv,rvK,rvL];rw[rv_eq,hK]))
    · simp
   |false =>
    cases h92:c==92 with
    |true =>
     simp -implicitDefEqProofs only[go_sem,j0,y0,q0,k0,h40,h91,h46,h92,gA hp,sA hp,gL0,sL0,gL1,sL1,if_true,Bool.false_eq_true,if_false];refine CO.intro (zbn hp a' b' m0 _) ?_;have hk:(psign s a' b').1<256:=z2m s a' b';generalize psign s a' b'=k at hk⊢;obtain⟨x,a1,b1⟩:=k;simp only at hk⊢;simp -implicitDefEqProofs only[go_sem];refine CO.intro (z2G _ (σ.length+1) 1 _ x 0 (gL1 _ _ _ _ _ _) (add_get hk) hk) ?_;rw[sL1,z47 hk];simp -implicitDefEqProofs only[go_sem,gA hp,sA hp,gL0,sL0,gL1,sL1,List.map_cons,List.map_nil];refine Fini.trim2 (ex:=[_,_]) ?_ rfl ?_ (z0t _ _) (u0 _ _)
     · (simp -implicitDefEqProofs only[go_sem,resA,z04,rvA,oneOf,gL0];first|done|rfl|rw[rv_eq,hK]|(simp only[rv,rvK,rvL];rw[rv_eq,hK]))
     · simp
    |false =>
     simp -implicitDefEqProofs only[go_sem,j0,y0,q0,k0,h40,h91,h46,h92,gA hp,sA hp,gL0,sL0,gL1,sL1,if_true,Bool.false_eq_true,if_false]
     cases b' with
     |true =>
      simp -implicitDefEqProofs only[go_sem,gA hp,sA hp,gL0,sL0,gL1,sL1];refine CO.intro (z2G _ (σ.length+1) 1 _ c 0 (gL1 _ _ _ _ _ _) (add_get hc) hc) ?_;rw[sL1,z47 hc];simp -implicitDefEqProofs only[go_sem,gA hp,sA hp,gL0,sL0,gL1,sL1];refine Fini.trim2 (ex:=[_,_]) ?_ rfl ?_ (z0t _ _) (u0 _ _)
      · (simp -implicitDefEqProofs only[go_sem,resA,z04,rvA,oneOf,gL0];first|done|rfl|rw[rv_eq,hK]|(simp only[rv,rvK,rvL];rw[rv_eq,hK]))
      · simp
     |false =>
      simp -implicitDefEqProofs only[go_sem,gA hp,sA hp,gL0,sL0,gL1,sL1];refine CO.intro (z2F _ _ c) ?_;simp -implicitDefEqProofs only[go_sem,gA hp,sA hp,gL0,sL0,gL1,sL1];refine CO.intro (z2G _ (σ.length+1) 1 _ c 0 (gL1 _ _ _ _ _ _) (add_get hc) hc) ?_;rw[sL1,z47 hc];simp -implicitDefEqProofs only[go_sem,gA hp,sA hp,gL0,sL0,gL1,sL1];rw[r0];refine Fini.trim2 (ex:=[_,_]) ?_ rfl ?_ (z0t _ _) (u0 _ _)
      · (simp -implicitDefEqProofs only[go_sem,resA,z04,rvA,oneOf,gL0];first|done|rfl|rw[rv_eq,hK]|(simp only[rv,rvK,rvL];rw[rv_eq,hK]))
      · simp
end
section
variable (s:ByteArray)
theorem z4x (F:PF) (d:Nat) (hF:FAns 88 [I d] s F) (hfw:Fwd F):FAns 87 [I d] s (z2d s F):=by
 intro σ p a b hp hs;refine Ans.of_run' t87 (fun q0 _=>?_)
 have y0:=z3m q0;simp -implicitDefEqProofs only[c87,r87,go_sem,List.append_assoc,List.length_append,List.length_set,gA hp,sA hp,gL0,sL0,gL1,sL1];refine CO.intro (hF.ex hp _ _ hs _) ?_;have u0:(F a b).2.2=true∨s.size≤40:=hfw.hs hs;unfold z2d;generalize F a b=w at u0⊢;obtain⟨x,a1,b1⟩:=w;simp only at u0⊢
 have hn:∀(ex:St) (c:Nat),sees s a1 b1 c=false→Ans Tryd.prog 83 [.ptr p 0,B8 c] (σ.set p (pob s a1 b1)++ex) (Bo false) (σ.set p (pob s a1 b1)++ex):=fun ex c h=>by
  have:=z2H hp a1 b1 c u0 ex
  rwa [nextA,h]at this
 have hy:∀(ex:St) (c:Nat),sees s a1 b1 c=true→Ans Tryd.prog 83 [.ptr p 0,B8 c] (σ.set p (pob s a1 b1)++ex) (Bo true) (σ.set p (pob s (a1+1) b1)++ex):=fun ex c h=>by
  have:=z2H hp a1 b1 c u0 ex
  rwa [nextA,h]at this
 have j0:∀n,Bel n x.rv:=fun n=>z0t n x
 rw[rv_eq x]at j0⊢;rcases rvK_cases x.ks with hK|⟨l,hK⟩
 all_goals (
  rw[hK]at j0⊢;simp -implicitDefEqProofs only[go_sem,gA hp,sA hp,gL0,sL0,gL1,sL1];cases h42:sees s a1 b1 42
  · refine CO.intro (hn _ 42 h42) ?_;simp -implicitDefEqProofs only[go_sem,gA hp,sA hp,gL0,sL0,gL1,sL1];cases h43:sees s a1 b1 43
    · refine CO.intro (hn _ 43 h43) ?_;simp -implicitDefEqProofs only[go_sem,gA hp,sA hp,gL0,sL0,gL1,sL1];cases h63:sees s a1 b1 63
      · refine CO.intro (hn _ 63 h63) ?_;simp -implicitDefEqProofs only[go_sem,gA hp,sA hp,gL0,sL0,gL1,sL1];refine Fini.trim2 (ex:=[_]) ?_ rfl ?_ (z0t _ _) (y0 _ _)
        · (simp -implicitDefEqProofs only[go_sem,resA,z04,rvA,oneOf,gL0];first|done|rfl|rw[rv_eq,hK]|(simp only[rv,rvK,rvL];rw[rv_eq,hK]))
        · simp
      · refine CO.intro (hy _ 63 h63) ?_;simp -implicitDefEqProofs only[go_sem,gA hp,sA hp,gL0,sL0,gL1,sL1];refine Fini.trim2 (ex:=[_]) ?_ rfl ?_ (z0t _ _) (y0 _ _)
        · (simp -implicitDefEqProofs only[go_sem,resA,z04,rvA,oneOf,gL0];first|done|rfl|rw[rv_eq,hK]|(simp only[rv,rvK,rvL];rw[rv_eq,hK]))
        · simp
    · refine CO.intro (hy _ 43 h43) ?_;simp -implicitDefEqProofs only[go_sem,gA hp,sA hp,gL0,sL0,gL1,sL1];refine Fini.trim2 (ex:=[_]) ?_ rfl ?_ (z0t _ _) (y0 _ _)
      · (simp -implicitDefEqProofs only[go_sem,resA,z04,rvA,oneOf,gL0];first|done|rfl|rw[rv_eq,hK]|(simp only[rv,rvK,rvL];rw[rv_eq,hK]))
      · simp
  · refine CO.intro (hy _ 42 h42) ?_;simp -implicitDefEqProofs only[go_sem,gA hp,sA hp,gL0,sL0,gL1,sL1];refine Fini.trim2 (ex:=[_]) ?_ rfl ?_ (z0t _ _) (y0 _ _)
    · (simp -implicitDefEqProofs only[go_sem,resA,z04,rvA,oneOf,gL0];first|done|rfl|rw[rv_eq,hK]|(simp only[rv,rvK,rvL];rw[rv_eq,hK]))
    · simp)
end
abbrev box0:Ob:=.box [I 0,U 0,U 0,U 0,U 0,.nils]
def exK (K:List Rex):St:=box0::(if K.isEmpty then[] else[.row 6 (K.map rv)])
def vK (l:Nat) (K:List Rex):AV:=if K.isEmpty then .nils else .osl (l+1) K.length
theorem z1b (x:Rex) (K:List Rex):exK (x::K)=[box0,.row 6 ((x::K).map rv)]:=rfl
theorem z1O (l:Nat) (x:Rex) (K:List Rex):vK l (x::K)=.osl (l+1) (K.length+1):=rfl
theorem z4V:exK []=[box0]:=rfl
theorem z6L (l:Nat):vK l []=.nils:=rfl
theorem z6M (K:List Rex) (x:Rex):exK (K++[x])=[box0,.row 6 (K.map rv++[x.rv])]:=by
 cases K with
 |nil=>rfl
 |cons y K=>simp[exK]
theorem z8r (l:Nat) (K:List Rex) (x:Rex):vK l (K++[x])=.osl (l+1) (K.length+1):=by
 cases K with
 |nil=>rfl
 |cons y K=>simp[vK]
theorem z2e (op:Int) (y z:Rex) (K:List Rex):(one op (y::z::K)).rv=.agg [I op,U 0,U 0,U 0,U 0,.sl 6 ((y::z::K).map rv)]:=by
 show Rex.rv (.mk op 0 0 0 0 (y::z::K))=_;rw[rv,z4T]
theorem z4W {n:Nat} {x:AV} (h:Bel n x) (b:Bool):Bel n (.tup [x,Bo b]):=by
 refine .tup _ fun i hi=>?_
 have:∀y∈[x,Bo b],Bel n y:=by
  intro y hy;simp only[List.mem_cons,List.not_mem_nil,or_false]at hy;rcases hy with rfl|rfl
  · exact h
  · exact .pl _
 exact this _ (List.getElem_mem hi)
section
variable (s:ByteArray)
theorem z8s (F:PF) (d:Nat) (hF:FAns 87 [I d] s F) (hfw:Fwd F) (he:Eats s F):FAns 82 [I d] s (pway s F):=by
 intro σ p a b hp hs;refine Ans.of_run' t82 (fun k0 _=>?_)
 have y0:=z3m k0;simp -implicitDefEqProofs only[c82,r82,go_sem,List.append_assoc,List.length_append,List.length_set];unfold pway;simp only;have hm:s.size-a<s.size+1:=by omega
 generalize j0:pwayL s F (s.size+1) [] a b=res
 refine L.intro (α:={ x:Nat×List Rex×Nat×Bool // pwayL s F x.1 x.2.1 x.2.2.1 x.2.2.2=res∧s.size-x.2.2.1<x.1∧(x.2.2.2=true∨s.size≤40)∧x.2.1.length≤x.2.2.1 })
  (fun x=>x.1.1)
  (fun x=>mkE 33 [(0,.ptr p 0),(1,I d),(4,.ptr σ.length 0),(5,vK σ.length x.1.2.1)])
  (fun x=>σ.set p (pob s x.1.2.2.1 x.1.2.2.2)++exK x.1.2.1)
  (fun x J hJ=>?_) ⟨(s.size+1,[],a,b),j0,hm,hs,Nat.zero_le _⟩ ?_ ?_
 · obtain⟨⟨n,K,a1,b1⟩,h1,h2,h3,h4⟩:=x;simp only at h1 h2 h3 h4 hJ⊢
   cases n with
   |zero=>omega
   |succ n =>
   rw[pwayL]at h1
   cases hgo:wGo s a1 b1 with
   |true =>
    rw[hgo,if_pos rfl]at h1;obtain⟨ha,hb⟩:=zcc hgo;subst hb;have n0:over s a1 false=false:=by simp[wGo]at hgo;exact hgo.1
    have t0:sees s a1 false 124=false:=by simp[wGo]at hgo;exact hgo.2.1
    have r0:sees s a1 false 41=false:=by simp[wGo]at hgo;exact hgo.2.2
    have hsz:s.size≤40:=by
     rcases h3 with h|h
     · exact absurd h Bool.false_ne_true
     · exact h
    have m0:=he a1 false n0;have q0:=hJ ⟨(n,K++[(F a1 false).1],(F a1 false).2.1,(F a1 false).2.2),h1,by simp only;omega,.inr hsz,by simp;omega⟩ (Nat.lt_succ_self n)
    simp only[z6M,z8r]at q0;clear hJ h1 hgo;simp -implicitDefEqProofs only[mkE,go_sem];refine CO.intro (z4U hp a1 false _) ?_;simp -implicitDefEqProofs only[go_sem,n0];refine CO.intro (z46 hp a1 false 124 _) ?_;simp -implicitDefEqProofs only[go_sem,t0];refine CO.intro (z46 hp a1 false 41 _) ?_;simp -implicitDefEqProofs only[go_sem,r0];refine CO.intro (hF.ex hp a1 false (.inr hsz) _) ?_;generalize F a1 false=w at q0 m0⊢;obtain⟨x,a2,b2⟩:=w;simp only at q0 m0⊢;rw[rv_eq x]at q0⊢;rcases K with _|⟨y,K⟩
    all_goals rcases rvK_cases x.ks with hK|⟨l,hK⟩
    all_goals rw[hK]at q0⊢
    all_goals first
    |(simp -implicitDefEqProofs only[go_sem,z4V,z6L,gA hp,sA hp,gL0,sL0,gL1,sL1]at q0⊢
      simpa[mkE] using q0)
    |(have g1:(K.length+1+1≤2^32)=True:=by simp at h4;simp;omega
      simp -implicitDefEqProofs only[go_sem,z1b,z1O,gA hp,sA hp,gL0,sL0,gL1,sL1,List.length_map,g1]at q0⊢
      simpa[mkE] using q0)
   |false =>
    rw[hgo,if_neg Bool.false_ne_true]at h1;subst h1;clear hJ h2
    have hex:over s a1 b1=true∨(over s a1 b1=false∧sees s a1 b1 124=true)∨(over s a1 b1=false∧sees s a1 b1 124=false∧sees s a1 b1 41=true):=by
     unfold wGo at hgo;cases h1:over s a1 b1<;>cases h2:sees s a1 b1 124<;>cases h3:sees s a1 b1 41<;>simp[h1,h2,h3]at hgo⊢
    rcases hex with ho|⟨ho,h5⟩|⟨ho,h5,h6⟩
    · simp -implicitDefEqProofs only[mkE,go_sem];refine CO.intro (z4U hp a1 b1 _) ?_;simp -implicitDefEqProofs only[go_sem,ho];rcases K with _|⟨y,_|⟨z,K⟩⟩
      · simp -implicitDefEqProofs only[go_sem,z4V,z6L,gA hp,sA hp,gL0,sL0,gL1,sL1];refine Fini.trim2 (ex:=[_]) ?_ rfl ?_ (z0t _ _) (y0 _ _)
        · ((try simp -implicitDefEqProofs only[go_sem,resA,z04,rvA,oneOf,gL0]);first|done|rfl|(rw[z2e];rfl)|rw[rv_eq,hK]|(simp only[rv,rvK,rvL];rw[rv_eq,hK]))
        · simp
      · have g3:(((1:Nat):Int)==1)=true:=rfl;have g4:((0:Int)<((1:Nat):Int))=True:=by simp
        have u0:∀n,Bel n y.rv:=fun n=>z0t n y
        rw[z1b,z1O,List.map_cons,List.map_nil,show(one 2 [y])=y from rfl]
        rw[rv_eq y]at u0⊢;rcases rvK_cases y.ks with hK|⟨l,hK⟩
        all_goals rw[hK]at u0⊢
        all_goals simp -implicitDefEqProofs only[go_sem,gA hp,sA hp,gL0,sL0,gL1,sL1,List.length_map,g3,g4,Int.toNat_zero]
        all_goals (
         refine Fini.trim2 (ex:=[_,_]) ?_ rfl ?_ (u0 _) (y0 _ _)
         · ((try simp -implicitDefEqProofs only[go_sem,resA,z04,rvA,oneOf,gL0]);first|done|rfl|(rw[z2e];rfl)|rw[rv_eq,hK]|(simp only[rv,rvK,rvL];rw[rv_eq,hK]))
         · simp)
      · rw[z1b,z1O];have g2:(((K.length+1+1:Nat):Int)==1)=false:=by simp;omega
        simp -implicitDefEqProofs only[go_sem,gA hp,sA hp,gL0,sL0,gL1,sL1,List.length_map,g2];refine Fini.trim2 (ex:=[_,_]) ?_ rfl ?_ (z0t _ _) (y0 _ _)
        · ((try simp -implicitDefEqProofs only[go_sem,resA,z04,rvA,oneOf,gL0]);first|done|rfl|(rw[z2e];rfl)|rw[rv_eq,hK]|(simp only[rv,rvK,rvL];rw[rv_eq,hK]))
        · simp
    · simp -implicitDefEqProofs only[mkE,go_sem];refine CO.intro (z4U hp a1 b1 _) ?_;simp -implicitDefEqProofs only[go_sem,ho];refine CO.intro (z46 hp a1 b1 124 _) ?_;simp -implicitDefEqProofs only[go_sem,h5];rcases K with _|⟨y,_|⟨z,K⟩⟩
      · simp -implicitDefEqProofs only[go_sem,z4V,z6L,gA hp,sA hp,gL0,sL0,gL1,sL1];refine Fini.trim2 (ex:=[_]) ?_ rfl ?_ (z0t _ _) (y0 _ _)
        · ((try simp -implicitDefEqProofs only[go_sem,resA,z04,rvA,oneOf,gL0]);first|done|rfl|(rw[z2e];rfl)|rw[rv_eq,hK]|(simp only[rv,rvK,rvL];rw[rv_eq,hK]))
        · simp
      · have g3:(((1:Nat):Int)==1)=true:=rfl;have g4:((0:Int)<((1:Nat):Int))=True:=by simp
        have u0:∀n,Bel n y.rv:=fun n=>z0t n y
        rw[z1b,z1O,List.map_cons,List.map_nil,show(one 2 [y])=y from rfl]
        rw[rv_eq y]at u0⊢;rcases rvK_cases y.ks with hK|⟨l,hK⟩
        all_goals rw[hK]at u0⊢
        all_goals simp -implicitDefEqProofs only[go_sem,gA hp,sA hp,gL0,sL0,gL1,sL1,List.length_map,g3,g4,Int.toNat_zero]
        all_goals (
         refine Fini.trim2 (ex:=[_,_]) ?_ rfl ?_ (u0 _) (y0 _ _)
         · ((try simp -implicitDefEqProofs only[go_sem,resA,z04,rvA,oneOf,gL0]);first|done|rfl|(rw[z2e];rfl)|rw[rv_eq,hK]|(simp only[rv,rvK,rvL];rw[rv_eq,hK]))
         · simp)
      · rw[z1b,z1O];have g2:(((K.length+1+1:Nat):Int)==1)=false:=by simp;omega
        simp -implicitDefEqProofs only[go_sem,gA hp,sA hp,gL0,sL0,gL1,sL1,List.length_map,g2];refine Fini.trim2 (ex:=[_,_]) ?_ rfl ?_ (z0t _ _) (y0 _ _)
        · ((try simp -implicitDefEqProofs only[go_sem,resA,z04,rvA,oneOf,gL0]);first|done|rfl|(rw[z2e];rfl)|rw[rv_eq,hK]|(simp only[rv,rvK,rvL];rw[rv_eq,hK]))
        · simp
    · simp -implicitDefEqProofs only[mkE,go_sem];refine CO.intro (z4U hp a1 b1 _) ?_;simp -implicitDefEqProofs only[go_sem,ho];refine CO.intro (z46 hp a1 b1 124 _) ?_;simp -implicitDefEqProofs only[go_sem,h5];refine CO.intro (z46 hp a1 b1 41 _) ?_;simp -implicitDefEqProofs only[go_sem,h6];rcases K with _|⟨y,_|⟨z,K⟩⟩
      · simp -implicitDefEqProofs only[go_sem,z4V,z6L,gA hp,sA hp,gL0,sL0,gL1,sL1];refine Fini.trim2 (ex:=[_]) ?_ rfl ?_ (z0t _ _) (y0 _ _)
        · ((try simp -implicitDefEqProofs only[go_sem,resA,z04,rvA,oneOf,gL0]);first|done|rfl|(rw[z2e];rfl)|rw[rv_eq,hK]|(simp only[rv,rvK,rvL];rw[rv_eq,hK]))
        · simp
      · have g3:(((1:Nat):Int)==1)=true:=rfl;have g4:((0:Int)<((1:Nat):Int))=True:=by simp
        have u0:∀n,Bel n y.rv:=fun n=>z0t n y
        rw[z1b,z1O,List.map_cons,List.map_nil,show(one 2 [y])=y from rfl]
        rw[rv_eq y]at u0⊢;rcases rvK_cases y.ks with hK|⟨l,hK⟩
        all_goals rw[hK]at u0⊢
        all_goals simp -implicitDefEqProofs only[go_sem,gA hp,sA hp,gL0,sL0,gL1,sL1,List.length_map,g3,g4,Int.toNat_zero]
        all_goals (
         refine Fini.trim2 (ex:=[_,_]) ?_ rfl ?_ (u0 _) (y0 _ _)
         · ((try simp -implicitDefEqProofs only[go_sem,resA,z04,rvA,oneOf,gL0]);first|done|rfl|(rw[z2e];rfl)|rw[rv_eq,hK]|(simp only[rv,rvK,rvL];rw[rv_eq,hK]))
         · simp)
      · rw[z1b,z1O];have g2:(((K.length+1+1:Nat):Int)==1)=false:=by simp;omega
        simp -implicitDefEqProofs only[go_sem,gA hp,sA hp,gL0,sL0,gL1,sL1,List.length_map,g2];refine Fini.trim2 (ex:=[_,_]) ?_ rfl ?_ (z0t _ _) (y0 _ _)
        · ((try simp -implicitDefEqProofs only[go_sem,resA,z04,rvA,oneOf,gL0]);first|done|rfl|(rw[z2e];rfl)|rw[rv_eq,hK]|(simp only[rv,rvK,rvL];rw[rv_eq,hK]))
        · simp
 · simp[mkE,vK]
 · rfl
theorem z5w (F:PF) (d:Nat) (hF:FAns 82 [I d] s F) (hfw:Fwd F):FAns 79 [I d] s (pways s F):=by
 intro σ p a b hp hs;refine Ans.of_run' t79 (fun q0 _=>?_)
 have n0:=z3m q0;simp -implicitDefEqProofs only[c79,r79,go_sem,List.append_assoc,List.length_append,List.length_set];unfold pways;simp only;refine CO.intro (hF.ex hp a b hs _) ?_;have j0:(F a b).2.2=true∨s.size≤40:=hfw.hs hs;generalize F a b=w0 at j0⊢;obtain⟨x0,a0,b0⟩:=w0;simp only at j0⊢;have hm:s.size-a0<s.size+1:=by omega
 generalize y0:z2Y s F (s.size+1) [x0] a0 b0=res;rw[rv_eq x0];rcases rvK_cases x0.ks with hK0|⟨l0,hK0⟩
 all_goals rw[hK0]
 all_goals simp -implicitDefEqProofs only[go_sem,gA hp,sA hp,gL0,sL0,gL1,sL1,List.append_assoc,List.length_append,List.length_set]
 all_goals (
  refine L.intro (α:={ x:Nat×List Rex×Nat×Bool // z2Y s F x.1 x.2.1 x.2.2.1 x.2.2.2=res∧s.size-x.2.2.1<x.1∧(x.2.2.2=true∨s.size≤40)∧x.2.1.length≤x.2.2.1+1∧x.2.1≠[] })
   (fun x=>x.1.1)
   (fun x=>mkE 26 [(0,.ptr p 0),(1,I d),(4,.ptr σ.length 0),(5,vK σ.length x.1.2.1)])
   (fun x=>σ.set p (pob s x.1.2.2.1 x.1.2.2.2)++exK x.1.2.1)
   (fun x J hJ=>?_) ⟨(s.size+1,[x0],a0,b0),y0,hm,j0,by simp,by simp⟩ ?_ ?_)
 all_goals try (simp[mkE,vK];done)
 all_goals try (simp only[z1b,List.map_cons,List.map_nil,rv_eq x0,hK0];done)
 all_goals (
  obtain⟨⟨n,K,a1,b1⟩,h1,h2,h3,h4,h5⟩:=x;simp only at h1 h2 h3 h4 h5 hJ⊢;rcases n with _|n
  · omega
  rw[z2Y]at h1;cases hgo:sees s a1 b1 124
  · rw[hgo,if_neg Bool.false_ne_true]at h1;subst h1;clear hJ h2;have hn:=z2H (s:=s) hp a1 b1 124 h3;simp only[nextA,hgo,Bool.false_eq_true,if_false]at hn;simp -implicitDefEqProofs only[mkE,go_sem];refine CO.intro (hn _) ?_;simp -implicitDefEqProofs only[go_sem];rcases K with _|⟨y,_|⟨z,K⟩⟩
    · exact absurd rfl h5
    · have g3:(((1:Nat):Int)==1)=true:=rfl;have g4:((0:Int)<((1:Nat):Int))=True:=by simp
      have k0:∀n,Bel n y.rv:=fun n=>z0t n y
      rw[z1b,z1O,List.map_cons,List.map_nil,show(one 3 [y])=y from rfl]
      rw[rv_eq y]at k0⊢;rcases rvK_cases y.ks with hK|⟨l,hK⟩
      all_goals rw[hK]at k0⊢
      all_goals simp -implicitDefEqProofs only[go_sem,gA hp,sA hp,gL0,sL0,gL1,sL1,List.length_map,g3,g4,Int.toNat_zero]
      all_goals (
       refine Fini.trim2 (ex:=[_,_]) ?_ rfl ?_ (k0 _) (n0 _ _)
       · ((try simp -implicitDefEqProofs only[go_sem,resA,z04,rvA,oneOf,gL0]);first|done|rfl|(rw[z2e];rfl)|rw[rv_eq,hK]|(simp only[rv,rvK,rvL];rw[rv_eq,hK]))
       · simp)
    · rw[z1b,z1O];have g2:(((K.length+1+1:Nat):Int)==1)=false:=by simp;omega
      simp -implicitDefEqProofs only[go_sem,gA hp,sA hp,gL0,sL0,gL1,sL1,List.length_map,g2];refine Fini.trim2 (ex:=[_,_]) ?_ rfl ?_ (z0t _ _) (n0 _ _)
      · ((try simp -implicitDefEqProofs only[go_sem,resA,z04,rvA,oneOf,gL0]);first|done|rfl|(rw[z2e];rfl)|rw[rv_eq,hK]|(simp only[rv,rvK,rvL];rw[rv_eq,hK]))
      · simp
  · rw[hgo,if_pos rfl]at h1;obtain⟨ha,hb⟩:=z8o hgo;subst hb
    have hsz:s.size≤40:=by
     rcases h3 with h|h
     · exact absurd h Bool.false_ne_true
     · exact h
    have m0:=(hfw (a1+1) false).1;have u0:=hJ ⟨(n,K++[(F (a1+1) false).1],(F (a1+1) false).2.1,(F (a1+1) false).2.2),h1,by simp only;omega,.inr hsz,by simp;omega,by simp⟩ (Nat.lt_succ_self n)
    simp only[z6M,z8r]at u0;clear hJ h1;have hn:=z2H (s:=s) hp a1 false 124 h3;simp only[nextA,hgo,if_true]at hn;simp -implicitDefEqProofs only[mkE,go_sem];refine CO.intro (hn _) ?_;simp -implicitDefEqProofs only[go_sem];refine CO.intro (hF.ex hp (a1+1) false (.inr hsz) _) ?_;generalize F (a1+1) false=w at u0 m0⊢;obtain⟨x,a2,b2⟩:=w;simp only at u0 m0⊢;rw[rv_eq x]at u0⊢;rcases K with _|⟨y,K⟩
    · exact absurd rfl h5
    have g1:(K.length+1+1≤2^32)=True:=by simp at h4;simp;omega
    rcases rvK_cases x.ks with hK|⟨l,hK⟩
    all_goals rw[hK]at u0⊢
    all_goals (
     simp -implicitDefEqProofs only[go_sem,z1b,z1O,gA hp,sA hp,gL0,sL0,gL1,sL1,List.length_map,g1]at u0⊢
     simpa[mkE] using u0))
theorem zay:∀k,k≤8→FAns 79 [I ((8-k:Nat):Int)] s (PW s k)
 |0,_=>z5w s _ 8 (z8s s _ 8 (z4x s _ 8 (z6K s _ 8 (Nat.le_refl _) (fun h=>absurd h (Nat.lt_irrefl _)) (fun a b=>⟨Nat.le_refl _,id⟩)) (z22 s (fun a b=>⟨Nat.le_refl _,id⟩) 8))
  (z1X s (z22 s (fun a b=>⟨Nat.le_refl _,id⟩) 8)) (z45 s (z5u s (fun a b=>⟨Nat.le_refl _,id⟩) 8)))
  (z6a s (z1X s (z22 s (fun a b=>⟨Nat.le_refl _,id⟩) 8)))
 |k+1,h=>by
  have ih:=zay k (by omega)
  have hf:=z8q s k;have e:8-(k+1)=7-k:=by omega
  have e2:8-k=7-k+1:=by omega
  rw[e2]at ih;rw[e]
  exact z5w s _ (7-k) (z8s s _ (7-k) (z4x s _ (7-k) (z6K s _ (7-k) (by omega) (fun _=>ih) hf) (z22 s hf _))
   (z1X s (z22 s hf _)) (z45 s (z5u s hf _)))
   (z6a s (z1X s (z22 s hf _)))
def z2Z:Rex×Bool :=
 let w:=PW s 8 0 (decide (40<s.size))
 if w.2.2||decide (w.2.1<s.size) then(.mk 0 0 0 0 0 [],false) else(w.1,true)
theorem z8t (σ:St):Ans Tryd.prog 74 [Sx s] σ (.tup [(z2Z s).1.rv,Bo (z2Z s).2]) σ:=by
 have hw:∀b:Bool,(b=true∨s.size≤40)→Ans Tryd.prog 79 [.ptr (σ.length+1) 0,I 0] (σ++[box0,pob s 0 b]) (PW s 8 0 b).1.rv (σ++[box0,pob s (PW s 8 0 b).2.1 (PW s 8 0 b).2.2]):=by
  intro b hs;have:=zay s 8 (Nat.le_refl _) (σ++[box0,pob s 0 b]) (σ.length+1) 0 b (by simp) hs
  have e:∀o,(σ++[box0,pob s 0 b]).set (σ.length+1) o=σ++[box0,o]:=fun o=>by rw[List.set_append_right _ _ (by omega)];simp
  rwa [e,e]at this
 have hs:(decide (40<s.size))=true∨s.size≤40:=by
  rcases Nat.lt_or_ge 40 s.size with h|h
  · exact .inl (by simpa using h)
  · exact .inr h
 have j0:decide ((40:Int)<(s.size:Int))=decide (40<s.size):=by rw[Bool.eq_iff_iff];simp;omega
 have k0:∀(x y:Ob) (ex:St),(σ++x::y::ex)[σ.length]?=some x:=fun x y ex=>by rw[List.getElem?_append_right (by simp)];simp
 have k1:∀(x y:Ob) (ex:St),(σ++x::y::ex)[σ.length+1]?=some y:=fun x y ex=>by rw[List.getElem?_append_right (by simp)];simp
 have k2:∀(x y z:Ob),(σ++[x,y,z])[σ.length+2]?=some z:=fun x y z=>by rw[List.getElem?_append_right (by simp)];simp
 have s0:∀(x z:Ob) (ex:St),(σ++x::ex).set σ.length z=σ++z::ex:=fun x z ex=>by rw[List.set_append_right _ _ (by simp)];simp
 refine Ans.of_run' t74 (fun u0 _=>?_)
 simp -implicitDefEqProofs only[c74,r74,go_sem,List.append_assoc,List.length_append,j0];refine CO.intro (hw _ hs) ?_;unfold z2Z;generalize PW s 8 0 (decide (40<s.size))=w;obtain⟨x,a,b⟩:=w;simp only;have eL:decide ((a:Int)<(s.size:Int))=decide (a<s.size):=by rw[Bool.eq_iff_iff];simp
 have q0:∀n,Bel n x.rv:=fun n=>z0t n x
 rw[rv_eq x];have y0:=rv_eq x;rcases rvK_cases x.ks with hK|⟨l,hK⟩
 all_goals (
  rw[hK]at y0⊢;cases b
  · cases hlt:decide (a<s.size)
    · simp -implicitDefEqProofs only[go_sem,k0,k1,k2,s0,List.append_assoc,List.length_append,eL,hlt,Bool.or_self,y0];rw[y0]at q0;refine Fini.trim2 (σ':=σ) (ex:=[_,_]) ?_ rfl (Nat.le_refl _) ?_ u0
      · simp -implicitDefEqProofs only[go_sem,resA,z04,rvA,oneOf,k0]
      · exact z4W (q0 _) _
    · simp -implicitDefEqProofs only[go_sem,k0,k1,k2,s0,List.append_assoc,List.length_append,eL,hlt,Bool.or_true];refine Fini.trim2 (σ':=σ) (ex:=[_,_]) ?_ rfl (Nat.le_refl _) ?_ u0
      · simp -implicitDefEqProofs only[go_sem,resA,z04,rvA,oneOf,k0];rfl
      · exact z4W (z0t _ (.mk 0 0 0 0 0 [])) _
  · simp -implicitDefEqProofs only[go_sem,k0,k1,k2,s0,List.append_assoc,List.length_append,Bool.true_or];refine Fini.trim2 (σ':=σ) (ex:=[_,_]) ?_ rfl (Nat.le_refl _) ?_ u0
    · simp -implicitDefEqProofs only[go_sem,resA,z04,rvA,oneOf,k0];rfl
    · exact z4W (z0t _ (.mk 0 0 0 0 0 [])) _)
end
theorem zcd {M:Nat→Prop} {R:Ref→Value→Prop} {w:World}:∀(n:Nat) (x:Rex),SizeOf.sizeOf x≤n→∀v,Rep M R w (rvK x.ks) v→Rep M R w (.sl 6 (x.ks.map av)) v:=by
 intro n
 induction n with
 |zero=>intro x h;cases x;simp at h
 |succ n ih =>
  intro x hx v h;have k0:∀y∈x.ks,SizeOf.sizeOf y<SizeOf.sizeOf x:=fun y hy=>z8g hy
  generalize x.ks=L at h k0;rcases L with _|⟨y,L⟩
  · cases h;exact .sl0 6 _ _
  · rw[z4T]at h;generalize hM:y::L=M' at h k0
    have y0:∀i (hi:i<(M'.map rv).length),(M'.map rv)[i].cells=[I (M'[i]'(by simpa using hi)).op,U (M'[i]'(by simpa using hi)).a,U (M'[i]'(by simpa using hi)).b,U (M'[i]'(by simpa using hi)).c,U (M'[i]'(by simpa using hi)).d,rvK (M'[i]'(by simpa using hi)).ks]:=fun i hi=>by
     rw[List.getElem_map,z9D]
    have u0:∀i (hi:i<(M'.map av).length),(M'.map av)[i].cells=[I (M'[i]'(by simpa using hi)).op,U (M'[i]'(by simpa using hi)).a,U (M'[i]'(by simpa using hi)).b,U (M'[i]'(by simpa using hi)).c,U (M'[i]'(by simpa using hi)).d,.sl 6 ((M'[i]'(by simpa using hi)).ks.map av)]:=fun i hi=>by
     rw[List.getElem_map,av_eq];rfl
    generalize hN:M'.map rv=N at h
    cases h with
    |sl0 => 
     have:M'=[]:=by simpa using hN
     rw[this]at hM;cases hM
    |sl _ _ b o cap f hcap hc hr =>
     subst hN;have e:(M'.map rv).length=(M'.map av).length:=by simp
     rw[e];refine Rep.sl 6 (M'.map av) b o cap f (by rw[←e];exact hcap) ?_ ?_
     · intro i j hi hj;have q0:i<(M'.map rv).length:=by rw[e];exact hi
       refine hc i j q0 ?_;rw[u0 i hi]at hj;rw[y0 i q0];exact hj
     · intro i j hi hj;have q0:i<(M'.map rv).length:=by rw[e];exact hi
       have m0:j<6:=by rw[u0 i hi]at hj;exact hj
       have n0:j<((M'.map rv)[i].cells).length:=by rw[y0 i q0];exact m0
       have h2:=hr i j q0 n0;simp only[y0 i q0]at h2;simp only[u0 i hi];have j0:M'[i]'(by simpa using hi)∈M':=List.getElem_mem _
       have r0:=ih (M'[i]'(by simpa using hi)) (by have:=k0 _ j0;omega)
       have h6:j=0∨j=1∨j=2∨j=3∨j=4∨j=5:=by omega
       rcases h6 with rfl|rfl|rfl|rfl|rfl|rfl
       · exact h2
       · exact h2
       · exact h2
       · exact h2
       · exact h2
       · exact r0 _ h2
theorem zce {M:Nat→Prop} {R:Ref→Value→Prop} {w:World} (x:Rex) (v:Value) (h:Rep M R w x.rv v):Rep M R w x.av v:=by
 have hk:=zcd (M:=M) (R:=R) (w:=w) (SizeOf.sizeOf x) x (Nat.le_refl _);rw[rv_eq]at h;rw[av_eq]
 cases h with
 |agg _ vs hl hr =>
  refine .agg _ vs hl fun j hj u0=>?_
  have h2:=hr j hj u0;have hj6:j<6:=hj;have h6:j=0∨j=1∨j=2∨j=3∨j=4∨j=5:=by omega
  rcases h6 with rfl|rfl|rfl|rfl|rfl|rfl
  · exact h2
  · exact h2
  · exact h2
  · exact h2
  · exact h2
  · exact hk _ h2
theorem Ans.sub {P:Program} {f:FuncId} {x:Rex} {σ σ':St} {r:AV} (h:Ans P f [x.av] σ r σ'):Ans P f [x.rv] σ r σ':=by
 intro M ν w vs hg hr;refine h M ν w vs hg ⟨hr.1,fun j hj u0=>?_⟩
 have h2:=hr.2 j hj u0;have:j=0:=by simp at hj;exact hj
 subst this;exact zce x _ h2
section
variable (s:ByteArray)
end
def z2f (c:Nat):Bool:=decide (97≤c)&&decide (c≤122)||decide (65≤c)&&decide (c≤90)||c==95
def z6N (c:Nat):Bool:=decide (48≤c)&&decide (c≤57)
def nameB (s:ByteArray):Bool:=decide (1≤s.size)&&decide (s.size≤12)&&z2f (byteAt s 0)&&(List.range s.size).all fun i=>z2f (byteAt s i)||z6N (byteAt s i)
theorem z5x (a b:Nat):decide ((a:Int)≤(b:Int))=decide (a≤b):=by
 rw[Bool.eq_iff_iff];simp only[decide_eq_true_eq];omega
theorem z4y (σ:St) (c:Nat):Ans Tryd.prog 78 [.pl (.int .u8 c)] σ (Bo (z2f c)) σ:=by
 have e1:decide ((97:Int)≤c)=decide (97≤c):=z5x 97 c;have e2:decide ((c:Int)≤122)=decide (c≤122):=z5x c 122;have e3:decide ((65:Int)≤c)=decide (65≤c):=z5x 65 c;have e4:decide ((c:Int)≤90)=decide (c≤90):=z5x c 90;have e5:((c:Int)==95)=(c==95):=z1J c 95
 have hg:(if(if decide (97≤c) then decide (c≤122) else false) then true else if(if decide (65≤c) then decide (c≤90) else false) then true else(c==95))=z2f c:=by
  unfold z2f;cases decide (97≤c)<;>cases decide (c≤122)<;>cases decide (65≤c)<;>cases decide (c≤90)<;>cases(c==95)<;>rfl
 rw[←hg];refine Ans.of_run t78 ?_;cases h1:decide (97≤c)<;>cases h2:decide (c≤122)<;>cases h3:decide (65≤c)<;>cases h4:decide (c≤90)<;>rw[h1]at e1<;>rw[h2]at e2<;>rw[h3]at e3<;>rw[h4]at e4
 all_goals (simp -implicitDefEqProofs only[c78,r78,go_sem,e1,e2,e3,e4,e5];exact Fini.ret rfl)
theorem decN (a b:Nat):decide ((a:Int)<(b:Int))=decide (a<b):=by
 rw[Bool.eq_iff_iff];simp only[decide_eq_true_eq];omega
theorem z48 (σ:St) (s:ByteArray):Ans Tryd.prog 65 [Sx s] σ (Bo (nameB s)) σ:=by
 refine Ans.of_run t65 ?_;have d1:decide ((s.size:Int)<1)=decide (s.size<1):=decN s.size 1;have d2:decide ((12:Int)<s.size)=decide (12<s.size):=decN 12 s.size;by_cases h1:s.size<1
 · have e1:decide (s.size<1)=true:=by simpa using h1
   rw[e1]at d1;simp -implicitDefEqProofs only[c65,r65,go_sem,d1];refine Fini.ret' rfl (z1r ?_);rw[nameB,show decide (1≤s.size)=false from decide_eq_false (by omega)];rfl
 have e1:decide (s.size<1)=false:=by simpa using h1
 rw[e1]at d1;by_cases h2:12<s.size
 · have e2:decide (12<s.size)=true:=by simpa using h2
   rw[e2]at d2;simp -implicitDefEqProofs only[c65,r65,go_sem,d1,d2];refine Fini.ret' rfl (z1r ?_);rw[nameB,show decide (s.size≤12)=false from decide_eq_false (by omega),Bool.and_false];rfl
 have e2:decide (12<s.size)=false:=by simpa using h2
 rw[e2]at d2;have z1:((0:Int)<s.size)=True:=by simp;omega
 have n1:decide (1≤s.size)=true:=by simp;omega
 have n2:decide (s.size≤12)=true:=by simp;omega
 simp -implicitDefEqProofs only[c65,r65,go_sem,d1,d2,z1,z0O,Int.toNat_zero];refine CO.intro (z4y _ _) ?_
 cases hl:z2f (byteAt s 0) with
 |false =>
  simp -implicitDefEqProofs only[go_sem,Int.toNat_zero,hl];refine Fini.ret' rfl (z1r ?_);rw[nameB,hl,Bool.and_false];rfl
 |true =>
 simp -implicitDefEqProofs only[go_sem,Int.toNat_zero,hl];refine Go.Ab.L.scan s.size (fun i=>z2f (byteAt s i)||z6N (byteAt s i)) (fun i=>mkE 41 [(0,Sx s),(19,I s.size),(20,I i)]) (fun _=>σ) ?_ ?_ ?_ rfl
 · intro i hi hp J hJ;have u0:((i:Int)<s.size)=True:=by simp;omega
   have y0:=z3B (n:=i) (by omega)
   have f1:decide ((byteAt s i:Int)<48)=decide (byteAt s i<48):=decN _ 48;have f2:decide ((57:Int)<byteAt s i)=decide (57<byteAt s i):=decN 57 _;simp -implicitDefEqProofs only[mkE,go_sem,u0,z0O];refine CO.intro (z4y _ _) ?_
   have hd:z6N (byteAt s i)= !(decide (byteAt s i<48)||decide (57<byteAt s i)):=by
    unfold z6N;rw[Bool.eq_iff_iff];simp
   rw[hd]at hJ
   cases h3:z2f (byteAt s i) with
   |true =>
    rw[h3]at hJ;simp -implicitDefEqProofs only[go_sem,y0];exact hJ rfl
   |false =>
    rw[h3]at hJ;simp -implicitDefEqProofs only[go_sem,u0,z0O];cases h4:decide (byteAt s i<48)<;>rw[h4]at f1 hJ
    · cases h5:decide (57<byteAt s i)<;>rw[h5]at f2 hJ
      · simp -implicitDefEqProofs only[go_sem,f1,f2,u0,z0O,y0];exact hJ rfl
      · simp -implicitDefEqProofs only[go_sem,f1,f2,u0,z0O];refine Fini.ret' rfl (z1r ?_);rw[nameB,List.all_eq_false.2 ⟨i,List.mem_range.2 hi,by simp[h3,hd,h4,h5]⟩,Bool.and_false]
    · simp -implicitDefEqProofs only[go_sem,f1,u0,z0O];refine Fini.ret' rfl (z1r ?_);rw[nameB,List.all_eq_false.2 ⟨i,List.mem_range.2 hi,by simp[h3,hd,h4]⟩,Bool.and_false]
 · intro hp J;have u0:((s.size:Int)<s.size)=False:=by simp
   simp -implicitDefEqProofs only[mkE,go_sem,u0];refine Fini.ret' rfl (z1r ?_);rw[nameB,n1,n2,hl,List.all_eq_true.2 fun i hi=>hp i (List.mem_range.1 hi)];rfl
 · rfl
def likeB (k:Int):Bool:=k==3||k==4
def isB (k:Int) (nm v:ByteArray):Bool:=nameB nm&&(if likeB k then(z2Z v).2 else(k==1||k==2)&&decide (v.size≤24))
theorem z9E (σ:St) (k:Int) (nm v:ByteArray):Ans Tryd.prog 73 [mat k nm v] σ (Bo (likeB k)) σ:=by
 refine Ans.of_run t73 ?_;simp -implicitDefEqProofs only[c73,r73,go_sem];unfold likeB;cases h:k==3
 · simp -implicitDefEqProofs only[go_sem];exact Fini.ret rfl
 · simp -implicitDefEqProofs only[go_sem];exact Fini.ret rfl
theorem zcf (σ:St) (k:Int) (nm v:ByteArray):Ans Tryd.prog 63 [mat k nm v] σ (Bo (isB k nm v)) σ:=by
 refine Ans.of_run t63 ?_;unfold isB;simp -implicitDefEqProofs only[c63,r63,go_sem];refine CO.intro (z48 σ nm) ?_
 cases hn:nameB nm with
 |false =>
  simp -implicitDefEqProofs only[go_sem];exact Fini.ret rfl
 |true =>
 simp -implicitDefEqProofs only[go_sem];refine CO.intro (z9E σ k nm v) ?_
 cases hk:likeB k with
 |true =>
  simp -implicitDefEqProofs only[go_sem];refine CO.intro (z8t v σ) ?_;have u0:=Rex.rv_eq (z2Z v).1;generalize (z2Z v).1=x at u0⊢;generalize (z2Z v).2=b;rw[u0];rcases Rex.rvK_cases x.ks with e|⟨l,e⟩<;>rw[e]
  all_goals (simp -implicitDefEqProofs only[go_sem];exact Fini.ret rfl)
 |false =>
  have d:decide ((v.size:Int)≤24)=decide (v.size≤24):=z5x v.size 24;simp -implicitDefEqProofs only[go_sem]
  cases h1:k==1 with
  |true =>
   simp -implicitDefEqProofs only[go_sem,d];exact Fini.ret rfl
  |false =>
   simp -implicitDefEqProofs only[go_sem]
   cases h2:k==2 with
   |true =>
    simp -implicitDefEqProofs only[go_sem,d];exact Fini.ret rfl
   |false =>
    simp -implicitDefEqProofs only[go_sem];exact Fini.ret rfl
abbrev Mtr:=Int×ByteArray×ByteArray
def mv3 (x:Mtr):AV:=mat x.1 x.2.1 x.2.2
def mvs3 (L:List Mtr):List AV:=L.map mv3
def cmpL:List UInt8→List UInt8→Int
 |[],[]=>0
 |[],_::_=>-1
 |_::_,[]=>1
 |a::x,b::y=>if a != b then(if a<b then -1 else 1) else cmpL x y
def cmpI2 (x y:List UInt8):Int:=match(List.range (min x.length y.length)).find? fun i=>x.getD i 0 != y.getD i 0 with
 |some i=>if x.getD i 0<y.getD i 0 then -1 else 1
 |none=>if x.length<y.length then -1 else if x.length>y.length then 1 else 0
theorem z6O:∀x y:List UInt8,cmpI2 x y=cmpL x y
 |[],[]=>rfl
 |[],b::y=>by simp[cmpI2,cmpL]
 |a::x,[]=>by simp[cmpI2,cmpL]
 |a::x,b::y=>by
  rw[cmpL,←z6O x y];unfold cmpI2;rw[List.length_cons,List.length_cons,Nat.succ_min_succ,List.range_succ_eq_map,List.find?_cons];simp only[List.getD_cons_zero]
  cases h:(a != b) with
  |true=>simp
  |false =>
   simp only[Bool.false_eq_true,if_false];rw[List.find?_map];simp only[Function.comp_def,List.getD_cons_succ]
   cases(List.range (min x.length y.length)).find? fun i=>x.getD i 0 != y.getD i 0 with
   |none=>simp
   |some i=>simp
theorem z5y:∀x y:List UInt8,cmpL x y=if x==y then 0 else if Op.bytesLess x y then -1 else 1
 |[],[]=>rfl
 |[],b::y=>by simp[cmpL,Op.bytesLess]
 |a::x,[]=>by simp[cmpL,Op.bytesLess]
 |a::x,b::y=>by
  rw[cmpL,z5y x y,Op.bytesLess];by_cases h:a=b
  · subst h;have:¬a<a:=by simp
    simp[this]
  · by_cases hl:a<b
    · simp[h,hl]
    · simp[h,hl]
theorem z9F (a b:ByteArray):Extern.BytealgCompare.cmp a b=cmpL a.data.toList b.data.toList:=by
 rw[←z6O];unfold Extern.BytealgCompare.cmp cmpI2
 have hg:∀(a:ByteArray) (i:Nat),a[i]! =a.data.toList.getD i 0:=fun a i=>by
  rw[List.getD_eq_getElem?_getD,Array.getElem?_toList,getElem!_def];by_cases h:i<a.size
  · have h1:a[i]?=some a[i]:=by rw[getElem?_pos]
    have h2:a.data[i]?=some a[i]:=Array.getElem?_eq_getElem h;rw[h1,h2];rfl
  · have h1:a[i]?=none:=by rw[getElem?_neg];exact h
    have h2:a.data[i]?=none:=Array.getElem?_eq_none (by simpa using h)
    rw[h1,h2];rfl
 simp only[hg];rfl
end Go.Proofs.YteakobbdgehlgaaDoor
