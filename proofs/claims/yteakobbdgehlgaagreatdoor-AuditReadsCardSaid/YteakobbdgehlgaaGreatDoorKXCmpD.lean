/- The small functions of the parser of patterns. No condition. -/
import Derived.Test.YteakobbdgehlgaaGreatDoorKMRunD
import Derived.Test.YteakobbdgehlgaaGreatDoorAbArgD
import GoSem.Extern.BytealgCompare
set_option linter.unusedSimpArgs false
set_option linter.unusedVariables false
set_option linter.unusedSectionVars false
namespace Go.Proofs.YteakobbdgehlgaaGreatDoor
open Go Go.Ab
set_option maxRecDepth 100000
abbrev B8 (n:Int):AV:=.pl (.int .u8 n)
abbrev pob (s:ByteArray) (at_:Nat) (bad:Bool):Ob:=.box [Sx s,I at_,Bo bad]
def byteAt (s:ByteArray) (a:Nat):Nat:=(s.data.toList.getD a 0).toNat
theorem z09 (s:ByteArray) (a:Nat):(s.data.toList.getD a 0).toNat=byteAt s a:=rfl
theorem z1Y (s:ByteArray) (a:Nat):byteAt s a<256:=(s.data.toList.getD a 0).toNat_lt
theorem z0i (a b:Nat):((a:Int)==(b:Int))=(a==b):=by
 rw[Bool.eq_iff_iff];simp only[beq_iff_eq];omega
theorem set_same {σ:St} {p:Nat} {o:Ob} (h:σ[p]?=some o):σ.set p o=σ:=by
 apply List.ext_getElem?;intro i;rw[List.getElem?_set];split
 · rename_i e;subst e;have:p<σ.length:=(List.getElem?_eq_some_iff.1 h).1;simp only[this,if_true,h]
 · rfl
theorem z0P {n:Nat} (h:n≤4294967296):IntKind.i64.wrap ((n:Int)+1)=((n+1:Nat):Int):=by
 simp only[IntKind.wrap,IntKind.bits,IntKind.signed];simp;omega
def over (s:ByteArray) (a:Nat) (bad:Bool):Bool:=bad||decide (s.size≤a)
def sees (s:ByteArray) (a:Nat) (bad:Bool) (c:Nat):Bool:=!over s a bad&&(byteAt s a==c)
def nextA (s:ByteArray) (a:Nat) (bad:Bool) (c:Nat):Nat:=if sees s a bad c then a+1 else a
def pbyte (s:ByteArray) (a:Nat) (bad:Bool):Nat×Nat×Bool:=if over s a bad then(0,a,true) else(byteAt s a,a+1,bad)
def signs:List Nat:=[124,42,43,63,40,41,91,93,46,92,94,45]
def within:List Nat:=[92,93,91,94,45]
def psign (s:ByteArray) (a:Nat) (bad:Bool):Nat×Nat×Bool :=
 ((pbyte s a bad).1,(pbyte s a bad).2.1,(pbyte s a bad).2.2|| !signs.contains (pbyte s a bad).1)
def z07 (s:ByteArray) (a:Nat) (bad:Bool):Nat×Nat×Bool :=
 if(pbyte s a bad).1==92 then psign s (pbyte s a bad).2.1 (pbyte s a bad).2.2
 else((pbyte s a bad).1,(pbyte s a bad).2.1,(pbyte s a bad).2.2||within.contains (pbyte s a bad).1)
theorem z1t {s:ByteArray} {a:Nat} {bad:Bool} (h:over s a bad=false):a<s.size:=by
 simp[over]at h;omega
theorem z3t (s:ByteArray) (a:Nat) (bad:Bool):(pbyte s a bad).1<256:=by
 unfold pbyte;split
 · show 0<256;decide
 · exact z1Y s a
theorem z65 (s:ByteArray) (a:Nat) (bad:Bool):(z07 s a bad).1<256:=by
 unfold z07;split
 · exact z3t _ _ _
 · exact z3t _ _ _
section
variable (σ:St) (p:Nat) (s:ByteArray) (a:Nat) (bad:Bool)
theorem z3W (h:σ[p]?=some (pob s a bad)):Ans Tryz.prog 181 [.ptr p 0] σ (Bo (over s a bad)) σ:=by
 refine Ans.of_run t181 ?_;cases bad<;>simp -implicitDefEqProofs only[c181,r181,h,go_sem]
 · refine Fini.ret ?_;simp -implicitDefEqProofs only[go_sem,over,Bool.false_or,Int.ofNat_le];rfl
 · exact Fini.ret rfl
theorem z4K (c:Nat) (h:σ[p]?=some (pob s a bad)):Ans Tryz.prog 182 [.ptr p 0,B8 c] σ (Bo (sees s a bad c)) σ:=by
 refine Ans.of_run t182 ?_;simp -implicitDefEqProofs only[c182,r182,h,go_sem];refine CD.intro (z3W σ p s a bad h) ?_;cases hb:over s a bad
 · have hlt:=z1t hb;have h1:(a:Int)<s.size:=by omega
   simp -implicitDefEqProofs only[go_sem,h,h1,z09];refine Fini.ret ?_;simp -implicitDefEqProofs only[go_sem,sees,hb,z0i];rfl
 · simp -implicitDefEqProofs only[go_sem,h];refine Fini.ret ?_;simp -implicitDefEqProofs only[go_sem,sees,hb,Bool.false_and];rfl
theorem z4L (c:Nat) (hs:bad=true∨s.size≤40) (h:σ[p]?=some (pob s a bad)):Ans Tryz.prog 178 [.ptr p 0,B8 c] σ (Bo (sees s a bad c)) (σ.set p (pob s (nextA s a bad c) bad)):=by
 refine Ans.of_run t178 ?_;simp -implicitDefEqProofs only[c178,r178,h,go_sem];refine CO.intro (z4K σ p s a bad c h) ?_;unfold nextA;cases hb:sees s a bad c
 · simp -implicitDefEqProofs only[go_sem];rw[set_same h];exact Fini.ret rfl
 · have hlt:a<s.size:=by
    simp[sees]at hb;exact z1t hb.1
   have hsz:s.size≤40:=by
    rcases hs with rfl|hs
    · simp[sees,over]at hb
    · exact hs
   simp -implicitDefEqProofs only[go_sem,h,z0P (show a≤4294967296 by omega)]
   exact Fini.ret rfl
theorem z6B (hs:bad=true∨s.size≤40) (h:σ[p]?=some (pob s a bad)):Ans Tryz.prog 191 [.ptr p 0] σ (B8 (pbyte s a bad).1) (σ.set p (pob s (pbyte s a bad).2.1 (pbyte s a bad).2.2)):=by
 refine Ans.of_run t191 ?_;simp -implicitDefEqProofs only[c191,r191,h,go_sem];refine CO.intro (z3W σ p s a bad h) ?_;unfold pbyte;cases hb:over s a bad
 · have hlt:=z1t hb
   have hsz:s.size≤40:=by
    rcases hs with rfl|hs
    · simp[over]at hb
    · exact hs
   have h1:(a:Int)<s.size:=by omega
   have h2:IntKind.i64.wrap (((a+1:Nat):Int)-1)=(a:Int):=by
    simp only[IntKind.wrap,IntKind.bits,IntKind.signed];simp;omega
   simp -implicitDefEqProofs only[go_sem,h,z0j h,z0P (show a≤4294967296 by omega),h1,h2,z09]
   exact Fini.ret rfl
 · simp -implicitDefEqProofs only[go_sem,h,z0j h];exact Fini.ret rfl
theorem idx60 (t:ByteArray) (c:Nat):Ans Tryz.prog 199 [Sx t,B8 c] σ (I (firstIdx t c.toUInt8)) σ:=zfC _ _ _ _ rfl
theorem z3I (t:ByteArray) (c:Nat):Ans Tryz.prog 196 [Sx t,B8 c] σ (I (firstIdx t c.toUInt8)) σ:=by
 have h58:Ans Tryz.prog 198 [Sx t,B8 c] σ (I (firstIdx t c.toUInt8)) σ:=by
  refine Ans.of_run t198 ?_;simp -implicitDefEqProofs only[c198,r198,go_sem];refine CO.intro (idx60 σ t c) ?_;simp -implicitDefEqProofs only[go_sem];exact Fini.ret rfl
 refine Ans.of_run t196 ?_;simp -implicitDefEqProofs only[c196,r196,go_sem];refine CO.intro h58 ?_;simp -implicitDefEqProofs only[go_sem];exact Fini.ret rfl
theorem zb1:∀c:Nat,c<256→decide (firstIdx (ByteArray.mk #[124,42,43,63,40,41,91,93,46,92,94,45]) c.toUInt8<0)= !signs.contains c:=by decide +kernel
theorem z9Q:∀c:Nat,c<256→decide (0≤firstIdx (ByteArray.mk #[92,93,91,94,45]) c.toUInt8)=within.contains c:=by decide +kernel
def stray:List Nat:=[42,43,63,93]
theorem zb2:∀c:Nat,c<256→decide (0≤firstIdx (ByteArray.mk #[42,43,63,93]) c.toUInt8)=stray.contains c:=by decide +kernel
theorem z8W (hs:bad=true∨s.size≤40) (h:σ[p]?=some (pob s a bad)):Ans Tryz.prog 195 [.ptr p 0] σ (B8 (psign s a bad).1) (σ.set p (pob s (psign s a bad).2.1 (psign s a bad).2.2)):=by
 have hc:=zb1 _ (z3t s a bad);unfold psign;refine Ans.of_run t195 ?_;simp -implicitDefEqProofs only[c195,r195,h,go_sem];refine CO.intro (z6B σ p s a bad hs h) ?_;generalize pbyte s a bad=q at hc⊢;obtain⟨c,a',b'⟩:=q;have hg:(σ.set p (pob s a' b'))[p]?=some (pob s a' b'):=z0j h _
 cases b' with
 |true =>
  simp -implicitDefEqProofs only[go_sem,hg,List.set_set];exact Fini.ret rfl
 |false =>
  simp -implicitDefEqProofs only[go_sem,hg];refine CO.intro (z3I _ _ c) ?_;simp -implicitDefEqProofs only[go_sem,hg,List.set_set];refine Fini.ret2 (n:=0) rfl rfl ?_;rw[hc];rfl
theorem z66 (hs:bad=true∨s.size≤40) (h:σ[p]?=some (pob s a bad)):Ans Tryz.prog 197 [.ptr p 0] σ (B8 (z07 s a bad).1) (σ.set p (pob s (z07 s a bad).2.1 (z07 s a bad).2.2)):=by
 have hc:=z9Q _ (z3t s a bad)
 have hs':(pbyte s a bad).2.2=true∨s.size≤40:=by
  unfold pbyte;split
  · exact .inl rfl
  · exact hs
 unfold z07;refine Ans.of_run t197 ?_;simp -implicitDefEqProofs only[c197,r197,h,go_sem];refine CO.intro (z6B σ p s a bad hs h) ?_;generalize pbyte s a bad=q at hc hs'⊢;obtain⟨c,a',b'⟩:=q;have hg:(σ.set p (pob s a' b'))[p]?=some (pob s a' b'):=z0j h _;have hc92:((c:Int)==92)=(c==92):=z0i c 92
 cases h92:c==92 with
 |true =>
  simp -implicitDefEqProofs only[go_sem,hc92,h92];refine CO.intro (z8W _ p s a' b' hs' hg) ?_;simp -implicitDefEqProofs only[go_sem,List.set_set];exact Fini.ret rfl
 |false =>
  simp -implicitDefEqProofs only[go_sem,hc92,h92]
  cases b' with
  |true =>
   simp -implicitDefEqProofs only[go_sem,hg,List.set_set];exact Fini.ret rfl
  |false =>
   simp -implicitDefEqProofs only[go_sem,hg];refine CO.intro (z3I _ _ c) ?_;simp -implicitDefEqProofs only[go_sem,hg,List.set_set];refine Fini.ret2 (n:=0) rfl rfl ?_;rw[hc];rfl
end
def orU (v w:Int):Int:=IntKind.u64.wrap (BitVec.ofInt IntKind.u64.bits v ||| BitVec.ofInt IntKind.u64.bits w).toNat
def bitU (r:Nat):Int:=IntKind.u64.wrap (1*2^(min r IntKind.u64.bits))
def notU (v:Int):Int:=IntKind.u64.wrap (BitVec.ofInt IntKind.u64.bits (if IntKind.u64.signed then -1 else IntKind.u64.max) ^^^ BitVec.ofInt IntKind.u64.bits v).toNat
def z2G (S:List Int) (c:Nat):List Int:=S.set (c/64) (orU (S.getD (c/64) 0) (bitU (c%64)))
def addR (S:List Int) (f:Nat):Nat→List Int
 |0=>S
 |n+1=>z2G (addR S f n) (f+n)
theorem z9R (S:List Int) (c:Nat):(z2G S c).length=S.length:=by simp[z2G]
theorem z2H (S:List Int) (f n:Nat):(addR S f n).length=S.length:=by
 induction n with
 |zero=>rfl
 |succ n ih=>rw[addR,z9R,ih]
theorem gA {σ:St} {p:Nat} (hp:p<σ.length) (o:Ob) (ex:St):(σ.set p o++ex)[p]?=some o:=by
 rw[List.getElem?_append_left (by simpa using hp)];simp[hp]
theorem sA {σ:St} {p:Nat} (hp:p<σ.length) (o o':Ob) (ex:St):(σ.set p o++ex).set p o'=σ.set p o'++ex:=by
 rw[List.set_append_left _ _ (by simpa using hp),List.set_set]
theorem gL0 (σ:St) (p:Nat) (o x:Ob) (ex:St):(σ.set p o++x::ex)[σ.length]?=some x:=by
 rw[List.getElem?_append_right (by simp)];simp
theorem sL0 (σ:St) (p:Nat) (o x y:Ob) (ex:St):(σ.set p o++x::ex).set σ.length y=σ.set p o++y::ex:=by
 rw[List.set_append_right _ _ (by simp)];simp
theorem gL1 (σ:St) (p:Nat) (o x y:Ob) (ex:St):(σ.set p o++x::y::ex)[σ.length+1]?=some y:=by
 rw[List.getElem?_append_right (by simp)];simp
theorem sL1 (σ:St) (p:Nat) (o x y z:Ob) (ex:St):(σ.set p o++x::y::ex).set (σ.length+1) z=σ.set p o++x::z::ex:=by
 rw[List.set_append_right _ _ (by simp)];simp
theorem Fini.normal2 {n m:Nat} {rvs:List RV} {r r':AV} {σ σ':St} {env:Env} (h:resA env σ rvs=some r') (e:r'=r) (e':σ=σ'):Fini m rvs r σ' .normal env σ:=by
 subst e;subst e';exact Fini.normal h
section
variable (σ:St)
theorem z3J (l off:Nat) (cs:List AV) (c:Nat) (v:Int) (h:σ[l]?=some (.box cs)) (hv:cs[off+c/64]?=some (U v)) (hc:c<256) :
  Ans Tryz.prog 194 [.ptr l off,B8 c] σ (.tup []) (σ.set l (.box (cs.set (off+c/64) (U (orU v (bitU (c%64))))))):=by
 have hk:off+c/64<cs.length:=(List.getElem?_eq_some_iff.1 hv).1
 have e1:IntKind.u8.wrap ((c:Int).tdiv 64)=((c/64:Nat):Int):=by
  rw[show(c:Int).tdiv 64=((c/64:Nat):Int) from rfl]
  simp only[IntKind.wrap,IntKind.bits,IntKind.signed];simp;omega
 have e2:(c:Int).tmod 64=((c%64:Nat):Int):=rfl;have e3:((64:Int)=0)=False:=by simp
 have e4:(((c/64:Nat):Int)<(4:Nat))=True:=by simp;omega
 have e5:cs.drop (off+c/64)=U v::cs.drop (off+c/64+1):=by
  rw[List.drop_eq_getElem_cons hk];have:=(List.getElem?_eq_some_iff.1 hv).2;rw[this]
 have e6:(off+c/64+1≤cs.length)=True:=by simp;omega
 have e7:(1≤(cs.drop (off+c/64+1)).length+1)=True:=by simp
 refine Ans.of_run t194 ?_;simp -implicitDefEqProofs only[c194,r194,go_sem,e1,e2,e3,e4,Nat.mul_one,h,e5,e6,e7,List.drop_succ_cons]
 have hset:cs.set (off+c/64) (U (orU v (bitU (c%64))))=cs.take (off+c/64)++[U (orU v (bitU (c%64)))]++cs.drop (off+c/64+1):=by
  rw[List.set_eq_take_append_cons_drop,if_pos hk];simp
 rw[hset];exact Fini.normal2 (n:=0) rfl rfl rfl
def turnS (S:List Int):List Int:=S.map notU
theorem turned_ans (a b c d:Int):Ans Tryz.prog 193 [.agg [U a,U b,U c,U d]] σ (.agg [U (notU a),U (notU b),U (notU c),U (notU d)]) σ:=by
 have k0:∀(x y:Ob),(σ++[x,y])[σ.length]?=some x:=fun x y=>by rw[List.getElem?_append_right (by simp)];simp
 have k1:∀(x y:Ob),(σ++[x,y])[σ.length+1]?=some y:=fun x y=>by rw[List.getElem?_append_right (by simp)];simp
 have s0:∀(x y z:Ob),(σ++[x,y]).set σ.length z=σ++[z,y]:=fun x y z=>by rw[List.set_append_right _ _ (by simp)];simp
 have s1:∀(x y z:Ob),(σ++[x,y]).set (σ.length+1) z=σ++[x,z]:=fun x y z=>by rw[List.set_append_right _ _ (by simp)];simp
 have q1:IntKind.i64.wrap (0+1)=1:=by decide
 have q2:IntKind.i64.wrap (1+1)=2:=by decide
 have q3:IntKind.i64.wrap (2+1)=3:=by decide
 have q4:IntKind.i64.wrap (3+1)=4:=by decide
 have q5:IntKind.i64.wrap 1=1:=by decide
 have q6:IntKind.i64.wrap 2=2:=by decide
 have q7:IntKind.i64.wrap 3=3:=by decide
 have q8:IntKind.i64.wrap 4=4:=by decide
 have n1:Int.toNat 1=1:=rfl;have n2:Int.toNat 2=2:=rfl;have n3:Int.toNat 3=3:=rfl;have c4:((4:Nat):Int)=4:=rfl;refine Ans.of_run' t193 (fun hbel _=>?_)
 simp -implicitDefEqProofs only[c193,r193,go_sem,List.append_assoc,List.length_append]
 refine L.count 4 (fun i=>mkE 15 [(1,.ptr σ.length 0),(2,.ptr (σ.length+1) 0),(4,I i)])
  (fun i=>σ++[.box (match i with|0=>[U a,U b,U c,U d]|1=>[U (notU a),U b,U c,U d]|2=>[U (notU a),U (notU b),U c,U d]|3=>[U (notU a),U (notU b),U (notU c),U d]|_=>[U (notU a),U (notU b),U (notU c),U (notU d)]),.box [U 0,U 0,U 0,U 0]]) ?_ ?_ rfl rfl
 · intro i hi Q hQ
   match i,hi,hQ with
   |0,_,hQ =>
    simp -implicitDefEqProofs only[mkE,go_sem,k0,k1,s0,s1,q1,q2,q3,q4,q5,q6,q7,q8,n1,n2,n3,c4,Int.toNat_zero,Int.cast_ofNat_Int,Int.natCast_one,Int.natCast_zero];exact hQ
   |1,_,hQ =>
    simp -implicitDefEqProofs only[mkE,go_sem,k0,k1,s0,s1,q1,q2,q3,q4,q5,q6,q7,q8,n1,n2,n3,c4,Int.toNat_zero,Int.cast_ofNat_Int,Int.natCast_one,Int.natCast_zero];exact hQ
   |2,_,hQ =>
    simp -implicitDefEqProofs only[mkE,go_sem,k0,k1,s0,s1,q1,q2,q3,q4,q5,q6,q7,q8,n1,n2,n3,c4,Int.toNat_zero,Int.cast_ofNat_Int,Int.natCast_one,Int.natCast_zero];exact hQ
   |3,_,hQ =>
    simp -implicitDefEqProofs only[mkE,go_sem,k0,k1,s0,s1,q1,q2,q3,q4,q5,q6,q7,q8,n1,n2,n3,c4,Int.toNat_zero,Int.cast_ofNat_Int,Int.natCast_one,Int.natCast_zero];exact hQ
 · intro Q;simp -implicitDefEqProofs only[mkE,go_sem,k0,k1,s0,s1,c4,Int.cast_ofNat_Int];refine Fini.trim2 (σ':=σ) (ex:=[.box [U (notU a),U (notU b),U (notU c),U (notU d)],.box [U (notU a),U (notU b),U (notU c),U (notU d)]]) ?_ rfl (Nat.le_refl _) ?_ hbel
   · simp -implicitDefEqProofs only[go_sem,resA,z01,rvA,oneOf,k1]
   · refine .agg _ fun i hi=>?_
     have:∀y∈[U (notU a),U (notU b),U (notU c),U (notU d)],Bel σ.length y:=by
      intro y hy;simp only[List.mem_cons,List.not_mem_nil,or_false]at hy;rcases hy with rfl|rfl|rfl|rfl<;>exact .pl _
     exact this _ (List.getElem_mem hi)
end
def fuel:Nat:=2^64+1
def tstU (v:Int) (r:Nat):Bool:=IntKind.u64.wrap (BitVec.ofInt IntKind.u64.bits (v.fdiv (2^(min ((r:Int)).toNat IntKind.u64.bits))) &&& BitVec.ofInt IntKind.u64.bits 1).toNat==1
def setU (s:Stp) (k:Nat):Int:=[s.a,s.b,s.c,s.d].getD k 0
def z5d (s:Stp) (c:Nat):Bool:=s.op==1&&tstU (setU s (c/64)) (c%64)
def stpAt (ys:List Stp) (i:Nat):Stp:=ys.getD i ⟨0,0,0,0,0,0,0⟩
def cGo (s:ByteArray) (a:Nat) (b first:Bool):Bool:=first||(!over s a b&& !sees s a b 93)
def cTo (s:ByteArray) (a:Nat) (b:Bool):Nat×Nat×Bool :=
 if sees s (z07 s a b).2.1 (z07 s a b).2.2 45 then z07 s ((z07 s a b).2.1+1) (z07 s a b).2.2 else z07 s a b
def cBad (s:ByteArray) (a:Nat) (b:Bool):Bool:=(cTo s a b).2.2||decide ((cTo s a b).1<(z07 s a b).1)
def z1g (s:ByteArray):Nat→List Int→Nat→Bool→Bool→List Int×Nat×Bool
 |0,S,a,b,_=>(S,a,b)
 |n+1,S,a,b,first=>if cGo s a b first then
   z1g s n (addR S (z07 s a b).1 ((cTo s a b).1+1-(z07 s a b).1)) (cTo s a b).2.1 (cBad s a b) false
  else(S,a,b)
def cMeas (s:ByteArray) (a:Nat) (b first:Bool):Nat:=(s.size-a)+(if b then 0 else 1)+(if first then 1 else 0)
theorem z4M (s:ByteArray) (a:Nat) (b:Bool):a≤(pbyte s a b).2.1:=by
 unfold pbyte;split
 · exact Nat.le_refl _
 · exact Nat.le_succ _
theorem z3X (s:ByteArray) (a:Nat):(pbyte s a true)=(0,a,true):=by simp[pbyte,over]
theorem z9S (s:ByteArray) (a:Nat) (b:Bool) (h:b=false):(s.size-(pbyte s a b).2.1)+(if(pbyte s a b).2.2 then 0 else 1)+1≤(s.size-a)+1:=by
 subst h;unfold pbyte;split
 · simp
 · rename_i h;have:a<s.size:=z1t (by simpa using h)
   simp;omega
theorem z3Y (s:ByteArray) (a:Nat) (b:Bool):a≤(psign s a b).2.1:=z4M s a b
theorem z67 (s:ByteArray) (a:Nat) (b:Bool):a≤(z07 s a b).2.1:=by
 unfold z07;split
 · exact Nat.le_trans (z4M s a b) (z3Y _ _ _)
 · exact z4M s a b
theorem z68 (s:ByteArray) (a:Nat):(psign s a true).2.2=true:=by simp[psign,z3X]
theorem z3m (s:ByteArray) (a:Nat):z07 s a true=(0,a,true):=by simp[z07,z3X]
theorem z7j (s:ByteArray) (a:Nat) (b:Bool) (h:b=false):(s.size-(z07 s a b).2.1)+(if(z07 s a b).2.2 then 0 else 1)+1≤(s.size-a)+1:=by
 have h1:=z9S s a b h;unfold z07;split
 · have h2:=z3Y s (pbyte s a b).2.1 (pbyte s a b).2.2
   cases hb:(pbyte s a b).2.2 with
   |true =>
    rw[hb]at h1 h2;rw[z68];simp at h1⊢;omega
   |false =>
    rw[hb]at h1 h2;simp at h1;split<;>omega
 · cases hb:(pbyte s a b).2.2 with
   |true=>rw[hb]at h1;simp at h1⊢;omega
   |false =>
    rw[hb]at h1;simp only[Bool.false_or,Bool.false_eq_true,if_false]at h1⊢;split<;>omega
theorem zdW (s:ByteArray) (a:Nat) (b:Bool):(z07 s a b).2.1≤(cTo s a b).2.1:=by
 unfold cTo;split
 · exact Nat.le_trans (Nat.le_succ _) (z67 _ _ _)
 · exact Nat.le_refl _
theorem z8X (s:ByteArray) (a:Nat) (b:Bool) (h:(z07 s a b).2.2=true):(cTo s a b).2.2=true:=by
 unfold cTo;split
 · rw[h,z3m]
 · exact h
theorem z8Y (s:ByteArray) (a:Nat):cTo s a true=(0,a,true):=by
 unfold cTo;rw[z3m];simp[sees,over]
theorem z5e (s:ByteArray) (a:Nat):cBad s a true=true:=by simp[cBad,z8Y]
theorem zfD (s:ByteArray) (a:Nat) (b:Bool):(cTo s a b).1<256:=by
 unfold cTo;split<;>exact z65 _ _ _
theorem zcB (s:ByteArray) (a:Nat) (b first:Bool) (h:cGo s a b first=true):cMeas s (cTo s a b).2.1 (cBad s a b) false<cMeas s a b first:=by
 unfold cMeas
 cases b with
 |true =>
  rw[z5e,z8Y]
  cases first with
  |true=>simp
  |false=>simp[cGo,over]at h
 |false =>
  have h1:=z7j s a false rfl;have h2:=zdW s a false
  have h3:(if cBad s a false then 0 else 1)≤(if(z07 s a false).2.2 then 0 else 1):=by
   cases hm:(z07 s a false).2.2 with
   |true=>simp[cBad,z8X s a false hm]
   |false=>split<;>simp
  have h0:(if(false:Bool)=true then 0 else 1)=1:=rfl
  have h0':(if(false:Bool)=true then 1 else 0)=0:=rfl
  cases first with
  |true =>
   have h5:(if(true:Bool)=true then 1 else 0)=1:=rfl
   rw[h0,h0',h5];omega
  |false =>
   have hov:over s a false=false:=by simp[cGo]at h;exact h.1
   have hlt:=z1t hov
   have hp:a+1≤(z07 s a false).2.1:=by
    have:(pbyte s a false).2.1=a+1:=by simp[pbyte,hov]
    unfold z07;split
    · exact Nat.le_trans (by omega) (z3Y _ _ _)
    · show a+1≤(pbyte s a false).2.1;omega
   have h4:(if cBad s a false then 0 else 1)≤1:=by split<;>omega
   rw[h0,h0'];omega
def z2d (s:ByteArray) (a:Nat) (b:Bool):List Int×Nat×Bool :=
 let l:=z1g s (s.size+3) [0,0,0,0] (nextA s a b 94) b true
 ((if sees s a b 94 then turnS l.1 else l.1),nextA s l.2.1 l.2.2 93,!sees s l.2.1 l.2.2 93||l.2.2)
theorem z4j (s:ByteArray):∀(n:Nat) (S:List Int) (a:Nat) (b first:Bool),(z1g s n S a b first).1.length=S.length
 |0,S,a,b,first=>rfl
 |n+1,S,a,b,first=>by
  rw[z1g];split
  · rw[z4j s n,z2H]
  · rfl
theorem z9T {s:ByteArray} {a:Nat} {b:Bool} (h:b=true∨s.size≤40):(z07 s a b).2.2=true∨s.size≤40:=by
 rcases h with rfl|h
 · exact .inl (by rw[z3m])
 · exact .inr h
theorem zb3 {s:ByteArray} {a:Nat} {b:Bool} (h:b=true∨s.size≤40):cBad s a b=true∨s.size≤40:=by
 rcases h with rfl|h
 · exact .inl (z5e s a)
 · exact .inr h
theorem z7k (s:ByteArray):∀(n:Nat) (S:List Int) (a:Nat) (b first:Bool),(b=true∨s.size≤40)→((z1g s n S a b first).2.2=true∨s.size≤40)
 |0,S,a,b,first,h=>h
 |n+1,S,a,b,first,h=>by
  rw[z1g];split
  · exact z7k s n _ _ _ _ (zb3 h)
  · exact h
theorem zeC (n:Nat) (s:ByteArray) (a:Nat) (b:Bool):BelO n (pob s a b):=by
 intro x hx;simp only[List.mem_cons,List.not_mem_nil,or_false]at hx;rcases hx with rfl|rfl|rfl<;>exact .pl _
theorem z3Z (n:Nat) (S:List Int):Bel n (.agg (S.map U)):=by
 refine .agg _ fun i hi=>?_
 have:∀y∈S.map U,Bel n y:=by
  intro y hy;simp only[List.mem_map]at hy;obtain⟨v,_,rfl⟩:=hy;exact .pl _
 exact this _ (List.getElem_mem hi)
theorem z4p {σ:St} {p:Nat} {s:ByteArray} {a:Nat} {b:Bool} (h:∀o∈σ.set p (pob s a b),BelO (σ.set p (pob s a b)).length o) (a':Nat) (b':Bool) :
  ∀o∈σ.set p (pob s a' b'),BelO (σ.set p (pob s a' b')).length o:=by
 have e:σ.set p (pob s a' b')=(σ.set p (pob s a b)).set p (pob s a' b'):=by rw[List.set_set]
 have el:(σ.set p (pob s a' b')).length=(σ.set p (pob s a b)).length:=by simp
 rw[el,e];exact z21 h (zeC _ _ _ _)
theorem z8b (s:ByteArray) (a:Nat) (b:Bool):cMeas s a b true<s.size+3:=by
 unfold cMeas;have h0:(if b=true then 0 else 1)≤1:=by split<;>omega
 have h1:(if(true:Bool)=true then 1 else 0)=1:=rfl
 rw[h1];omega
theorem z2V (S:List Int) (c:Nat):(S.map U).set (0+c/64) (U (orU (S.getD (c/64) 0) (bitU (c%64))))=(z2G S c).map U:=by
 rw[Nat.zero_add,z2G,List.map_set]
theorem z5f {S:List Int} (h:S.length=4) {c:Nat} (hc:c<256):(S.map U)[0+c/64]?=some (U (S.getD (c/64) 0)):=by
 have hk:c/64<S.length:=by omega
 rw[Nat.zero_add,List.getElem?_map,List.getElem?_eq_getElem hk];simp[List.getD,hk]
theorem wrap8 {n:Nat} (h:n<256):IntKind.u8.wrap (n:Int)=n:=by
 simp only[IntKind.wrap,IntKind.bits,IntKind.signed];simp;omega
theorem wrap64 {n:Nat} (h:n<100000):IntKind.i64.wrap (n:Int)=n:=by
 simp only[IntKind.wrap,IntKind.bits,IntKind.signed];simp;omega
theorem four {S:List Int} (h:S.length=4):∃a b c d,S=[a,b,c,d]:=by
 match S,h with
 |[a,b,c,d],_=>exact⟨a,b,c,d,rfl⟩
set_option maxHeartbeats 8000000 in
theorem zb4 (σ:St) (p:Nat) (s:ByteArray) (a:Nat) (b:Bool) (hp:p<σ.length) (hs:b=true∨s.size≤40) :
  Ans Tryz.prog 192 [.ptr p 0] (σ.set p (pob s a b)) (.agg ((z2d s a b).1.map U)) (σ.set p (pob s (z2d s a b).2.1 (z2d s a b).2.2)):=by
 refine Ans.of_run' t192 (fun hbel _=>?_)
 have hlen:(σ.set p (pob s a b)).length=σ.length:=by simp
 simp -implicitDefEqProofs only[c192,r192,go_sem,List.append_assoc,List.length_append,List.length_set];refine CO.intro (z4L _ p s a b 94 hs (gA hp _ _)) ?_;simp -implicitDefEqProofs only[go_sem,sA hp];unfold z2d;have hcm:cMeas s (nextA s a b 94) b true<s.size+3:=z8b _ _ _;have hll:(z1g s (s.size+3) [0,0,0,0] (nextA s a b 94) b true).1.length=4:=z4j _ _ _ _ _ _;have hlh:=z7k s (s.size+3) [0,0,0,0] (nextA s a b 94) b true hs;generalize hres:z1g s (s.size+3) [0,0,0,0] (nextA s a b 94) b true=res at hll hlh⊢;generalize sees s a b 94=none
 refine L.intro (α:={ x:Nat×List Int×Nat×Bool×Bool // z1g s x.1 x.2.1 x.2.2.1 x.2.2.2.1 x.2.2.2.2=res∧cMeas s x.2.2.1 x.2.2.2.1 x.2.2.2.2<x.1∧x.2.1.length=4∧(x.2.2.2.1=true∨s.size≤40) })
  (fun x=>x.1.1)
  (fun x=>mkE 68 [(0,.ptr p 0),(2,.ptr σ.length 0),(3,.ptr (σ.length+1) 0),(4,Bo none),(5,Bo x.1.2.2.2.2)])
  (fun x=>σ.set p (pob s x.1.2.2.1 x.1.2.2.2.1)++[.box [U 0,U 0,U 0,U 0],.box (x.1.2.1.map U)])
  (fun x J hJ=>?_) ⟨(s.size+3,[0,0,0,0],nextA s a b 94,b,true),hres,hcm,rfl,hs⟩ ?_ ?_
 · obtain⟨⟨n,S,a1,b1,first⟩,h1,h2,h3,h4⟩:=x;simp only at h1 h2 h3 h4 hJ⊢
   cases n with
   |zero=>omega
   |succ n =>
   rw[z1g]at h1
   cases hgo:cGo s a1 b1 first with
   |false =>
    rw[hgo]at h1;simp only[Bool.false_eq_true,if_false]at h1;subst h1;have hf:first=false:=by cases first<;>simp[cGo]at hgo⊢
    subst hf;have hov:∀ex,Ans Tryz.prog 181 [.ptr p 0] (σ.set p (pob s a1 b1)++ex) (Bo (over s a1 b1)) (σ.set p (pob s a1 b1)++ex):=fun ex=>z3W _ p s a1 b1 (gA hp _ _)
    have hse:∀ex,Ans Tryz.prog 182 [.ptr p 0,B8 (93:Nat)] (σ.set p (pob s a1 b1)++ex) (Bo (sees s a1 b1 93)) (σ.set p (pob s a1 b1)++ex):=fun ex=>z4K _ p s a1 b1 93 (gA hp _ _)
    have hend:∀J:Prop,J→J:=fun _ h=>h
    obtain⟨x0,x1,x2,x3,rfl⟩:=four h3
    have hnx:∀(c:Nat),Ans Tryz.prog 178 [.ptr p 0,B8 c] (σ.set p (pob s a1 b1)++[.box [U 0,U 0,U 0,U 0],.box [U x0,U x1,U x2,U x3]]) (Bo (sees s a1 b1 c)) (σ.set p (pob s (nextA s a1 b1 c) b1)++[.box [U 0,U 0,U 0,U 0],.box [U x0,U x1,U x2,U x3]]):=fun c=>by
     have:=z4L (σ.set p (pob s a1 b1)++[.box [U 0,U 0,U 0,U 0],.box [U x0,U x1,U x2,U x3]]) p s a1 b1 c h4 (gA hp _ _)
     rwa [sA hp]at this
    cases ho:over s a1 b1 with
    |true =>
     have hs93:sees s a1 b1 93=false:=by simp[sees,ho]
     simp -implicitDefEqProofs only[mkE,go_sem];refine CO.intro (hov _) ?_;simp -implicitDefEqProofs only[go_sem,ho];refine CO.intro (hnx 93) ?_;cases none
     · simp -implicitDefEqProofs only[go_sem,hs93,sA hp,gA hp,gL0,sL0,gL1,sL1,nextA];refine Fini.trim2 (σ':=σ.set p (pob s a1 true)) (ex:=[.box [U x0,U x1,U x2,U x3],.box [U x0,U x1,U x2,U x3]]) ?_ rfl ?_ (z3Z _ [x0,x1,x2,x3]) ?_
       · simp -implicitDefEqProofs only[go_sem,resA,z01,rvA,oneOf,gL0]
       · simp
       · exact z4p hbel _ _
     · simp -implicitDefEqProofs only[go_sem,hs93,sA hp,gA hp,gL0,sL0,gL1,sL1,nextA];refine CO.intro (turned_ans _ x0 x1 x2 x3) ?_;simp -implicitDefEqProofs only[go_sem,sA hp,gA hp,gL0,sL0,gL1,sL1,turnS];refine Fini.trim2 (σ':=σ.set p (pob s a1 true)) (ex:=[.box [U (notU x0),U (notU x1),U (notU x2),U (notU x3)],.box [U x0,U x1,U x2,U x3]]) ?_ rfl ?_ (z3Z _ [notU x0,notU x1,notU x2,notU x3]) ?_
       · simp -implicitDefEqProofs only[go_sem,resA,z01,rvA,oneOf,gL0]
       · simp
       · exact z4p hbel _ _
    |false =>
     have hs93:sees s a1 b1 93=true:=by simpa[cGo,ho] using hgo
     simp -implicitDefEqProofs only[mkE,go_sem];refine CO.intro (hov _) ?_;simp -implicitDefEqProofs only[go_sem,ho];refine CO.intro (hse _) ?_;simp -implicitDefEqProofs only[go_sem,hs93];refine CO.intro (hnx 93) ?_;cases none
     · simp -implicitDefEqProofs only[go_sem,hs93,sA hp,gA hp,gL0,sL0,gL1,sL1,nextA];refine Fini.trim2 (σ':=σ.set p (pob s (a1+1) b1)) (ex:=[.box [U x0,U x1,U x2,U x3],.box [U x0,U x1,U x2,U x3]]) ?_ rfl ?_ (z3Z _ [x0,x1,x2,x3]) ?_
       · simp -implicitDefEqProofs only[go_sem,resA,z01,rvA,oneOf,gL0]
       · simp
       · exact z4p hbel _ _
     · simp -implicitDefEqProofs only[go_sem,hs93,sA hp,gA hp,gL0,sL0,gL1,sL1,nextA];refine CO.intro (turned_ans _ x0 x1 x2 x3) ?_;simp -implicitDefEqProofs only[go_sem,sA hp,gA hp,gL0,sL0,gL1,sL1,turnS];refine Fini.trim2 (σ':=σ.set p (pob s (a1+1) b1)) (ex:=[.box [U (notU x0),U (notU x1),U (notU x2),U (notU x3)],.box [U x0,U x1,U x2,U x3]]) ?_ rfl ?_ (z3Z _ [notU x0,notU x1,notU x2,notU x3]) ?_
       · simp -implicitDefEqProofs only[go_sem,resA,z01,rvA,oneOf,gL0]
       · simp
       · exact z4p hbel _ _
   |true =>
    rw[hgo,if_pos rfl]at h1;have h5:=zcB s a1 b1 first hgo;have hJm:cMeas s (cTo s a1 b1).2.1 (cBad s a1 b1) false<n:=by omega
    have hJl:(addR S (z07 s a1 b1).1 ((cTo s a1 b1).1+1-(z07 s a1 b1).1)).length=4:=by rw[z2H];exact h3
    have hJ':=hJ ⟨(n,addR S (z07 s a1 b1).1 ((cTo s a1 b1).1+1-(z07 s a1 b1).1),(cTo s a1 b1).2.1,cBad s a1 b1,false),h1,hJm,hJl,zb3 h4⟩ (Nat.lt_succ_self n);simp only at hJ';have hm1:=z65 s a1 b1;have hm2:=zfD s a1 b1;have hm3:=z9T (a:=a1) h4;clear hJ h1 h2 h5
    have hmem:∀ex,Ans Tryz.prog 197 [.ptr p 0] (σ.set p (pob s a1 b1)++ex) (B8 (z07 s a1 b1).1) (σ.set p (pob s (z07 s a1 b1).2.1 (z07 s a1 b1).2.2)++ex):=fun ex=>by
     have:=z66 (σ.set p (pob s a1 b1)++ex) p s a1 b1 h4 (gA hp _ _)
     rwa [sA hp]at this
    have hnext:∀(a:Nat) (b:Bool) (c:Nat) ex,(b=true∨s.size≤40)→Ans Tryz.prog 178 [.ptr p 0,B8 c] (σ.set p (pob s a b)++ex) (Bo (sees s a b c)) (σ.set p (pob s (nextA s a b c) b)++ex):=fun a b c ex h=>by
     have:=z4L (σ.set p (pob s a b)++ex) p s a b c h (gA hp _ _)
     rwa [sA hp]at this
    have hfin:∀(f t aT:Nat) (bT:Bool) (Q:Env→St→Prop),True:=fun _ _ _ _ _=>trivial
    cases first
    all_goals first
    |(simp -implicitDefEqProofs only[mkE,go_sem]
      refine CO.intro (hmem _) ?_
      simp -implicitDefEqProofs only[go_sem])
    |(have ho:over s a1 b1=false:=by simp[cGo]at hgo;exact hgo.1
      have hs93:sees s a1 b1 93=false:=by simp[cGo]at hgo;exact hgo.2
      simp -implicitDefEqProofs only[mkE,go_sem];refine CO.intro (z3W _ p s a1 b1 (gA hp _ _)) ?_;simp -implicitDefEqProofs only[go_sem,ho];refine CO.intro (z4K _ p s a1 b1 93 (gA hp _ _)) ?_;simp -implicitDefEqProofs only[go_sem,hs93];refine CO.intro (hmem _) ?_
      simp -implicitDefEqProofs only[go_sem])
    all_goals (
     clear hgo hmem;refine CO.intro (hnext _ _ 45 _ hm3) ?_;have hto:cTo s a1 b1=if sees s (z07 s a1 b1).2.1 (z07 s a1 b1).2.2 45 then z07 s ((z07 s a1 b1).2.1+1) (z07 s a1 b1).2.2 else z07 s a1 b1:=rfl
     have hbd:cBad s a1 b1=((cTo s a1 b1).2.2||decide ((cTo s a1 b1).1<(z07 s a1 b1).1)):=rfl;have hnx:nextA s (z07 s a1 b1).2.1 (z07 s a1 b1).2.2 45=if sees s (z07 s a1 b1).2.1 (z07 s a1 b1).2.2 45 then(z07 s a1 b1).2.1+1 else(z07 s a1 b1).2.1:=rfl
     rw[hnx];rw[hbd]at hJ';generalize z07 s a1 b1=m at *;obtain⟨f,am,bm⟩:=m;simp only at hm1 hm3 hto hJ'⊢
     have hmem2:∀ex,Ans Tryz.prog 197 [.ptr p 0] (σ.set p (pob s (am+1) bm)++ex) (B8 (z07 s (am+1) bm).1) (σ.set p (pob s (z07 s (am+1) bm).2.1 (z07 s (am+1) bm).2.2)++ex):=fun ex=>by
      have:=z66 (σ.set p (pob s (am+1) bm)++ex) p s (am+1) bm hm3 (gA hp _ _)
      rwa [sA hp]at this
     cases hsee:sees s am bm 45)
    all_goals (
     first
     |(rw[hsee,if_pos rfl]at hto
       simp -implicitDefEqProofs only[go_sem];refine CO.intro (hmem2 _) ?_;rw[←hto]
       simp -implicitDefEqProofs only[go_sem])
     |(rw[hsee,if_neg Bool.false_ne_true]at hto
       simp -implicitDefEqProofs only[go_sem]))
    all_goals (
     clear hmem2 hnx
     first|rw[←hto]|rw[show((f,am,bm):Nat×Nat×Bool)=cTo s a1 b1 from hto.symm]|skip)
    · rw[hto]at hm2 hJ';clear hto;simp only at hm2 hJ';have d1:decide ((f:Int)<(f:Int))=decide (f<f):=by rw[Bool.eq_iff_iff];simp
      have d2:IntKind.i64.wrap (f:Int)=(f:Int):=wrap64 (by omega)
      have d3:IntKind.i64.wrap (f:Int)=(f:Int):=wrap64 (by omega)
      cases bm
      all_goals (
       simp -implicitDefEqProofs only[go_sem,gA hp,sA hp,d1,d2,Bool.true_or,Bool.false_or]at hJ'⊢
       refine L.count (f+1-f) (fun i=>mkE 68 [(0,.ptr p 0),(2,.ptr σ.length 0),(3,.ptr (σ.length+1) 0),(4,Bo none),(7,B8 f),(8,I ((f+i:Nat):Int))])
        (fun i=>σ.set p (pob s am _)++[.box [U 0,U 0,U 0,U 0],.box ((addR S f i).map U)]) ?_ ?_ rfl rfl
       · intro i hi Q hQ;have c1:(((f+i:Nat):Int)≤(f:Int))=True:=by simp;omega
         have c2:IntKind.u8.wrap ((f+i:Nat):Int)=((f+i:Nat):Int):=wrap8 (by omega)
         have c3:IntKind.i64.wrap (((f+i:Nat):Int)+1)=((f+(i+1):Nat):Int):=by rw[wrapN (by omega) (by omega)];omega
         simp -implicitDefEqProofs only[mkE,go_sem,d3,c1,c2,c3];refine CO.intro (z3J _ (σ.length+1) 0 ((addR S f i).map U) (f+i) _ (gL1 _ _ _ _ _ _) (z5f (by rw[z2H];exact h3) (by omega)) (by omega)) ?_
         rw[sL1,z2V];simp -implicitDefEqProofs only[go_sem,c3];exact hQ
       · intro Q;have c1:(((f+(f+1-f):Nat):Int)≤(f:Int))=False:=by simp;omega
         simp -implicitDefEqProofs only[mkE,go_sem,d3,c1]
         exact hJ')
    · clear hto;generalize cTo s a1 b1=q at hm2 hJ' hJm hJl⊢;obtain⟨t,aT,bT⟩:=q;simp only at hm2 hJ'⊢;have d1:decide ((t:Int)<(f:Int))=decide (t<f):=by rw[Bool.eq_iff_iff];simp
      have d2:IntKind.i64.wrap (f:Int)=(f:Int):=wrap64 (by omega)
      have d3:IntKind.i64.wrap (t:Int)=(t:Int):=wrap64 (by omega)
      cases bT
      all_goals (
       simp -implicitDefEqProofs only[go_sem,gA hp,sA hp,d1,d2,Bool.true_or,Bool.false_or]at hJ'⊢
       refine L.count (t+1-f) (fun i=>mkE 68 [(0,.ptr p 0),(2,.ptr σ.length 0),(3,.ptr (σ.length+1) 0),(4,Bo none),(7,B8 t),(8,I ((f+i:Nat):Int))])
        (fun i=>σ.set p (pob s aT _)++[.box [U 0,U 0,U 0,U 0],.box ((addR S f i).map U)]) ?_ ?_ rfl rfl
       · intro i hi Q hQ;have c1:(((f+i:Nat):Int)≤(t:Int))=True:=by simp;omega
         have c2:IntKind.u8.wrap ((f+i:Nat):Int)=((f+i:Nat):Int):=wrap8 (by omega)
         have c3:IntKind.i64.wrap (((f+i:Nat):Int)+1)=((f+(i+1):Nat):Int):=by rw[wrapN (by omega) (by omega)];omega
         simp -implicitDefEqProofs only[mkE,go_sem,d3,c1,c2,c3];refine CO.intro (z3J _ (σ.length+1) 0 ((addR S f i).map U) (f+i) _ (gL1 _ _ _ _ _ _) (z5f (by rw[z2H];exact h3) (by omega)) (by omega)) ?_
         rw[sL1,z2V];simp -implicitDefEqProofs only[go_sem,c3];exact hQ
       · intro Q;have c1:(((f+(t+1-f):Nat):Int)≤(t:Int))=False:=by simp;omega
         simp -implicitDefEqProofs only[mkE,go_sem,d3,c1]
         exact hJ')
    · rw[hto]at hm2 hJ';clear hto;simp only at hm2 hJ';have d1:decide ((f:Int)<(f:Int))=decide (f<f):=by rw[Bool.eq_iff_iff];simp
      have d2:IntKind.i64.wrap (f:Int)=(f:Int):=wrap64 (by omega)
      have d3:IntKind.i64.wrap (f:Int)=(f:Int):=wrap64 (by omega)
      cases bm
      all_goals (
       simp -implicitDefEqProofs only[go_sem,gA hp,sA hp,d1,d2,Bool.true_or,Bool.false_or]at hJ'⊢
       refine L.count (f+1-f) (fun i=>mkE 68 [(0,.ptr p 0),(2,.ptr σ.length 0),(3,.ptr (σ.length+1) 0),(4,Bo none),(7,B8 f),(8,I ((f+i:Nat):Int))])
        (fun i=>σ.set p (pob s am _)++[.box [U 0,U 0,U 0,U 0],.box ((addR S f i).map U)]) ?_ ?_ rfl rfl
       · intro i hi Q hQ;have c1:(((f+i:Nat):Int)≤(f:Int))=True:=by simp;omega
         have c2:IntKind.u8.wrap ((f+i:Nat):Int)=((f+i:Nat):Int):=wrap8 (by omega)
         have c3:IntKind.i64.wrap (((f+i:Nat):Int)+1)=((f+(i+1):Nat):Int):=by rw[wrapN (by omega) (by omega)];omega
         simp -implicitDefEqProofs only[mkE,go_sem,d3,c1,c2,c3];refine CO.intro (z3J _ (σ.length+1) 0 ((addR S f i).map U) (f+i) _ (gL1 _ _ _ _ _ _) (z5f (by rw[z2H];exact h3) (by omega)) (by omega)) ?_
         rw[sL1,z2V];simp -implicitDefEqProofs only[go_sem,c3];exact hQ
       · intro Q;have c1:(((f+(f+1-f):Nat):Int)≤(f:Int))=False:=by simp;omega
         simp -implicitDefEqProofs only[mkE,go_sem,d3,c1]
         exact hJ')
    · clear hto;generalize cTo s a1 b1=q at hm2 hJ' hJm hJl⊢;obtain⟨t,aT,bT⟩:=q;simp only at hm2 hJ'⊢;have d1:decide ((t:Int)<(f:Int))=decide (t<f):=by rw[Bool.eq_iff_iff];simp
      have d2:IntKind.i64.wrap (f:Int)=(f:Int):=wrap64 (by omega)
      have d3:IntKind.i64.wrap (t:Int)=(t:Int):=wrap64 (by omega)
      cases bT
      all_goals (
       simp -implicitDefEqProofs only[go_sem,gA hp,sA hp,d1,d2,Bool.true_or,Bool.false_or]at hJ'⊢
       refine L.count (t+1-f) (fun i=>mkE 68 [(0,.ptr p 0),(2,.ptr σ.length 0),(3,.ptr (σ.length+1) 0),(4,Bo none),(7,B8 t),(8,I ((f+i:Nat):Int))])
        (fun i=>σ.set p (pob s aT _)++[.box [U 0,U 0,U 0,U 0],.box ((addR S f i).map U)]) ?_ ?_ rfl rfl
       · intro i hi Q hQ;have c1:(((f+i:Nat):Int)≤(t:Int))=True:=by simp;omega
         have c2:IntKind.u8.wrap ((f+i:Nat):Int)=((f+i:Nat):Int):=wrap8 (by omega)
         have c3:IntKind.i64.wrap (((f+i:Nat):Int)+1)=((f+(i+1):Nat):Int):=by rw[wrapN (by omega) (by omega)];omega
         simp -implicitDefEqProofs only[mkE,go_sem,d3,c1,c2,c3];refine CO.intro (z3J _ (σ.length+1) 0 ((addR S f i).map U) (f+i) _ (gL1 _ _ _ _ _ _) (z5f (by rw[z2H];exact h3) (by omega)) (by omega)) ?_
         rw[sL1,z2V];simp -implicitDefEqProofs only[go_sem,c3];exact hQ
       · intro Q;have c1:(((f+(t+1-f):Nat):Int)≤(t:Int))=False:=by simp;omega
         simp -implicitDefEqProofs only[mkE,go_sem,d3,c1]
         exact hJ')
 · simp[mkE]
 · simp
end Go.Proofs.YteakobbdgehlgaaGreatDoor
namespace Go.Proofs.YteakobbdgehlgaaGreatDoor
open Go Go.Ab
set_option maxRecDepth 100000
namespace Rex
mutual
def rv:Rex→AV
 |.mk op a b c d ks=>.agg [I op,U a,U b,U c,U d,rvK ks]
def rvK:List Rex→AV
 |[]=>.nils
 |x::xs=>.sl 6 (rv x::rvL xs)
def rvL:List Rex→List AV
 |[]=>[]
 |x::xs=>rv x::rvL xs
end
theorem zdX:∀l:List Rex,rvL l=l.map rv
 |[]=>rfl
 |x::xs=>by rw[rvL,zdX xs];rfl
theorem z6C (x:Rex) (xs:List Rex):rvK (x::xs)=.sl 6 ((x::xs).map rv):=by rw[rvK,zdX];rfl
theorem rv_eq (x:Rex):x.rv=.agg [I x.op,U x.a,U x.b,U x.c,U x.d,rvK x.ks]:=by
 cases x;rfl
theorem rvK_cases (ks:List Rex):rvK ks=.nils∨∃l,rvK ks=.sl 6 l:=by
 cases ks with
 |nil=>exact .inl rfl
 |cons x xs=>exact .inr ⟨_,z6C x xs⟩
mutual
theorem z0c (n:Nat):∀x:Rex,Bel n x.rv
 |.mk op a b c d ks=>by
  have hk:=zeD n ks;rw[rv];refine .agg _ fun i hi=>?_
  have:∀y∈[I op,U a,U b,U c,U d,rvK ks],Bel n y:=by
   intro y hy;simp only[List.mem_cons,List.not_mem_nil,or_false]at hy;rcases hy with rfl|rfl|rfl|rfl|rfl|rfl
   · exact .pl _
   · exact .pl _
   · exact .pl _
   · exact .pl _
   · exact .pl _
   · exact hk
  exact this _ (List.getElem_mem hi)
theorem zeD (n:Nat):∀ks:List Rex,Bel n (rvK ks)
 |[]=>.nils
 |x::xs=>by
  have h1:=z0c n x;have h2:=zb5 n xs;rw[rvK];refine .sl 6 _ fun i hi=>?_
  have:∀y∈rv x::rvL xs,Bel n y:=by
   intro y hy;rcases List.mem_cons.1 hy with rfl|hy
   · exact h1
   · exact h2 y hy
  exact this _ (List.getElem_mem hi)
theorem zb5 (n:Nat):∀ks:List Rex,∀y∈rvL ks,Bel n y
 |[]=>fun y hy=>absurd hy (by rw[rvL];exact List.not_mem_nil)
 |x::xs=>fun y hy=>by
  have h1:=z0c n x;have h2:=zb5 n xs;rw[rvL]at hy;rcases List.mem_cons.1 hy with rfl|hy
  · exact h1
  · exact h2 y hy
end
end Rex
def ofSet (S:List Int):Rex:=.mk 1 (S.getD 0 0) (S.getD 1 0) (S.getD 2 0) (S.getD 3 0) []
abbrev z4:List Int:=[0,0,0,0]
abbrev PF:=Nat→Bool→Rex×Nat×Bool
def patom (s:ByteArray) (F:PF) (d:Nat):PF:=fun a b =>
 let q:=pbyte s a b
 if q.1==40 then
  let w:=if q.2.2||d==8 then(ofSet z4,q.2.1,q.2.2||d==8) else F q.2.1 q.2.2
  (w.1,nextA s w.2.1 w.2.2 41,!sees s w.2.1 w.2.2 41||w.2.2)
 else if q.1==91 then
  let k:=z2d s q.2.1 q.2.2
  (ofSet k.1,k.2.1,k.2.2)
 else if q.1==46 then(ofSet (turnS z4),q.2.1,q.2.2)
 else if q.1==92 then
  let k:=psign s q.2.1 q.2.2
  (ofSet (z2G z4 k.1),k.2.1,k.2.2)
 else(ofSet (z2G z4 q.1),q.2.1,q.2.2||stray.contains q.1)
def z2P (s:ByteArray) (F:PF):PF:=fun a b =>
 let x:=F a b
 if sees s x.2.1 x.2.2 42 then(.mk 4 0 0 0 0 [x.1],x.2.1+1,x.2.2)
 else if sees s x.2.1 x.2.2 43 then(.mk 5 0 0 0 0 [x.1],x.2.1+1,x.2.2)
 else if sees s x.2.1 x.2.2 63 then(.mk 6 0 0 0 0 [x.1],x.2.1+1,x.2.2)
 else x
def wGo (s:ByteArray) (a:Nat) (b:Bool):Bool:=!over s a b&&(!sees s a b 124&& !sees s a b 41)
def pwayL (s:ByteArray) (F:PF):Nat→List Rex→Nat→Bool→List Rex×Nat×Bool
 |0,K,a,b=>(K,a,b)
 |n+1,K,a,b=>if wGo s a b then pwayL s F n (K++[(F a b).1]) (F a b).2.1 (F a b).2.2 else(K,a,b)
def one (op:Int):List Rex→Rex
 |[x]=>x
 |K=>.mk op 0 0 0 0 K
def pway (s:ByteArray) (F:PF):PF:=fun a b =>
 (one 2 (pwayL s F (s.size+1) [] a b).1,(pwayL s F (s.size+1) [] a b).2)
def z2t (s:ByteArray) (F:PF):Nat→List Rex→Nat→Bool→List Rex×Nat×Bool
 |0,K,a,b=>(K,a,b)
 |n+1,K,a,b=>if sees s a b 124 then z2t s F n (K++[(F (a+1) b).1]) (F (a+1) b).2.1 (F (a+1) b).2.2 else(K,a,b)
def pways (s:ByteArray) (F:PF):PF:=fun a b =>
 (one 3 (z2t s F (s.size+1) [(F a b).1] (F a b).2.1 (F a b).2.2).1,(z2t s F (s.size+1) [(F a b).1] (F a b).2.1 (F a b).2.2).2)
def lvl (s:ByteArray) (W:PF) (d:Nat):PF:=pways s (pway s (z2P s (patom s W d)))
def PW (s:ByteArray):Nat→PF
 |0=>lvl s (fun a b=>(ofSet z4,a,b)) 8
 |k+1=>lvl s (PW s k) (7-k)
def Fwd (F:PF):Prop:=∀a b,a≤(F a b).2.1∧(b=true→(F a b).2.2=true)
theorem Fwd.hs {F:PF} (h:Fwd F) {s:ByteArray} {a:Nat} {b:Bool} (hs:b=true∨s.size≤40):(F a b).2.2=true∨s.size≤40:=by
 rcases hs with rfl|hs
 · exact .inl ((h a true).2 rfl)
 · exact .inr hs
theorem z35 (s:ByteArray) (a:Nat) (b:Bool) (c:Nat):a≤nextA s a b c:=by unfold nextA;split<;>omega
theorem z2e (s:ByteArray) (a c:Nat):sees s a true c=false:=by simp[sees,over]
theorem z8c {s:ByteArray} {a:Nat} {b:Bool} {c:Nat} (h:sees s a b c=true):a<s.size∧b=false:=by
 simp[sees,over]at h;exact⟨by omega,h.1.1⟩
theorem zdY {s:ByteArray} {a:Nat} {b:Bool} (h:wGo s a b=true):a<s.size∧b=false:=by
 simp[wGo,over]at h;exact⟨by omega,h.1.1⟩
theorem z7l (s:ByteArray):∀(n:Nat) (S:List Int) (a:Nat) (b first:Bool),a≤(z1g s n S a b first).2.1∧(b=true→(z1g s n S a b first).2.2=true)
 |0,S,a,b,first=>⟨Nat.le_refl _,id⟩
 |n+1,S,a,b,first=>by
  rw[z1g];split
  · have h:=z7l s n (addR S (z07 s a b).1 ((cTo s a b).1+1-(z07 s a b).1)) (cTo s a b).2.1 (cBad s a b) false;refine⟨Nat.le_trans (Nat.le_trans (z67 s a b) (zdW s a b)) h.1,fun hb=>h.2 ?_⟩
    subst hb;exact z5e s a
  · exact⟨Nat.le_refl _,id⟩
theorem z5g (s:ByteArray) (a:Nat) (b:Bool):a≤(z2d s a b).2.1∧(b=true→(z2d s a b).2.2=true):=by
 have h:=z7l s (s.size+3) [0,0,0,0] (nextA s a b 94) b true;refine⟨Nat.le_trans (Nat.le_trans (z35 s a b 94) h.1) (z35 _ _ _ _),fun hb=>?_⟩
 show(_||_)=true;rw[h.2 hb,Bool.or_true]
theorem z37 (s:ByteArray) {F:PF} (h:Fwd F) (d:Nat):Fwd (patom s F d):=by
 intro a b;have h1:=z4M s a b;have hb:b=true→pbyte s a b=(0,a,true):=fun e=>by subst e;exact z3X s a
 unfold patom;generalize pbyte s a b=q at h1 hb⊢;obtain⟨c,a',b'⟩:=q;simp only at h1 hb⊢;split
 · rename_i hc
   have hnb:b=true→False:=fun e=>by
    have:=congrArg Prod.fst (hb e);simp only at this;subst this;simp at hc
   refine⟨?_,fun e=>(hnb e).elim⟩
   split
   · exact Nat.le_trans h1 (z35 s a' _ 41)
   · exact Nat.le_trans h1 (Nat.le_trans (h a' b').1 (z35 _ _ _ 41))
 · have hb':b=true→b'=true:=fun e=>by
    have:=hb e;simp only[Prod.mk.injEq]at this;exact this.2.2
   split
   · exact⟨Nat.le_trans h1 (z5g s a' b').1,fun e=>(z5g s a' b').2 (hb' e)⟩
   · split
     · exact⟨h1,hb'⟩
     · split
       · refine⟨Nat.le_trans h1 (z3Y s a' b'),fun e=>?_⟩
         rw[hb' e];exact z68 s a'
       · refine⟨h1,fun e=>?_⟩
         show(_||_)=true;rw[hb' e,Bool.true_or]
def Eats (s:ByteArray) (F:PF):Prop:=∀a b,over s a b=false→a+1≤(F a b).2.1
theorem z7m (s:ByteArray) {F:PF} (h:Fwd F) (d:Nat):Eats s (patom s F d):=by
 intro a b ho;have h1:pbyte s a b=(byteAt s a,a+1,b):=by simp[pbyte,ho]
 unfold patom;rw[h1];simp only;split
 · split
   · exact z35 s (a+1) _ 41
   · exact Nat.le_trans (h (a+1) b).1 (z35 _ _ _ 41)
 · split
   · exact(z5g s (a+1) b).1
   · split
     · exact Nat.le_refl _
     · split
       · exact z3Y s (a+1) b
       · exact Nat.le_refl _
theorem z4q (s:ByteArray) (F:PF) (a:Nat) (b:Bool):(z2P s F a b).2.2=(F a b).2.2∧(F a b).2.1≤(z2P s F a b).2.1:=by
 unfold z2P;simp only;split
 · exact⟨rfl,Nat.le_succ _⟩
 · split
   · exact⟨rfl,Nat.le_succ _⟩
   · split
     · exact⟨rfl,Nat.le_succ _⟩
     · exact⟨rfl,Nat.le_refl _⟩
theorem z2W (s:ByteArray) {F:PF} (h:Fwd F):Fwd (z2P s F):=by
 intro a b;have h2:=z4q s F a b;rw[h2.1];exact⟨Nat.le_trans (h a b).1 h2.2,(h a b).2⟩
theorem z5h (s:ByteArray) {F:PF} (h:Eats s F):Eats s (z2P s F):=by
 intro a b ho;exact Nat.le_trans (h a b ho) (z4q s F a b).2
theorem z8Z (s:ByteArray) {F:PF} (h:Fwd F):∀n K a b,a≤(pwayL s F n K a b).2.1∧(b=true→(pwayL s F n K a b).2.2=true)
 |0,K,a,b=>⟨Nat.le_refl _,id⟩
 |n+1,K,a,b=>by
  rw[pwayL];split
  · have h1:=z8Z s h n (K++[(F a b).1]) (F a b).2.1 (F a b).2.2;exact⟨Nat.le_trans (h a b).1 h1.1,fun e=>h1.2 ((h a b).2 e)⟩
  · exact⟨Nat.le_refl _,id⟩
theorem z8d (s:ByteArray) {F:PF} (h:Fwd F):Fwd (pway s F):=fun a b=>z8Z s h (s.size+1) [] a b
theorem z7n (s:ByteArray) {F:PF} (h:Fwd F):∀n K a b,a≤(z2t s F n K a b).2.1∧(b=true→(z2t s F n K a b).2.2=true)
 |0,K,a,b=>⟨Nat.le_refl _,id⟩
 |n+1,K,a,b=>by
  rw[z2t];split
  · have h1:=z7n s h n (K++[(F (a+1) b).1]) (F (a+1) b).2.1 (F (a+1) b).2.2;exact⟨Nat.le_trans (Nat.le_trans (Nat.le_succ a) (h (a+1) b).1) h1.1,fun e=>h1.2 ((h (a+1) b).2 e)⟩
  · exact⟨Nat.le_refl _,id⟩
theorem zcC (s:ByteArray) {F:PF} (h:Fwd F):Fwd (pways s F):=fun a b=>by
 have h1:=z7n s h (s.size+1) [(F a b).1] (F a b).2.1 (F a b).2.2;exact⟨Nat.le_trans (h a b).1 h1.1,fun e=>h1.2 ((h a b).2 e)⟩
theorem zb6 (s:ByteArray) {W:PF} (h:Fwd W) (d:Nat):Fwd (lvl s W d):=zcC s (z8d s (z2W s (z37 s h d)))
theorem z90 (s:ByteArray):∀k,Fwd (PW s k)
 |0=>zb6 s (fun a b=>⟨Nat.le_refl _,id⟩) 8
 |k+1=>zb6 s (z90 s k) _
end Go.Proofs.YteakobbdgehlgaaGreatDoor
namespace Go.Proofs.YteakobbdgehlgaaGreatDoor
open Go Go.Ab
set_option maxRecDepth 100000
open Rex
def FAns (f:FuncId) (args:List AV) (s:ByteArray) (F:PF):Prop :=
 ∀(σ:St) (p a:Nat) (b:Bool),p<σ.length→(b=true∨s.size≤40) →
  Ans Tryz.prog f (.ptr p 0::args) (σ.set p (pob s a b)) (F a b).1.rv (σ.set p (pob s (F a b).2.1 (F a b).2.2))
section
variable {σ:St} {p:Nat} {s:ByteArray}
theorem FAns.ex {f:FuncId} {args:List AV} {F:PF} (h:FAns f args s F) (hp:p<σ.length) (a:Nat) (b:Bool) (hs:b=true∨s.size≤40) (ex:St) :
  Ans Tryz.prog f (.ptr p 0::args) (σ.set p (pob s a b)++ex) (F a b).1.rv (σ.set p (pob s (F a b).2.1 (F a b).2.2)++ex):=by
 have:=h (σ.set p (pob s a b)++ex) p a b (by simp;omega) hs
 rwa [sA hp,sA hp]at this
theorem z3K (hp:p<σ.length) (a:Nat) (b:Bool) (c:Nat) (hs:b=true∨s.size≤40) (ex:St) :
  Ans Tryz.prog 178 [.ptr p 0,B8 c] (σ.set p (pob s a b)++ex) (Bo (sees s a b c)) (σ.set p (pob s (nextA s a b c) b)++ex):=by
 have:=z4L (σ.set p (pob s a b)++ex) p s a b c hs (gA hp _ _)
 rwa [sA hp]at this
theorem zeE (hp:p<σ.length) (a:Nat) (b:Bool) (hs:b=true∨s.size≤40) (ex:St) :
  Ans Tryz.prog 191 [.ptr p 0] (σ.set p (pob s a b)++ex) (B8 (pbyte s a b).1) (σ.set p (pob s (pbyte s a b).2.1 (pbyte s a b).2.2)++ex):=by
 have:=z6B (σ.set p (pob s a b)++ex) p s a b hs (gA hp _ _)
 rwa [sA hp]at this
theorem zeF (hp:p<σ.length) (a:Nat) (b:Bool) (hs:b=true∨s.size≤40) (ex:St) :
  Ans Tryz.prog 195 [.ptr p 0] (σ.set p (pob s a b)++ex) (B8 (psign s a b).1) (σ.set p (pob s (psign s a b).2.1 (psign s a b).2.2)++ex):=by
 have:=z8W (σ.set p (pob s a b)++ex) p s a b hs (gA hp _ _)
 rwa [sA hp]at this
theorem z6D (hp:p<σ.length) (a:Nat) (b:Bool) (ex:St):Ans Tryz.prog 181 [.ptr p 0] (σ.set p (pob s a b)++ex) (Bo (over s a b)) (σ.set p (pob s a b)++ex) :=
 z3W _ p s a b (gA hp _ _)
theorem z5i (hp:p<σ.length) (a:Nat) (b:Bool) (c:Nat) (ex:St):Ans Tryz.prog 182 [.ptr p 0,B8 c] (σ.set p (pob s a b)++ex) (Bo (sees s a b c)) (σ.set p (pob s a b)++ex) :=
 z4K _ p s a b c (gA hp _ _)
theorem zcD (hp:p<σ.length) (a:Nat) (b:Bool) (hs:b=true∨s.size≤40) (ex:St) :
  Ans Tryz.prog 192 [.ptr p 0] (σ.set p (pob s a b)++ex) (.agg ((z2d s a b).1.map U)) (σ.set p (pob s (z2d s a b).2.1 (z2d s a b).2.2)++ex):=by
 have:=zb4 (σ.set p (pob s a b)++ex) p s a b (by simp;omega) hs
 rwa [sA hp,sA hp]at this
end
theorem z9U (s:ByteArray) (a:Nat) (b:Bool):(z2d s a b).1.length=4:=by
 have h:=z4j s (s.size+3) [0,0,0,0] (nextA s a b 94) b true;unfold z2d;simp only;split
 · simp only[turnS,List.length_map];exact h
 · exact h
theorem zcE {s:ByteArray} {a:Nat} {b:Bool} (h:b=true∨s.size≤40):(pbyte s a b).2.2=true∨s.size≤40:=by
 rcases h with rfl|h
 · exact .inl (by rw[z3X])
 · exact .inr h
theorem add_get {c:Nat} (hc:c<256):([I 1,U 0,U 0,U 0,U 0,.nils]:List AV)[1+c/64]?=some (U 0):=by
 have h:c/64<4:=by omega
 generalize c/64=k at h
 match k,h with
 |0,_=>rfl
 |1,_=>rfl
 |2,_=>rfl
 |3,_=>rfl
theorem z5j {c:Nat} (hc:c<256):([I 1,U 0,U 0,U 0,U 0,.nils]:List AV).set (1+c/64) (U (orU 0 (bitU (c%64)))) =
  [I 1,U ((z2G z4 c).getD 0 0),U ((z2G z4 c).getD 1 0),U ((z2G z4 c).getD 2 0),U ((z2G z4 c).getD 3 0),.nils]:=by
 have h:c/64<4:=by omega
 unfold z2G;generalize bitU (c%64)=w;generalize c/64=k at h
 match k,h with
 |0,_=>rfl
 |1,_=>rfl
 |2,_=>rfl
 |3,_=>rfl
theorem zcF (x:Rex):AV.cells x.rv=[I x.op,U x.a,U x.b,U x.c,U x.d,rvK x.ks]:=by rw[rv_eq];rfl
section
variable (s:ByteArray)
theorem z91 (F:PF) (d:Nat) (hd:d≤8) (hF:d<8→FAns 173 [I ((d+1:Nat):Int)] s F) (hfw:Fwd F):FAns 189 [I d] s (patom s F d):=by
 intro σ p a b hp hs;have hlen:∀o,(σ.set p o).length=σ.length:=fun o=>by simp
 refine Ans.of_run' t189 (fun hbel _=>?_)
 have hb2:=z4p hbel;simp -implicitDefEqProofs only[c189,r189,go_sem,List.append_assoc,List.length_append,List.length_set,gA hp,sA hp,gL0,sL0,gL1,sL1];refine CO.intro (zeE hp a b hs _) ?_;unfold patom;have hc:=z3t s a b;have hs':=zcE (a:=a) hs;have hst:=zb2 _ hc;generalize pbyte s a b=q at hc hs' hst⊢;obtain⟨c,a',b'⟩:=q;simp only at hc hs' hst⊢;have k40:((c:Int)==40)=(c==40):=z0i c 40;have k8:((d:Int)==8)=(d==8):=z0i d 8;have k91:((c:Int)==91)=(c==91):=z0i c 91;have k46:((c:Int)==46)=(c==46):=z0i c 46;have k92:((c:Int)==92)=(c==92):=z0i c 92
 cases h40:c==40 with
 |true =>
  cases b' with
  |true =>
   simp -implicitDefEqProofs only[go_sem,k40,k91,k46,k92,h40,gA hp,sA hp,gL0,sL0,gL1,sL1,if_true,Bool.true_or,Bool.or_true];refine CO.intro (z3K hp _ _ 41 (.inl rfl) _) ?_;simp -implicitDefEqProofs only[go_sem,gA hp,sA hp,gL0,sL0,gL1,sL1,z2e,nextA];refine Fini.trim2 (ex:=[_,_]) ?_ rfl ?_ (z0c _ _) (hb2 _ _)
   · (simp -implicitDefEqProofs only[go_sem,resA,z01,rvA,oneOf,gL0];first|done|rfl|rw[rv_eq,hK]|(simp only[rv,rvK,rvL];rw[rv_eq,hK]))
   · simp
  |false =>
   cases hd8:d==8 with
   |true =>
    simp -implicitDefEqProofs only[go_sem,k40,k91,k46,k92,h40,gA hp,sA hp,gL0,sL0,gL1,sL1,if_true,k8,hd8,Bool.false_or,Bool.or_false,Bool.or_true,Bool.true_or];refine CO.intro (z3K hp _ _ 41 (.inl rfl) _) ?_;simp -implicitDefEqProofs only[go_sem,gA hp,sA hp,gL0,sL0,gL1,sL1,z2e,nextA];refine Fini.trim2 (ex:=[_,_]) ?_ rfl ?_ (z0c _ _) (hb2 _ _)
    · (simp -implicitDefEqProofs only[go_sem,resA,z01,rvA,oneOf,gL0];first|done|rfl|rw[rv_eq,hK]|(simp only[rv,rvK,rvL];rw[rv_eq,hK]))
    · simp
   |false =>
    have hd7:d<8:=by
     have:d≠8:=by simpa using hd8
     omega
    have e1:IntKind.i64.wrap ((d:Int)+1)=((d+1:Nat):Int):=by rw[wrapN (by omega) (by omega)];rfl
    simp -implicitDefEqProofs only[go_sem,k40,k91,k46,k92,h40,gA hp,sA hp,gL0,sL0,gL1,sL1,if_true,k8,hd8,Bool.false_or,Bool.or_false,Bool.or_true,Bool.true_or,e1];refine CO.intro ((hF hd7).ex hp _ _ hs' _) ?_;have hs2:(F a' false).2.2=true∨s.size≤40:=hfw.hs hs';generalize F a' false=w at hs2⊢;obtain⟨x,a1,b1⟩:=w;simp only at hs2⊢;have hbx:∀n,Bel n x.rv:=fun n=>z0c n x
    rw[rv_eq x]at hbx⊢;rcases rvK_cases x.ks with hK|⟨l,hK⟩
    all_goals rw[hK]at hbx⊢
    all_goals simp -implicitDefEqProofs only[go_sem,gA hp,sA hp,gL0,sL0,gL1,sL1]
    all_goals refine CO.intro (z3K hp _ _ 41 hs2 _) ?_
    all_goals cases hse:sees s a1 b1 41
    all_goals (
     first
     |(have hb1:=(z8c hse).2
       subst hb1)
     |skip
     simp -implicitDefEqProofs only[go_sem,gA hp,sA hp,gL0,sL0,gL1,sL1,hse,nextA,Bool.true_or,Bool.false_or];refine Fini.trim2 (ex:=[_,_]) ?_ rfl ?_ (hbx _) (hb2 _ _)
     · (simp -implicitDefEqProofs only[go_sem,resA,z01,rvA,oneOf,gL0];first|done|rfl|rw[rv_eq,hK]|(simp only[rv,rvK,rvL];rw[rv_eq,hK]))
     · simp)
 |false =>
  cases h91:c==91 with
  |true =>
   simp -implicitDefEqProofs only[go_sem,k40,k91,k46,k92,h40,h91,gA hp,sA hp,if_true,Bool.false_eq_true,if_false];refine CO.intro (zcD hp a' b' hs' _) ?_;have h4:=z9U s a' b';generalize z2d s a' b'=k at h4⊢;obtain⟨S,a1,b1⟩:=k;simp only at h4⊢;obtain⟨x0,x1,x2,x3,rfl⟩:=four h4;simp -implicitDefEqProofs only[go_sem,gA hp,sA hp,gL0,sL0,gL1,sL1,List.map_cons,List.map_nil];refine Fini.trim2 (ex:=[_,_]) ?_ rfl ?_ (z0c _ _) (hb2 _ _)
   · (simp -implicitDefEqProofs only[go_sem,resA,z01,rvA,oneOf,gL0];first|done|rfl|rw[rv_eq,hK]|(simp only[rv,rvK,rvL];rw[rv_eq,hK]))
   · simp
  |false =>
   cases h46:c==46 with
   |true =>
    simp -implicitDefEqProofs only[go_sem,k40,k91,k46,k92,h40,h91,h46,gA hp,sA hp,gL0,sL0,gL1,sL1,if_true,Bool.false_eq_true,if_false];refine CO.intro (turned_ans _ 0 0 0 0) ?_;simp -implicitDefEqProofs only[go_sem,gA hp,sA hp,gL0,sL0,gL1,sL1,List.map_cons,List.map_nil];refine Fini.trim2 (ex:=[_,_]) ?_ rfl ?_ (z0c _ _) (hb2 _ _)
    · (simp -implicitDefEqProofs only[go_sem,resA,z01,rvA,oneOf,gL0];first|done|rfl|rw[rv_eq,hK]|(simp only[rv,rvK,rvL];rw[rv_eq,hK]))
    · simp
   |false =>
    cases h92:c==92 with
    |true =>
     simp -implicitDefEqProofs only[go_sem,k40,k91,k46,k92,h40,h91,h46,h92,gA hp,sA hp,gL0,sL0,gL1,sL1,if_true,Bool.false_eq_true,if_false];refine CO.intro (zeF hp a' b' hs' _) ?_;have hk:(psign s a' b').1<256:=z3t s a' b';generalize psign s a' b'=k at hk⊢;obtain⟨x,a1,b1⟩:=k;simp only at hk⊢;simp -implicitDefEqProofs only[go_sem];refine CO.intro (z3J _ (σ.length+1) 1 _ x 0 (gL1 _ _ _ _ _ _) (add_get hk) hk) ?_;rw[sL1,z5j hk];simp -implicitDefEqProofs only[go_sem,gA hp,sA hp,gL0,sL0,gL1,sL1,List.map_cons,List.map_nil];refine Fini.trim2 (ex:=[_,_]) ?_ rfl ?_ (z0c _ _) (hb2 _ _)
     · (simp -implicitDefEqProofs only[go_sem,resA,z01,rvA,oneOf,gL0];first|done|rfl|rw[rv_eq,hK]|(simp only[rv,rvK,rvL];rw[rv_eq,hK]))
     · simp
    |false =>
     simp -implicitDefEqProofs only[go_sem,k40,k91,k46,k92,h40,h91,h46,h92,gA hp,sA hp,gL0,sL0,gL1,sL1,if_true,Bool.false_eq_true,if_false]
     cases b' with
     |true =>
      simp -implicitDefEqProofs only[go_sem,gA hp,sA hp,gL0,sL0,gL1,sL1];refine CO.intro (z3J _ (σ.length+1) 1 _ c 0 (gL1 _ _ _ _ _ _) (add_get hc) hc) ?_;rw[sL1,z5j hc];simp -implicitDefEqProofs only[go_sem,gA hp,sA hp,gL0,sL0,gL1,sL1];refine Fini.trim2 (ex:=[_,_]) ?_ rfl ?_ (z0c _ _) (hb2 _ _)
      · (simp -implicitDefEqProofs only[go_sem,resA,z01,rvA,oneOf,gL0];first|done|rfl|rw[rv_eq,hK]|(simp only[rv,rvK,rvL];rw[rv_eq,hK]))
      · simp
     |false =>
      simp -implicitDefEqProofs only[go_sem,gA hp,sA hp,gL0,sL0,gL1,sL1];refine CO.intro (z3I _ _ c) ?_;simp -implicitDefEqProofs only[go_sem,gA hp,sA hp,gL0,sL0,gL1,sL1];refine CO.intro (z3J _ (σ.length+1) 1 _ c 0 (gL1 _ _ _ _ _ _) (add_get hc) hc) ?_;rw[sL1,z5j hc];simp -implicitDefEqProofs only[go_sem,gA hp,sA hp,gL0,sL0,gL1,sL1];rw[hst];refine Fini.trim2 (ex:=[_,_]) ?_ rfl ?_ (z0c _ _) (hb2 _ _)
      · (simp -implicitDefEqProofs only[go_sem,resA,z01,rvA,oneOf,gL0];first|done|rfl|rw[rv_eq,hK]|(simp only[rv,rvK,rvL];rw[rv_eq,hK]))
      · simp
end
section
variable (s:ByteArray)
theorem z69 (F:PF) (d:Nat) (hF:FAns 189 [I d] s F) (hfw:Fwd F):FAns 183 [I d] s (z2P s F):=by
 intro σ p a b hp hs;refine Ans.of_run' t183 (fun hbel _=>?_)
 have hb2:=z4p hbel;simp -implicitDefEqProofs only[c183,r183,go_sem,List.append_assoc,List.length_append,List.length_set,gA hp,sA hp,gL0,sL0,gL1,sL1];refine CO.intro (hF.ex hp _ _ hs _) ?_;have hs2:(F a b).2.2=true∨s.size≤40:=hfw.hs hs;unfold z2P;generalize F a b=w at hs2⊢;obtain⟨x,a1,b1⟩:=w;simp only at hs2⊢
 have hn:∀(ex:St) (c:Nat),sees s a1 b1 c=false→Ans Tryz.prog 178 [.ptr p 0,B8 c] (σ.set p (pob s a1 b1)++ex) (Bo false) (σ.set p (pob s a1 b1)++ex):=fun ex c h=>by
  have:=z3K hp a1 b1 c hs2 ex
  rwa [nextA,h]at this
 have hy:∀(ex:St) (c:Nat),sees s a1 b1 c=true→Ans Tryz.prog 178 [.ptr p 0,B8 c] (σ.set p (pob s a1 b1)++ex) (Bo true) (σ.set p (pob s (a1+1) b1)++ex):=fun ex c h=>by
  have:=z3K hp a1 b1 c hs2 ex
  rwa [nextA,h]at this
 have hbx:∀n,Bel n x.rv:=fun n=>z0c n x
 rw[rv_eq x]at hbx⊢;rcases rvK_cases x.ks with hK|⟨l,hK⟩
 all_goals (
  rw[hK]at hbx⊢;simp -implicitDefEqProofs only[go_sem,gA hp,sA hp,gL0,sL0,gL1,sL1];cases h42:sees s a1 b1 42
  · refine CO.intro (hn _ 42 h42) ?_;simp -implicitDefEqProofs only[go_sem,gA hp,sA hp,gL0,sL0,gL1,sL1];cases h43:sees s a1 b1 43
    · refine CO.intro (hn _ 43 h43) ?_;simp -implicitDefEqProofs only[go_sem,gA hp,sA hp,gL0,sL0,gL1,sL1];cases h63:sees s a1 b1 63
      · refine CO.intro (hn _ 63 h63) ?_;simp -implicitDefEqProofs only[go_sem,gA hp,sA hp,gL0,sL0,gL1,sL1];refine Fini.trim2 (ex:=[_]) ?_ rfl ?_ (z0c _ _) (hb2 _ _)
        · (simp -implicitDefEqProofs only[go_sem,resA,z01,rvA,oneOf,gL0];first|done|rfl|rw[rv_eq,hK]|(simp only[rv,rvK,rvL];rw[rv_eq,hK]))
        · simp
      · refine CO.intro (hy _ 63 h63) ?_;simp -implicitDefEqProofs only[go_sem,gA hp,sA hp,gL0,sL0,gL1,sL1];refine Fini.trim2 (ex:=[_]) ?_ rfl ?_ (z0c _ _) (hb2 _ _)
        · (simp -implicitDefEqProofs only[go_sem,resA,z01,rvA,oneOf,gL0];first|done|rfl|rw[rv_eq,hK]|(simp only[rv,rvK,rvL];rw[rv_eq,hK]))
        · simp
    · refine CO.intro (hy _ 43 h43) ?_;simp -implicitDefEqProofs only[go_sem,gA hp,sA hp,gL0,sL0,gL1,sL1];refine Fini.trim2 (ex:=[_]) ?_ rfl ?_ (z0c _ _) (hb2 _ _)
      · (simp -implicitDefEqProofs only[go_sem,resA,z01,rvA,oneOf,gL0];first|done|rfl|rw[rv_eq,hK]|(simp only[rv,rvK,rvL];rw[rv_eq,hK]))
      · simp
  · refine CO.intro (hy _ 42 h42) ?_;simp -implicitDefEqProofs only[go_sem,gA hp,sA hp,gL0,sL0,gL1,sL1];refine Fini.trim2 (ex:=[_]) ?_ rfl ?_ (z0c _ _) (hb2 _ _)
    · (simp -implicitDefEqProofs only[go_sem,resA,z01,rvA,oneOf,gL0];first|done|rfl|rw[rv_eq,hK]|(simp only[rv,rvK,rvL];rw[rv_eq,hK]))
    · simp)
end
abbrev box0:Ob:=.box [I 0,U 0,U 0,U 0,U 0,.nils]
def exK (K:List Rex):St:=box0::(if K.isEmpty then[] else[.row 6 (K.map rv)])
def vK (l:Nat) (K:List Rex):AV:=if K.isEmpty then .nils else .osl (l+1) K.length
theorem z0w (x:Rex) (K:List Rex):exK (x::K)=[box0,.row 6 ((x::K).map rv)]:=rfl
theorem z0Z (l:Nat) (x:Rex) (K:List Rex):vK l (x::K)=.osl (l+1) (K.length+1):=rfl
theorem z3n:exK []=[box0]:=rfl
theorem z4r (l:Nat):vK l []=.nils:=rfl
theorem z4N (K:List Rex) (x:Rex):exK (K++[x])=[box0,.row 6 (K.map rv++[x.rv])]:=by
 cases K with
 |nil=>rfl
 |cons y K=>simp[exK]
theorem z6E (l:Nat) (K:List Rex) (x:Rex):vK l (K++[x])=.osl (l+1) (K.length+1):=by
 cases K with
 |nil=>rfl
 |cons y K=>simp[vK]
theorem z1x (op:Int) (y z:Rex) (K:List Rex):(one op (y::z::K)).rv=.agg [I op,U 0,U 0,U 0,U 0,.sl 6 ((y::z::K).map rv)]:=by
 show Rex.rv (.mk op 0 0 0 0 (y::z::K))=_;rw[rv,z6C]
theorem z38 {n:Nat} {x:AV} (h:Bel n x) (b:Bool):Bel n (.tup [x,Bo b]):=by
 refine .tup _ fun i hi=>?_
 have:∀y∈[x,Bo b],Bel n y:=by
  intro y hy;simp only[List.mem_cons,List.not_mem_nil,or_false]at hy;rcases hy with rfl|rfl
  · exact h
  · exact .pl _
 exact this _ (List.getElem_mem hi)
section
variable (s:ByteArray)
theorem zb7 (F:PF) (d:Nat) (hF:FAns 183 [I d] s F) (hfw:Fwd F) (he:Eats s F):FAns 177 [I d] s (pway s F):=by
 intro σ p a b hp hs;refine Ans.of_run' t177 (fun hbel _=>?_)
 have hb2:=z4p hbel;simp -implicitDefEqProofs only[c177,r177,go_sem,List.append_assoc,List.length_append,List.length_set];unfold pway;simp only;have hm:s.size-a<s.size+1:=by omega
 generalize hres:pwayL s F (s.size+1) [] a b=res
 refine L.intro (α:={ x:Nat×List Rex×Nat×Bool // pwayL s F x.1 x.2.1 x.2.2.1 x.2.2.2=res∧s.size-x.2.2.1<x.1∧(x.2.2.2=true∨s.size≤40)∧x.2.1.length≤x.2.2.1 })
  (fun x=>x.1.1)
  (fun x=>mkE 33 [(0,.ptr p 0),(1,I d),(4,.ptr σ.length 0),(5,vK σ.length x.1.2.1)])
  (fun x=>σ.set p (pob s x.1.2.2.1 x.1.2.2.2)++exK x.1.2.1)
  (fun x J hJ=>?_) ⟨(s.size+1,[],a,b),hres,hm,hs,Nat.zero_le _⟩ ?_ ?_
 · obtain⟨⟨n,K,a1,b1⟩,h1,h2,h3,h4⟩:=x;simp only at h1 h2 h3 h4 hJ⊢
   cases n with
   |zero=>omega
   |succ n =>
   rw[pwayL]at h1
   cases hgo:wGo s a1 b1 with
   |true =>
    rw[hgo,if_pos rfl]at h1;obtain⟨ha,hb⟩:=zdY hgo;subst hb;have hov:over s a1 false=false:=by simp[wGo]at hgo;exact hgo.1
    have hs1:sees s a1 false 124=false:=by simp[wGo]at hgo;exact hgo.2.1
    have hs2:sees s a1 false 41=false:=by simp[wGo]at hgo;exact hgo.2.2
    have hsz:s.size≤40:=by
     rcases h3 with h|h
     · exact absurd h Bool.false_ne_true
     · exact h
    have hea:=he a1 false hov;have hJ':=hJ ⟨(n,K++[(F a1 false).1],(F a1 false).2.1,(F a1 false).2.2),h1,by simp only;omega,.inr hsz,by simp;omega⟩ (Nat.lt_succ_self n)
    simp only[z4N,z6E]at hJ';clear hJ h1 hgo;simp -implicitDefEqProofs only[mkE,go_sem];refine CO.intro (z6D hp a1 false _) ?_;simp -implicitDefEqProofs only[go_sem,hov];refine CO.intro (z5i hp a1 false 124 _) ?_;simp -implicitDefEqProofs only[go_sem,hs1];refine CO.intro (z5i hp a1 false 41 _) ?_;simp -implicitDefEqProofs only[go_sem,hs2];refine CO.intro (hF.ex hp a1 false (.inr hsz) _) ?_;generalize F a1 false=w at hJ' hea⊢;obtain⟨x,a2,b2⟩:=w;simp only at hJ' hea⊢;rw[rv_eq x]at hJ'⊢;rcases K with _|⟨y,K⟩
    all_goals rcases rvK_cases x.ks with hK|⟨l,hK⟩
    all_goals rw[hK]at hJ'⊢
    all_goals first
    |(simp -implicitDefEqProofs only[go_sem,z3n,z4r,gA hp,sA hp,gL0,sL0,gL1,sL1]at hJ'⊢
      simpa[mkE] using hJ')
    |(have g1:(K.length+1+1≤2^32)=True:=by simp at h4;simp;omega
      simp -implicitDefEqProofs only[go_sem,z0w,z0Z,gA hp,sA hp,gL0,sL0,gL1,sL1,List.length_map,g1]at hJ'⊢
      simpa[mkE] using hJ')
   |false =>
    rw[hgo,if_neg Bool.false_ne_true]at h1;subst h1;clear hJ h2
    have hex:over s a1 b1=true∨(over s a1 b1=false∧sees s a1 b1 124=true)∨(over s a1 b1=false∧sees s a1 b1 124=false∧sees s a1 b1 41=true):=by
     unfold wGo at hgo;cases h1:over s a1 b1<;>cases h2:sees s a1 b1 124<;>cases h3:sees s a1 b1 41<;>simp[h1,h2,h3]at hgo⊢
    rcases hex with ho|⟨ho,h5⟩|⟨ho,h5,h6⟩
    · simp -implicitDefEqProofs only[mkE,go_sem];refine CO.intro (z6D hp a1 b1 _) ?_;simp -implicitDefEqProofs only[go_sem,ho];rcases K with _|⟨y,_|⟨z,K⟩⟩
      · simp -implicitDefEqProofs only[go_sem,z3n,z4r,gA hp,sA hp,gL0,sL0,gL1,sL1];refine Fini.trim2 (ex:=[_]) ?_ rfl ?_ (z0c _ _) (hb2 _ _)
        · ((try simp -implicitDefEqProofs only[go_sem,resA,z01,rvA,oneOf,gL0]);first|done|rfl|(rw[z1x];rfl)|rw[rv_eq,hK]|(simp only[rv,rvK,rvL];rw[rv_eq,hK]))
        · simp
      · have g3:(((1:Nat):Int)==1)=true:=rfl;have g4:((0:Int)<((1:Nat):Int))=True:=by simp
        have hbx:∀n,Bel n y.rv:=fun n=>z0c n y
        rw[z0w,z0Z,List.map_cons,List.map_nil,show(one 2 [y])=y from rfl]
        rw[rv_eq y]at hbx⊢;rcases rvK_cases y.ks with hK|⟨l,hK⟩
        all_goals rw[hK]at hbx⊢
        all_goals simp -implicitDefEqProofs only[go_sem,gA hp,sA hp,gL0,sL0,gL1,sL1,List.length_map,g3,g4,Int.toNat_zero]
        all_goals (
         refine Fini.trim2 (ex:=[_,_]) ?_ rfl ?_ (hbx _) (hb2 _ _)
         · ((try simp -implicitDefEqProofs only[go_sem,resA,z01,rvA,oneOf,gL0]);first|done|rfl|(rw[z1x];rfl)|rw[rv_eq,hK]|(simp only[rv,rvK,rvL];rw[rv_eq,hK]))
         · simp)
      · rw[z0w,z0Z];have g2:(((K.length+1+1:Nat):Int)==1)=false:=by simp;omega
        simp -implicitDefEqProofs only[go_sem,gA hp,sA hp,gL0,sL0,gL1,sL1,List.length_map,g2];refine Fini.trim2 (ex:=[_,_]) ?_ rfl ?_ (z0c _ _) (hb2 _ _)
        · ((try simp -implicitDefEqProofs only[go_sem,resA,z01,rvA,oneOf,gL0]);first|done|rfl|(rw[z1x];rfl)|rw[rv_eq,hK]|(simp only[rv,rvK,rvL];rw[rv_eq,hK]))
        · simp
    · simp -implicitDefEqProofs only[mkE,go_sem];refine CO.intro (z6D hp a1 b1 _) ?_;simp -implicitDefEqProofs only[go_sem,ho];refine CO.intro (z5i hp a1 b1 124 _) ?_;simp -implicitDefEqProofs only[go_sem,h5];rcases K with _|⟨y,_|⟨z,K⟩⟩
      · simp -implicitDefEqProofs only[go_sem,z3n,z4r,gA hp,sA hp,gL0,sL0,gL1,sL1];refine Fini.trim2 (ex:=[_]) ?_ rfl ?_ (z0c _ _) (hb2 _ _)
        · ((try simp -implicitDefEqProofs only[go_sem,resA,z01,rvA,oneOf,gL0]);first|done|rfl|(rw[z1x];rfl)|rw[rv_eq,hK]|(simp only[rv,rvK,rvL];rw[rv_eq,hK]))
        · simp
      · have g3:(((1:Nat):Int)==1)=true:=rfl;have g4:((0:Int)<((1:Nat):Int))=True:=by simp
        have hbx:∀n,Bel n y.rv:=fun n=>z0c n y
        rw[z0w,z0Z,List.map_cons,List.map_nil,show(one 2 [y])=y from rfl]
        rw[rv_eq y]at hbx⊢;rcases rvK_cases y.ks with hK|⟨l,hK⟩
        all_goals rw[hK]at hbx⊢
        all_goals simp -implicitDefEqProofs only[go_sem,gA hp,sA hp,gL0,sL0,gL1,sL1,List.length_map,g3,g4,Int.toNat_zero]
        all_goals (
         refine Fini.trim2 (ex:=[_,_]) ?_ rfl ?_ (hbx _) (hb2 _ _)
         · ((try simp -implicitDefEqProofs only[go_sem,resA,z01,rvA,oneOf,gL0]);first|done|rfl|(rw[z1x];rfl)|rw[rv_eq,hK]|(simp only[rv,rvK,rvL];rw[rv_eq,hK]))
         · simp)
      · rw[z0w,z0Z];have g2:(((K.length+1+1:Nat):Int)==1)=false:=by simp;omega
        simp -implicitDefEqProofs only[go_sem,gA hp,sA hp,gL0,sL0,gL1,sL1,List.length_map,g2];refine Fini.trim2 (ex:=[_,_]) ?_ rfl ?_ (z0c _ _) (hb2 _ _)
        · ((try simp -implicitDefEqProofs only[go_sem,resA,z01,rvA,oneOf,gL0]);first|done|rfl|(rw[z1x];rfl)|rw[rv_eq,hK]|(simp only[rv,rvK,rvL];rw[rv_eq,hK]))
        · simp
    · simp -implicitDefEqProofs only[mkE,go_sem];refine CO.intro (z6D hp a1 b1 _) ?_;simp -implicitDefEqProofs only[go_sem,ho];refine CO.intro (z5i hp a1 b1 124 _) ?_;simp -implicitDefEqProofs only[go_sem,h5];refine CO.intro (z5i hp a1 b1 41 _) ?_;simp -implicitDefEqProofs only[go_sem,h6];rcases K with _|⟨y,_|⟨z,K⟩⟩
      · simp -implicitDefEqProofs only[go_sem,z3n,z4r,gA hp,sA hp,gL0,sL0,gL1,sL1];refine Fini.trim2 (ex:=[_]) ?_ rfl ?_ (z0c _ _) (hb2 _ _)
        · ((try simp -implicitDefEqProofs only[go_sem,resA,z01,rvA,oneOf,gL0]);first|done|rfl|(rw[z1x];rfl)|rw[rv_eq,hK]|(simp only[rv,rvK,rvL];rw[rv_eq,hK]))
        · simp
      · have g3:(((1:Nat):Int)==1)=true:=rfl;have g4:((0:Int)<((1:Nat):Int))=True:=by simp
        have hbx:∀n,Bel n y.rv:=fun n=>z0c n y
        rw[z0w,z0Z,List.map_cons,List.map_nil,show(one 2 [y])=y from rfl]
        rw[rv_eq y]at hbx⊢;rcases rvK_cases y.ks with hK|⟨l,hK⟩
        all_goals rw[hK]at hbx⊢
        all_goals simp -implicitDefEqProofs only[go_sem,gA hp,sA hp,gL0,sL0,gL1,sL1,List.length_map,g3,g4,Int.toNat_zero]
        all_goals (
         refine Fini.trim2 (ex:=[_,_]) ?_ rfl ?_ (hbx _) (hb2 _ _)
         · ((try simp -implicitDefEqProofs only[go_sem,resA,z01,rvA,oneOf,gL0]);first|done|rfl|(rw[z1x];rfl)|rw[rv_eq,hK]|(simp only[rv,rvK,rvL];rw[rv_eq,hK]))
         · simp)
      · rw[z0w,z0Z];have g2:(((K.length+1+1:Nat):Int)==1)=false:=by simp;omega
        simp -implicitDefEqProofs only[go_sem,gA hp,sA hp,gL0,sL0,gL1,sL1,List.length_map,g2];refine Fini.trim2 (ex:=[_,_]) ?_ rfl ?_ (z0c _ _) (hb2 _ _)
        · ((try simp -implicitDefEqProofs only[go_sem,resA,z01,rvA,oneOf,gL0]);first|done|rfl|(rw[z1x];rfl)|rw[rv_eq,hK]|(simp only[rv,rvK,rvL];rw[rv_eq,hK]))
        · simp
 · simp[mkE,vK]
 · rfl
theorem z7o (F:PF) (d:Nat) (hF:FAns 177 [I d] s F) (hfw:Fwd F):FAns 173 [I d] s (pways s F):=by
 intro σ p a b hp hs;refine Ans.of_run' t173 (fun hbel _=>?_)
 have hb2:=z4p hbel;simp -implicitDefEqProofs only[c173,r173,go_sem,List.append_assoc,List.length_append,List.length_set];unfold pways;simp only;refine CO.intro (hF.ex hp a b hs _) ?_;have hs0:(F a b).2.2=true∨s.size≤40:=hfw.hs hs;generalize F a b=w0 at hs0⊢;obtain⟨x0,a0,b0⟩:=w0;simp only at hs0⊢;have hm:s.size-a0<s.size+1:=by omega
 generalize hres:z2t s F (s.size+1) [x0] a0 b0=res;rw[rv_eq x0];rcases rvK_cases x0.ks with hK0|⟨l0,hK0⟩
 all_goals rw[hK0]
 all_goals simp -implicitDefEqProofs only[go_sem,gA hp,sA hp,gL0,sL0,gL1,sL1,List.append_assoc,List.length_append,List.length_set]
 all_goals (
  refine L.intro (α:={ x:Nat×List Rex×Nat×Bool // z2t s F x.1 x.2.1 x.2.2.1 x.2.2.2=res∧s.size-x.2.2.1<x.1∧(x.2.2.2=true∨s.size≤40)∧x.2.1.length≤x.2.2.1+1∧x.2.1≠[] })
   (fun x=>x.1.1)
   (fun x=>mkE 26 [(0,.ptr p 0),(1,I d),(4,.ptr σ.length 0),(5,vK σ.length x.1.2.1)])
   (fun x=>σ.set p (pob s x.1.2.2.1 x.1.2.2.2)++exK x.1.2.1)
   (fun x J hJ=>?_) ⟨(s.size+1,[x0],a0,b0),hres,hm,hs0,by simp,by simp⟩ ?_ ?_)
 all_goals try (simp[mkE,vK];done)
 all_goals try (simp only[z0w,List.map_cons,List.map_nil,rv_eq x0,hK0];done)
 all_goals (
  obtain⟨⟨n,K,a1,b1⟩,h1,h2,h3,h4,h5⟩:=x;simp only at h1 h2 h3 h4 h5 hJ⊢;rcases n with _|n
  · omega
  rw[z2t]at h1;cases hgo:sees s a1 b1 124
  · rw[hgo,if_neg Bool.false_ne_true]at h1;subst h1;clear hJ h2;have hn:=z3K (s:=s) hp a1 b1 124 h3;simp only[nextA,hgo,Bool.false_eq_true,if_false]at hn;simp -implicitDefEqProofs only[mkE,go_sem];refine CO.intro (hn _) ?_;simp -implicitDefEqProofs only[go_sem];rcases K with _|⟨y,_|⟨z,K⟩⟩
    · exact absurd rfl h5
    · have g3:(((1:Nat):Int)==1)=true:=rfl;have g4:((0:Int)<((1:Nat):Int))=True:=by simp
      have hbx:∀n,Bel n y.rv:=fun n=>z0c n y
      rw[z0w,z0Z,List.map_cons,List.map_nil,show(one 3 [y])=y from rfl]
      rw[rv_eq y]at hbx⊢;rcases rvK_cases y.ks with hK|⟨l,hK⟩
      all_goals rw[hK]at hbx⊢
      all_goals simp -implicitDefEqProofs only[go_sem,gA hp,sA hp,gL0,sL0,gL1,sL1,List.length_map,g3,g4,Int.toNat_zero]
      all_goals (
       refine Fini.trim2 (ex:=[_,_]) ?_ rfl ?_ (hbx _) (hb2 _ _)
       · ((try simp -implicitDefEqProofs only[go_sem,resA,z01,rvA,oneOf,gL0]);first|done|rfl|(rw[z1x];rfl)|rw[rv_eq,hK]|(simp only[rv,rvK,rvL];rw[rv_eq,hK]))
       · simp)
    · rw[z0w,z0Z];have g2:(((K.length+1+1:Nat):Int)==1)=false:=by simp;omega
      simp -implicitDefEqProofs only[go_sem,gA hp,sA hp,gL0,sL0,gL1,sL1,List.length_map,g2];refine Fini.trim2 (ex:=[_,_]) ?_ rfl ?_ (z0c _ _) (hb2 _ _)
      · ((try simp -implicitDefEqProofs only[go_sem,resA,z01,rvA,oneOf,gL0]);first|done|rfl|(rw[z1x];rfl)|rw[rv_eq,hK]|(simp only[rv,rvK,rvL];rw[rv_eq,hK]))
      · simp
  · rw[hgo,if_pos rfl]at h1;obtain⟨ha,hb⟩:=z8c hgo;subst hb
    have hsz:s.size≤40:=by
     rcases h3 with h|h
     · exact absurd h Bool.false_ne_true
     · exact h
    have hea:=(hfw (a1+1) false).1;have hJ':=hJ ⟨(n,K++[(F (a1+1) false).1],(F (a1+1) false).2.1,(F (a1+1) false).2.2),h1,by simp only;omega,.inr hsz,by simp;omega,by simp⟩ (Nat.lt_succ_self n)
    simp only[z4N,z6E]at hJ';clear hJ h1;have hn:=z3K (s:=s) hp a1 false 124 h3;simp only[nextA,hgo,if_true]at hn;simp -implicitDefEqProofs only[mkE,go_sem];refine CO.intro (hn _) ?_;simp -implicitDefEqProofs only[go_sem];refine CO.intro (hF.ex hp (a1+1) false (.inr hsz) _) ?_;generalize F (a1+1) false=w at hJ' hea⊢;obtain⟨x,a2,b2⟩:=w;simp only at hJ' hea⊢;rw[rv_eq x]at hJ'⊢;rcases K with _|⟨y,K⟩
    · exact absurd rfl h5
    have g1:(K.length+1+1≤2^32)=True:=by simp at h4;simp;omega
    rcases rvK_cases x.ks with hK|⟨l,hK⟩
    all_goals rw[hK]at hJ'⊢
    all_goals (
     simp -implicitDefEqProofs only[go_sem,z0w,z0Z,gA hp,sA hp,gL0,sL0,gL1,sL1,List.length_map,g1]at hJ'⊢
     simpa[mkE] using hJ'))
theorem zdZ:∀k,k≤8→FAns 173 [I ((8-k:Nat):Int)] s (PW s k)
 |0,_=>z7o s _ 8 (zb7 s _ 8 (z69 s _ 8 (z91 s _ 8 (Nat.le_refl _) (fun h=>absurd h (Nat.lt_irrefl _)) (fun a b=>⟨Nat.le_refl _,id⟩)) (z37 s (fun a b=>⟨Nat.le_refl _,id⟩) 8))
  (z2W s (z37 s (fun a b=>⟨Nat.le_refl _,id⟩) 8)) (z5h s (z7m s (fun a b=>⟨Nat.le_refl _,id⟩) 8)))
  (z8d s (z2W s (z37 s (fun a b=>⟨Nat.le_refl _,id⟩) 8)))
 |k+1,h=>by
  have ih:=zdZ k (by omega)
  have hf:=z90 s k;have e:8-(k+1)=7-k:=by omega
  have e2:8-k=7-k+1:=by omega
  rw[e2]at ih;rw[e]
  exact z7o s _ (7-k) (zb7 s _ (7-k) (z69 s _ (7-k) (z91 s _ (7-k) (by omega) (fun _=>ih) hf) (z37 s hf _))
   (z2W s (z37 s hf _)) (z5h s (z7m s hf _)))
   (z8d s (z2W s (z37 s hf _)))
def z2I:Rex×Bool :=
 let w:=PW s 8 0 (decide (40<s.size))
 if w.2.2||decide (w.2.1<s.size) then(.mk 0 0 0 0 0 [],false) else(w.1,true)
theorem zb8 (σ:St):Ans Tryz.prog 166 [Sx s] σ (.tup [(z2I s).1.rv,Bo (z2I s).2]) σ:=by
 have hw:∀b:Bool,(b=true∨s.size≤40)→Ans Tryz.prog 173 [.ptr (σ.length+1) 0,I 0] (σ++[box0,pob s 0 b]) (PW s 8 0 b).1.rv (σ++[box0,pob s (PW s 8 0 b).2.1 (PW s 8 0 b).2.2]):=by
  intro b hs;have:=zdZ s 8 (Nat.le_refl _) (σ++[box0,pob s 0 b]) (σ.length+1) 0 b (by simp) hs
  have e:∀o,(σ++[box0,pob s 0 b]).set (σ.length+1) o=σ++[box0,o]:=fun o=>by rw[List.set_append_right _ _ (by omega)];simp
  rwa [e,e]at this
 have hs:(decide (40<s.size))=true∨s.size≤40:=by
  rcases Nat.lt_or_ge 40 s.size with h|h
  · exact .inl (by simpa using h)
  · exact .inr h
 have e40:decide ((40:Int)<(s.size:Int))=decide (40<s.size):=by rw[Bool.eq_iff_iff];simp;omega
 have k0:∀(x y:Ob) (ex:St),(σ++x::y::ex)[σ.length]?=some x:=fun x y ex=>by rw[List.getElem?_append_right (by simp)];simp
 have k1:∀(x y:Ob) (ex:St),(σ++x::y::ex)[σ.length+1]?=some y:=fun x y ex=>by rw[List.getElem?_append_right (by simp)];simp
 have k2:∀(x y z:Ob),(σ++[x,y,z])[σ.length+2]?=some z:=fun x y z=>by rw[List.getElem?_append_right (by simp)];simp
 have s0:∀(x z:Ob) (ex:St),(σ++x::ex).set σ.length z=σ++z::ex:=fun x z ex=>by rw[List.set_append_right _ _ (by simp)];simp
 refine Ans.of_run' t166 (fun hbel _=>?_)
 simp -implicitDefEqProofs only[c166,r166,go_sem,List.append_assoc,List.length_append,e40];refine CO.intro (hw _ hs) ?_;unfold z2I;generalize PW s 8 0 (decide (40<s.size))=w;obtain⟨x,a,b⟩:=w;simp only;have eL:decide ((a:Int)<(s.size:Int))=decide (a<s.size):=by rw[Bool.eq_iff_iff];simp
 have hbx:∀n,Bel n x.rv:=fun n=>z0c n x
 rw[rv_eq x];have hrx:=rv_eq x;rcases rvK_cases x.ks with hK|⟨l,hK⟩
 all_goals (
  rw[hK]at hrx⊢;cases b
  · cases hlt:decide (a<s.size)
    · simp -implicitDefEqProofs only[go_sem,k0,k1,k2,s0,List.append_assoc,List.length_append,eL,hlt,Bool.or_self,hrx];rw[hrx]at hbx;refine Fini.trim2 (σ':=σ) (ex:=[_,_]) ?_ rfl (Nat.le_refl _) ?_ hbel
      · simp -implicitDefEqProofs only[go_sem,resA,z01,rvA,oneOf,k0]
      · exact z38 (hbx _) _
    · simp -implicitDefEqProofs only[go_sem,k0,k1,k2,s0,List.append_assoc,List.length_append,eL,hlt,Bool.or_true];refine Fini.trim2 (σ':=σ) (ex:=[_,_]) ?_ rfl (Nat.le_refl _) ?_ hbel
      · simp -implicitDefEqProofs only[go_sem,resA,z01,rvA,oneOf,k0];rfl
      · exact z38 (z0c _ (.mk 0 0 0 0 0 [])) _
  · simp -implicitDefEqProofs only[go_sem,k0,k1,k2,s0,List.append_assoc,List.length_append,Bool.true_or];refine Fini.trim2 (σ':=σ) (ex:=[_,_]) ?_ rfl (Nat.le_refl _) ?_ hbel
    · simp -implicitDefEqProofs only[go_sem,resA,z01,rvA,oneOf,k0];rfl
    · exact z38 (z0c _ (.mk 0 0 0 0 0 [])) _)
end
theorem zfE {M:Nat→Prop} {R:Ref→Value→Prop} {w:World}:∀(n:Nat) (x:Rex),SizeOf.sizeOf x≤n→∀v,Rep M R w (rvK x.ks) v→Rep M R w (.sl 6 (x.ks.map av)) v:=by
 intro n
 induction n with
 |zero=>intro x h;cases x;simp at h
 |succ n ih =>
  intro x hx v h;have hlt:∀y∈x.ks,SizeOf.sizeOf y<SizeOf.sizeOf x:=fun y hy=>zaX hy
  generalize x.ks=L at h hlt;rcases L with _|⟨y,L⟩
  · cases h;exact .sl0 6 _ _
  · rw[z6C]at h;generalize hM:y::L=M' at h hlt
    have hget:∀i (hi:i<(M'.map rv).length),(M'.map rv)[i].cells=[I (M'[i]'(by simpa using hi)).op,U (M'[i]'(by simpa using hi)).a,U (M'[i]'(by simpa using hi)).b,U (M'[i]'(by simpa using hi)).c,U (M'[i]'(by simpa using hi)).d,rvK (M'[i]'(by simpa using hi)).ks]:=fun i hi=>by
     rw[List.getElem_map,zcF]
    have hget2:∀i (hi:i<(M'.map av).length),(M'.map av)[i].cells=[I (M'[i]'(by simpa using hi)).op,U (M'[i]'(by simpa using hi)).a,U (M'[i]'(by simpa using hi)).b,U (M'[i]'(by simpa using hi)).c,U (M'[i]'(by simpa using hi)).d,.sl 6 ((M'[i]'(by simpa using hi)).ks.map av)]:=fun i hi=>by
     rw[List.getElem_map,av_eq];rfl
    generalize hN:M'.map rv=N at h
    cases h with
    |sl0 => 
     have:M'=[]:=by simpa using hN
     rw[this]at hM;cases hM
    |sl _ _ b o cap f hcap hc hr =>
     subst hN;have e:(M'.map rv).length=(M'.map av).length:=by simp
     rw[e];refine Rep.sl 6 (M'.map av) b o cap f (by rw[←e];exact hcap) ?_ ?_
     · intro i j hi hj;have hi':i<(M'.map rv).length:=by rw[e];exact hi
       refine hc i j hi' ?_;rw[hget2 i hi]at hj;rw[hget i hi'];exact hj
     · intro i j hi hj;have hi':i<(M'.map rv).length:=by rw[e];exact hi
       have hj6:j<6:=by rw[hget2 i hi]at hj;exact hj
       have hj':j<((M'.map rv)[i].cells).length:=by rw[hget i hi'];exact hj6
       have h2:=hr i j hi' hj';simp only[hget i hi']at h2;simp only[hget2 i hi];have hmem:M'[i]'(by simpa using hi)∈M':=List.getElem_mem _
       have ih2:=ih (M'[i]'(by simpa using hi)) (by have:=hlt _ hmem;omega)
       have h6:j=0∨j=1∨j=2∨j=3∨j=4∨j=5:=by omega
       rcases h6 with rfl|rfl|rfl|rfl|rfl|rfl
       · exact h2
       · exact h2
       · exact h2
       · exact h2
       · exact h2
       · exact ih2 _ h2
theorem zfF {M:Nat→Prop} {R:Ref→Value→Prop} {w:World} (x:Rex) (v:Value) (h:Rep M R w x.rv v):Rep M R w x.av v:=by
 have hk:=zfE (M:=M) (R:=R) (w:=w) (SizeOf.sizeOf x) x (Nat.le_refl _);rw[rv_eq]at h;rw[av_eq]
 cases h with
 |agg _ vs hl hr =>
  refine .agg _ vs hl fun j hj hj'=>?_
  have h2:=hr j hj hj';have hj6:j<6:=hj;have h6:j=0∨j=1∨j=2∨j=3∨j=4∨j=5:=by omega
  rcases h6 with rfl|rfl|rfl|rfl|rfl|rfl
  · exact h2
  · exact h2
  · exact h2
  · exact h2
  · exact h2
  · exact hk _ h2
theorem Ans.sub {P:Program} {f:FuncId} {x:Rex} {σ σ':St} {r:AV} (h:Ans P f [x.av] σ r σ'):Ans P f [x.rv] σ r σ':=by
 intro M ν w vs hg hr;refine h M ν w vs hg ⟨hr.1,fun j hj hj'=>?_⟩
 have h2:=hr.2 j hj hj';have:j=0:=by simp at hj;exact hj
 subst this;exact zfF x _ h2
section
variable (s:ByteArray)
end
end Go.Proofs.YteakobbdgehlgaaGreatDoor
namespace Go.Proofs.YteakobbdgehlgaaGreatDoor
open Go Go.Ab
set_option maxRecDepth 100000
def z2u (c:Nat):Bool:=decide (97≤c)&&decide (c≤122)||decide (65≤c)&&decide (c≤90)||c==95
def z4s (c:Nat):Bool:=decide (48≤c)&&decide (c≤57)
def nameB (s:ByteArray):Bool:=decide (1≤s.size)&&decide (s.size≤12)&&z2u (byteAt s 0)&&(List.range s.size).all fun i=>z2u (byteAt s i)||z4s (byteAt s i)
theorem z3f (a b:Nat):decide ((a:Int)≤(b:Int))=decide (a≤b):=by
 rw[Bool.eq_iff_iff];simp only[decide_eq_true_eq];omega
theorem z6a (σ:St) (c:Nat):Ans Tryz.prog 170 [.pl (.int .u8 c)] σ (Bo (z2u c)) σ:=by
 have e1:decide ((97:Int)≤c)=decide (97≤c):=z3f 97 c;have e2:decide ((c:Int)≤122)=decide (c≤122):=z3f c 122;have e3:decide ((65:Int)≤c)=decide (65≤c):=z3f 65 c;have e4:decide ((c:Int)≤90)=decide (c≤90):=z3f c 90;have e5:((c:Int)==95)=(c==95):=z0i c 95
 have hg:(if(if decide (97≤c) then decide (c≤122) else false) then true else if(if decide (65≤c) then decide (c≤90) else false) then true else(c==95))=z2u c:=by
  unfold z2u;cases decide (97≤c)<;>cases decide (c≤122)<;>cases decide (65≤c)<;>cases decide (c≤90)<;>cases(c==95)<;>rfl
 rw[←hg];refine Ans.of_run t170 ?_;cases h1:decide (97≤c)<;>cases h2:decide (c≤122)<;>cases h3:decide (65≤c)<;>cases h4:decide (c≤90)<;>rw[h1]at e1<;>rw[h2]at e2<;>rw[h3]at e3<;>rw[h4]at e4
 all_goals (simp -implicitDefEqProofs only[c170,r170,go_sem,e1,e2,e3,e4,e5];exact Fini.ret rfl)
theorem decN (a b:Nat):decide ((a:Int)<(b:Int))=decide (a<b):=by
 rw[Bool.eq_iff_iff];simp only[decide_eq_true_eq];omega
theorem z5k (σ:St) (s:ByteArray):Ans Tryz.prog 157 [Sx s] σ (Bo (nameB s)) σ:=by
 refine Ans.of_run t157 ?_;have d1:decide ((s.size:Int)<1)=decide (s.size<1):=decN s.size 1;have d2:decide ((12:Int)<s.size)=decide (12<s.size):=decN 12 s.size;by_cases h1:s.size<1
 · have e1:decide (s.size<1)=true:=by simpa using h1
   rw[e1]at d1;simp -implicitDefEqProofs only[c157,r157,go_sem,d1];refine Fini.ret' rfl (z16 ?_);rw[nameB,show decide (1≤s.size)=false from decide_eq_false (by omega)];rfl
 have e1:decide (s.size<1)=false:=by simpa using h1
 rw[e1]at d1;by_cases h2:12<s.size
 · have e2:decide (12<s.size)=true:=by simpa using h2
   rw[e2]at d2;simp -implicitDefEqProofs only[c157,r157,go_sem,d1,d2];refine Fini.ret' rfl (z16 ?_);rw[nameB,show decide (s.size≤12)=false from decide_eq_false (by omega),Bool.and_false];rfl
 have e2:decide (12<s.size)=false:=by simpa using h2
 rw[e2]at d2;have z1:((0:Int)<s.size)=True:=by simp;omega
 have n1:decide (1≤s.size)=true:=by simp;omega
 have n2:decide (s.size≤12)=true:=by simp;omega
 simp -implicitDefEqProofs only[c157,r157,go_sem,d1,d2,z1,z09,Int.toNat_zero];refine CO.intro (z6a _ _) ?_
 cases hl:z2u (byteAt s 0) with
 |false =>
  simp -implicitDefEqProofs only[go_sem,Int.toNat_zero,hl];refine Fini.ret' rfl (z16 ?_);rw[nameB,hl,Bool.and_false];rfl
 |true =>
 simp -implicitDefEqProofs only[go_sem,Int.toNat_zero,hl];refine Go.Ab.L.scan s.size (fun i=>z2u (byteAt s i)||z4s (byteAt s i)) (fun i=>mkE 41 [(0,Sx s),(19,I s.size),(20,I i)]) (fun _=>σ) ?_ ?_ ?_ rfl
 · intro i hi hp J hJ;have hlt:((i:Int)<s.size)=True:=by simp;omega
   have hin:=z0P (n:=i) (by omega)
   have f1:decide ((byteAt s i:Int)<48)=decide (byteAt s i<48):=decN _ 48;have f2:decide ((57:Int)<byteAt s i)=decide (57<byteAt s i):=decN 57 _;simp -implicitDefEqProofs only[mkE,go_sem,hlt,z09];refine CO.intro (z6a _ _) ?_
   have hd:z4s (byteAt s i)= !(decide (byteAt s i<48)||decide (57<byteAt s i)):=by
    unfold z4s;rw[Bool.eq_iff_iff];simp
   rw[hd]at hJ
   cases h3:z2u (byteAt s i) with
   |true =>
    rw[h3]at hJ;simp -implicitDefEqProofs only[go_sem,hin];exact hJ rfl
   |false =>
    rw[h3]at hJ;simp -implicitDefEqProofs only[go_sem,hlt,z09];cases h4:decide (byteAt s i<48)<;>rw[h4]at f1 hJ
    · cases h5:decide (57<byteAt s i)<;>rw[h5]at f2 hJ
      · simp -implicitDefEqProofs only[go_sem,f1,f2,hlt,z09,hin];exact hJ rfl
      · simp -implicitDefEqProofs only[go_sem,f1,f2,hlt,z09];refine Fini.ret' rfl (z16 ?_);rw[nameB,List.all_eq_false.2 ⟨i,List.mem_range.2 hi,by simp[h3,hd,h4,h5]⟩,Bool.and_false]
    · simp -implicitDefEqProofs only[go_sem,f1,hlt,z09];refine Fini.ret' rfl (z16 ?_);rw[nameB,List.all_eq_false.2 ⟨i,List.mem_range.2 hi,by simp[h3,hd,h4]⟩,Bool.and_false]
 · intro hp J;have hlt:((s.size:Int)<s.size)=False:=by simp
   simp -implicitDefEqProofs only[mkE,go_sem,hlt];refine Fini.ret' rfl (z16 ?_);rw[nameB,n1,n2,hl,List.all_eq_true.2 fun i hi=>hp i (List.mem_range.1 hi)];rfl
 · rfl
def likeB (k:Int):Bool:=k==3||k==4
def isB (k:Int) (nm v:ByteArray):Bool:=nameB nm&&(if likeB k then(z2I v).2 else(k==1||k==2)&&decide (v.size≤24))
theorem zcG (σ:St) (k:Int) (nm v:ByteArray):Ans Tryz.prog 165 [mat k nm v] σ (Bo (likeB k)) σ:=by
 refine Ans.of_run t165 ?_;simp -implicitDefEqProofs only[c165,r165,go_sem];unfold likeB;cases h:k==3
 · simp -implicitDefEqProofs only[go_sem];exact Fini.ret rfl
 · simp -implicitDefEqProofs only[go_sem];exact Fini.ret rfl
theorem zfG (σ:St) (k:Int) (nm v:ByteArray):Ans Tryz.prog 155 [mat k nm v] σ (Bo (isB k nm v)) σ:=by
 refine Ans.of_run t155 ?_;unfold isB;simp -implicitDefEqProofs only[c155,r155,go_sem];refine CO.intro (z5k σ nm) ?_
 cases hn:nameB nm with
 |false =>
  simp -implicitDefEqProofs only[go_sem];exact Fini.ret rfl
 |true =>
 simp -implicitDefEqProofs only[go_sem];refine CO.intro (zcG σ k nm v) ?_
 cases hk:likeB k with
 |true =>
  simp -implicitDefEqProofs only[go_sem];refine CO.intro (zb8 v σ) ?_;have hrv:=Rex.rv_eq (z2I v).1;generalize (z2I v).1=x at hrv⊢;generalize (z2I v).2=b;rw[hrv];rcases Rex.rvK_cases x.ks with e|⟨l,e⟩<;>rw[e]
  all_goals (simp -implicitDefEqProofs only[go_sem];exact Fini.ret rfl)
 |false =>
  have d:decide ((v.size:Int)≤24)=decide (v.size≤24):=z3f v.size 24;simp -implicitDefEqProofs only[go_sem]
  cases h1:k==1 with
  |true =>
   simp -implicitDefEqProofs only[go_sem,d];exact Fini.ret rfl
  |false =>
   simp -implicitDefEqProofs only[go_sem]
   cases h2:k==2 with
   |true =>
    simp -implicitDefEqProofs only[go_sem,d];exact Fini.ret rfl
   |false =>
    simp -implicitDefEqProofs only[go_sem];exact Fini.ret rfl
abbrev Mtr:=Int×ByteArray×ByteArray
def mv3 (x:Mtr):AV:=mat x.1 x.2.1 x.2.2
def mvs3 (L:List Mtr):List AV:=L.map mv3
def cmpL:List UInt8→List UInt8→Int
 |[],[]=>0
 |[],_::_=>-1
 |_::_,[]=>1
 |a::x,b::y=>if a != b then(if a<b then -1 else 1) else cmpL x y
def cmpI2 (x y:List UInt8):Int:=match(List.range (min x.length y.length)).find? fun i=>x.getD i 0 != y.getD i 0 with
 |some i=>if x.getD i 0<y.getD i 0 then -1 else 1
 |none=>if x.length<y.length then -1 else if x.length>y.length then 1 else 0
theorem z92:∀x y:List UInt8,cmpI2 x y=cmpL x y
 |[],[]=>rfl
 |[],b::y=>by simp[cmpI2,cmpL]
 |a::x,[]=>by simp[cmpI2,cmpL]
 |a::x,b::y=>by
  rw[cmpL,←z92 x y];unfold cmpI2;rw[List.length_cons,List.length_cons,Nat.succ_min_succ,List.range_succ_eq_map,List.find?_cons];simp only[List.getD_cons_zero]
  cases h:(a != b) with
  |true=>simp
  |false =>
   simp only[Bool.false_eq_true,if_false];rw[List.find?_map];simp only[Function.comp_def,List.getD_cons_succ]
   cases(List.range (min x.length y.length)).find? fun i=>x.getD i 0 != y.getD i 0 with
   |none=>simp
   |some i=>simp
theorem z7p:∀x y:List UInt8,cmpL x y=if x==y then 0 else if Op.bytesLess x y then -1 else 1
 |[],[]=>rfl
 |[],b::y=>by simp[cmpL,Op.bytesLess]
 |a::x,[]=>by simp[cmpL,Op.bytesLess]
 |a::x,b::y=>by
  rw[cmpL,z7p x y,Op.bytesLess];by_cases h:a=b
  · subst h;have:¬a<a:=by simp
    simp[this]
  · by_cases hl:a<b
    · simp[h,hl]
    · simp[h,hl]
theorem zcH (a b:ByteArray):Extern.BytealgCompare.cmp a b=cmpL a.data.toList b.data.toList:=by
 rw[←z92];unfold Extern.BytealgCompare.cmp cmpI2
 have hg:∀(a:ByteArray) (i:Nat),a[i]! =a.data.toList.getD i 0:=fun a i=>by
  rw[List.getD_eq_getElem?_getD,Array.getElem?_toList,getElem!_def];by_cases h:i<a.size
  · have h1:a[i]?=some a[i]:=by rw[getElem?_pos]
    have h2:a.data[i]?=some a[i]:=Array.getElem?_eq_getElem h;rw[h1,h2];rfl
  · have h1:a[i]?=none:=by rw[getElem?_neg];exact h
    have h2:a.data[i]?=none:=Array.getElem?_eq_none (by simpa using h)
    rw[h1,h2];rfl
 simp only[hg];rfl
end Go.Proofs.YteakobbdgehlgaaGreatDoor
