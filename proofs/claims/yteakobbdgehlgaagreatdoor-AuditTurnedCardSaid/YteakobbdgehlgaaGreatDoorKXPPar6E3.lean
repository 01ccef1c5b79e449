/- What a reader takes off the front of its bytes: numbers, texts, bytes. No condition. -/
import Derived.Test.YteakobbdgehlgaaGreatDoorKXVi3E3
import Derived.Test.YteakobbdgehlgaaGreatDoorAbSXE3
import Derived.Test.YteakobbdgehlgaaGreatDoorKMCode1E3
import Derived.Test.YteakobbdgehlgaaGreatDoorKMCode2E3
import Derived.Test.YteakobbdgehlgaaGreatDoorKShA1E3
import Derived.Test.YteakobbdgehlgaaGreatDoorAbArgE3
import Derived.Laws.Externs
set_option linter.unusedSimpArgs false
set_option linter.unusedVariables false
set_option linter.unusedSectionVars false
set_option maxRecDepth 100000
set_option maxHeartbeats 8000000
namespace Go.Proofs.YteakobbdgehlgaaGreatDoor
open Go Go.Ab Go.Cod
section
variable (σ:St) (p:Nat) (b:Byt) (q:Nat×Bool)
theorem z21 (most:Nat) (hm:most<18446744073709551616) (h:σ[p]?=some (rob b q)) (hq:Inb b q) (hb:b.length≤50000) :
  Ans Tryz.prog 60 [.ptr p 0,UN most] σ (UN (runR (numR most) 0 b q).1) (σ.set p (rob b (runR (numR most) 0 b q).2)):=by
 refine Ans.of_run t60 ?_;simp -implicitDefEqProofs only[c60,r60,go_sem];refine CO.intro (z18 σ p b q h hq) ?_;simp -implicitDefEqProofs only[go_sem];refine CO.intro (zar σ (b.drop q.1) (by rw[List.length_drop];omega)) ?_
 obtain⟨a,bad⟩:=q;simp only at hq h⊢;have hq:a≤b.length:=hq
 cases hg:getN 0 (b.drop a) with
 |none =>
  have hR:numR most (b.drop a)=none:=by simp only[numR,hg,Option.bind_none]
  have ht:=z19 σ p b (a,bad) 0 false h (by simp only;omega)
  have ht:Ans Tryz.prog 97 [.ptr p 0,I 0,Bo false] σ (Bo false) (σ.set p (rob b (a,true))):=by
   have e:took (a,bad) 0 false=(a,true):=by cases bad<;>rfl
   rw[e]at ht;exact ht
  rw[z4n hg];simp -implicitDefEqProofs only[go_sem];refine CO.intro ht ?_;simp -implicitDefEqProofs only[go_sem]
  cases bad with
  |true=>rw[z0O];exact Fini.ret rfl
  |false=>rw[z0V hR];exact Fini.ret rfl
 |some x =>
  obtain⟨n,t⟩:=x;rw[z5N hg];have hl:=zeW hg;rw[List.length_drop]at hl;have e1:decide ((n:Int)≤most)=decide (n≤most):=intle n most;have ht:=z19 σ p b (a,bad) ((b.drop a).length-t.length) (decide (n≤most)) h (by simp only[List.length_drop];omega)
  by_cases h1:n≤most
  · have x1:decide (n≤most)=true:=decide_eq_true h1;rw[x1]at ht;have hR:numR most (b.drop a)=some (n,t):=by simp only[numR,hg,Option.bind_some,h1,if_true]
    simp -implicitDefEqProofs only[go_sem,e1,x1];refine CO.intro ht ?_
    cases bad with
    |true =>
     have e:took (a,true) ((b.drop a).length-t.length) true=(a,true):=rfl;rw[e,z0O];simp -implicitDefEqProofs only[go_sem];exact Fini.ret rfl
    |false =>
     have e:took (a,false) ((b.drop a).length-t.length) true=(b.length-t.length,false):=by
      simp only[took,Bool.false_or,Bool.not_true,Bool.false_eq_true,if_false,List.length_drop];congr 1;omega
     rw[e,z0L hR];simp -implicitDefEqProofs only[go_sem];exact Fini.ret rfl
  · have x1:decide (n≤most)=false:=decide_eq_false h1;rw[x1]at ht;have hR:numR most (b.drop a)=none:=by simp only[numR,hg,Option.bind_some,h1,if_false]
    have e:took (a,bad) ((b.drop a).length-t.length) false=(a,true):=by cases bad<;>rfl
    rw[e]at ht;simp -implicitDefEqProofs only[go_sem,e1,x1];refine CO.intro ht ?_;simp -implicitDefEqProofs only[go_sem]
    cases bad with
    |true=>rw[z0O];exact Fini.ret rfl
    |false=>rw[z0V hR];exact Fini.ret rfl
theorem z2L (most:Nat) (hm:most<9223372036854775808) (h:σ[p]?=some (rob b q)) (hq:Inb b q) (hb:b.length≤50000) :
  Ans Tryz.prog 62 [.ptr p 0,I most] σ (Sx (runR (textR most) ⟨#[]⟩ b q).1) (σ.set p (rob b (runR (textR most) ⟨#[]⟩ b q).2)):=by
 refine Ans.of_run t62 ?_;simp -implicitDefEqProofs only[c62,r62,go_sem];refine CO.intro (z18 σ p b q h hq) ?_;simp -implicitDefEqProofs only[go_sem];refine CO.intro (z9z σ (b.drop q.1) most (by rw[List.length_drop];omega) hm) ?_
 obtain⟨a,bad⟩:=q;simp only at hq h⊢;have hq:a≤b.length:=hq
 cases hg:textR most (b.drop a) with
 |none =>
  have ht:=z19 σ p b (a,bad) 0 false h (by simp only;omega)
  have ht:Ans Tryz.prog 97 [.ptr p 0,I 0,Bo false] σ (Bo false) (σ.set p (rob b (a,true))):=by
   have e:took (a,bad) 0 false=(a,true):=by cases bad<;>rfl
   rw[e]at ht;exact ht
  rw[z3O hg];simp -implicitDefEqProofs only[go_sem];refine CO.intro ht ?_;simp -implicitDefEqProofs only[go_sem]
  cases bad with
  |true=>rw[z0O];exact Fini.ret rfl
  |false=>rw[z0V hg];exact Fini.ret rfl
 |some x =>
  obtain⟨n,t⟩:=x;rw[z6O hg];have hl:=((z1w (most:=most) (by omega)).rest hg).1
  rw[List.length_drop]at hl;have ht:=z19 σ p b (a,bad) ((b.drop a).length-t.length) true h (by simp only[List.length_drop];omega)
  simp -implicitDefEqProofs only[go_sem];refine CO.intro ht ?_
  cases bad with
  |true =>
   have e:took (a,true) ((b.drop a).length-t.length) true=(a,true):=rfl;rw[e,z0O];simp -implicitDefEqProofs only[go_sem];exact Fini.ret rfl
  |false =>
   have e:took (a,false) ((b.drop a).length-t.length) true=(b.length-t.length,false):=by
    simp only[took,Bool.false_or,Bool.not_true,Bool.false_eq_true,if_false,List.length_drop];congr 1;omega
   rw[e,z0L hg];simp -implicitDefEqProofs only[go_sem];exact Fini.ret rfl
theorem z1e (h:σ[p]?=some (rob b q)) (hq:Inb b q) (hb:b.length≤50000) :
  Ans Tryz.prog 98 [.ptr p 0] σ (bc (runR byteR 0 b q).1) (σ.set p (rob b (runR byteR 0 b q).2)):=by
 refine Ans.of_run t98 ?_;simp -implicitDefEqProofs only[c98,r98,go_sem];refine CO.intro (z18 σ p b q h hq) ?_;obtain⟨a,bad⟩:=q;simp only at hq h⊢;have hq:a≤b.length:=hq
 cases hg:b.drop a with
 |nil =>
  have hR:byteR (b.drop a)=none:=by rw[hg];rfl
  have d0:decide ((0:Int)<((0:Nat):Int))=false:=by simp
  have ht:=z19 σ p b (a,bad) 1 false h (by simp only;omega)
  have e:took (a,bad) 1 false=(a,true):=by cases bad<;>rfl
  rw[e]at ht;simp -implicitDefEqProofs only[go_sem,zhs,d0];refine CO.intro ht ?_;simp -implicitDefEqProofs only[go_sem]
  cases bad with
  |true=>rw[z0O];exact Fini.ret rfl
  |false=>rw[z0V hR];exact Fini.ret rfl
 |cons c t =>
  have hR:byteR (b.drop a)=some (c,t):=by rw[hg];rfl
  have hl:b.length-a=t.length+1:=by rw[←List.length_drop,hg];rfl
  have d0:decide ((0:Int)<(((byv t).length+1:Nat):Int))=true:=by simp
  have ht:=z19 σ p b (a,bad) 1 true h (by simp only;omega)
  simp -implicitDefEqProofs only[go_sem,z5d,d0];refine CO.intro ht ?_
  cases bad with
  |true =>
   have e:took (a,true) 1 true=(a,true):=rfl;rw[e,z0O];simp -implicitDefEqProofs only[go_sem];exact Fini.ret rfl
  |false =>
   have e:took (a,false) 1 true=(b.length-t.length,false):=by
    simp only[took,Bool.false_or,Bool.not_true,Bool.false_eq_true,if_false];congr 1;omega
   rw[e,z0L hR];simp -implicitDefEqProofs only[go_sem,bc,Int.toNat_zero];exact Fini.ret rfl
theorem z0d (ok:Bool) (h:σ[p]?=some (rob b q)) (hq:Inb b q) (hb:b.length≤50000) :
  Ans Tryz.prog 120 [.ptr p 0,Bo ok] σ (.tup []) (σ.set p (rob b (took q 0 ok))):=by
 have hq:q.1≤b.length:=hq;refine Ans.of_run t120 ?_;simp -implicitDefEqProofs only[c120,r120,go_sem];refine CO.intro (z19 σ p b q 0 ok h (by omega)) ?_
 simp -implicitDefEqProofs only[go_sem];exact Fini.normal rfl
theorem z2z (h:σ[p]?=some (rob b q)):Ans Tryz.prog 63 [.ptr p 0] σ (.tup [I (if q.2 then 0 else q.1:Nat),Bo !q.2]) σ:=by
 obtain⟨a,bad⟩:=q;refine Ans.of_run t63 ?_
 cases bad with
 |true =>
  simp -implicitDefEqProofs only[c63,r63,go_sem,h];exact Fini.ret rfl
 |false =>
  simp -implicitDefEqProofs only[c63,r63,go_sem,h];exact Fini.ret rfl
end
abbrev U (n:Int):AV:=.pl (.int .u64 n)
inductive Rex where
 |mk (op a b c d:Int) (ks:List Rex)
namespace Rex
def op:Rex→Int|.mk op _ _ _ _ _=>op
def a:Rex→Int|.mk _ a _ _ _ _=>a
def b:Rex→Int|.mk _ _ b _ _ _=>b
def c:Rex→Int|.mk _ _ _ c _ _=>c
def d:Rex→Int|.mk _ _ _ _ d _=>d
def ks:Rex→List Rex|.mk _ _ _ _ _ ks=>ks
mutual
def av:Rex→AV
 |.mk op a b c d ks=>.agg [I op,U a,U b,U c,U d,.sl 6 (avL ks)]
def avL:List Rex→List AV
 |[]=>[]
 |x::xs=>av x::avL xs
end
theorem zgz:∀l:List Rex,avL l=l.map av
 |[]=>rfl
 |x::xs=>by rw[avL,zgz xs];rfl
theorem av_eq (x:Rex):x.av=.agg [I x.op,U x.a,U x.b,U x.c,U x.d,.sl 6 (x.ks.map av)]:=by
 cases x;simp only[av,op,a,b,c,d,ks,zgz]
theorem zcU {x y:Rex} (h:y∈x.ks):SizeOf.sizeOf y<SizeOf.sizeOf x:=by
 cases x;have:=List.sizeOf_lt_of_mem h;simp only[ks]at this;simp;omega
mutual
def cut:Rex→Int→Int
 |.mk _ _ _ _ _ ks,most=>cutL ks most 1
def cutL:List Rex→Int→Int→Int
 |[],_,n=>n
 |x::xs,most,n=>if n≤most then cutL xs most (n+cut x (most-n)) else n
end
def run (ks:List Rex) (most:Int):Nat→Int
 |0=>1
 |i+1=>match ks[i]? with
  |some x=>run ks most i+x.cut (most-run ks most i)
  |none=>run ks most i
end Rex
open Rex
section
variable (σ:St)
end
namespace Rex
mutual
def size:Rex→Int
 |.mk op _ _ _ _ ks=>if op==1 then 1 else if op==3 then sizeL ks+2*((ks.length:Int)-1) else if op==4 then sizeL ks+2 else if op==5 then sizeL ks+1 else if op==6 then sizeL ks+1 else sizeL ks
def sizeL:List Rex→Int
 |[]=>0
 |x::xs=>size x+sizeL xs
end
def plain (x:Rex):Bool:=x.a==0&&(x.b==0&&(x.c==0&&(x.d==0&&true)))
end Rex
section
variable (σ:St)
end
structure Stp where
 op:Int
 a:Int
 b:Int
 c:Int
 d:Int
 x:Int
 y:Int
def Stp.av (s:Stp):AV:=.agg [I s.op,U s.a,U s.b,U s.c,U s.d,I s.x,I s.y]
def inR (n at_:Int):Bool:=decide (0≤at_)&&decide (at_<n)
def Stp.none (s:Stp):Bool:=s.a==0&&(s.b==0&&(s.c==0&&(s.d==0&&true)))
def zgA (s:Stp) (n:Int) (last:Bool):Bool :=
 if(s.op != 1)&& !s.none then false
 else if s.op==1 then(s.x==0&&s.y==0)&& !last
 else if s.op==2 then inR n s.x&&inR n s.y
 else if s.op==3 then inR n s.x&&s.y==0
 else(s.op==4&&s.x==0)&&s.y==0
section
variable (σ:St)
def ziL (ys:List Stp):Bool :=
 if decide ((ys.length:Int)<1) then false else if decide ((40:Int)<ys.length) then false
 else !((ys.take (ys.length-1)).any fun s=>!zgA s ys.length false)&&(match ys[ys.length-1]? with|some s=>zgA s ys.length true|none=>false)
end
abbrev W (b:BitVec 64):AV:=U (b.toNat:Int)
namespace Rex
mutual
def lay:Nat→Rex→List Stp
 |n,.mk op a b c d ks =>
  if op==1 then[⟨1,a,b,c,d,0,0⟩]
  else if op==2 then layL n ks
  else if op==3 then layW n ((n+(layW n 0 ks).length:Nat):Int) ks
  else if op==4 then⟨2,0,0,0,0,(n:Int)+1,((n+2+(layH (n+1) ks).length:Nat):Int)⟩::(layH (n+1) ks++[⟨3,0,0,0,0,(n:Int),0⟩])
  else if op==5 then layH n ks++[⟨2,0,0,0,0,(n:Int),((n+(layH n ks).length:Nat):Int)+1⟩]
  else if op==6 then⟨2,0,0,0,0,(n:Int)+1,((n+1+(layH (n+1) ks).length:Nat):Int)⟩::layH (n+1) ks
  else[]
def layL:Nat→List Rex→List Stp
 |_,[]=>[]
 |n,x::xs=>lay n x++layL (n+(lay n x).length) xs
def layH:Nat→List Rex→List Stp
 |_,[]=>[]
 |n,x::_=>lay n x
def layW:Nat→Int→List Rex→List Stp
 |_,_,[]=>[]
 |n,fin,x::xs=>if xs.isEmpty then lay n x else
  ⟨2,0,0,0,0,(n:Int)+1,((n+2+(lay (n+1) x).length:Nat):Int)⟩::(lay (n+1) x++(⟨3,0,0,0,0,fin,0⟩::layW (n+2+(lay (n+1) x).length) fin xs))
end
end Rex
theorem CD.intro' {P:Program} {n0:Nat} {k:List Fr} {B:Bs} {env:Env} {σ σ₀ σ':St} {S:List St} {ob:List St→Prop} {f:FuncId} {args args₀:List AV} {d:Option Tmp} {l:List DOper} {r:AV} (h:Ans P f args₀ σ₀ r σ') (ha:args=args₀) (hs:σ=σ₀)
  (h':D P n0 l k B (putA env d r) (S++[σ']) σ' ob):CD P n0 f args d l k B env S σ ob:=by subst ha;subst hs;exact CD.intro h h'
def rowV (k:Nat) (L:List AV):AV:=if L.isEmpty then .nils else .osl k L.length
def rowS (sz:Nat) (A:St) (L:List AV) (E:St):St:=if L.isEmpty then A++E else A++.row sz L::E
theorem zcV {k:Nat} {L:List AV} (h:L≠[]):rowV k L=.osl k L.length:=by simp[rowV,h]
theorem zcW {sz:Nat} {A E:St} {L:List AV} (h:L≠[]):rowS sz A L E=A++.row sz L::E:=by simp[rowS,h]
abbrev sv (l:List Stp):List AV:=l.map Stp.av
theorem sv_ne {l:List Stp} (h:l≠[]):sv l≠[]:=by simpa[sv] using h
def Lays (x:Rex):Prop:=∀(ls:List Stp) (A E:St),(ls=[]→E=[])→(ls.length:Int)+x.size≤1000 →
 Ans Tryz.prog 1095 [rowV A.length (sv ls),x.av] (rowS 7 A (sv ls) E) (rowV A.length (sv (ls++lay ls.length x))) (rowS 7 A (sv (ls++lay ls.length x)) E)
theorem Lays.own {x:Rex} (h:Lays x) (ls:List Stp) (A E:St) (hne:ls≠[]) (hb:(ls.length:Int)+x.size≤1000) :
  Ans Tryz.prog 1095 [.osl A.length ls.length,x.av] (A++.row 7 (sv ls)::E) (.osl A.length (ls.length+(lay ls.length x).length)) (A++.row 7 (sv (ls++lay ls.length x))::E):=by
 have:=h ls A E (fun e=>absurd e hne) hb
 rw[zcV (sv_ne hne),zcW (sv_ne hne),zcV (sv_ne (by simp[hne])),zcW (sv_ne (by simp[hne]))]at this
 simpa[sv] using this
theorem p32:(1≤2^32)=True:=by simp
theorem w1:IntKind.i64.wrap 1=1:=by decide
theorem zcX (f : FuncId) (fn : Func) (hf : Tryz.prog.funcs[f]? = some fn) (hname : (fn.name == "runtime.NumGoroutine") = false) (hb : fn.body.isNone = true) (hn : Extern.findNext fn = none)
  (e:Array Value→Sem Value) (he:Extern.find fn=some e) (g:Value→Option Value) (hg:∀v r w,g v=some r→(e #[v]).run Tryz.prog w=.ok r w)
  (args:List AV) (σ:St) (r:AV) (σ':St) (h:(match args with|[.pl v]=>(g v).map fun r=>(AV.pl r,σ)|_=>none)=some (r,σ')):Ans Tryz.prog f args σ r σ':=by
 split at h
 · rename_i v;obtain⟨q,hq,h⟩:=z02 h;simp only[Prod.mk.injEq]at h;obtain⟨rfl,rfl⟩:=h;intro M ν w vs gd hvs;refine .inr ⟨q,w,?_,M,ν,gd,.refl,.pl _⟩;obtain⟨hl,hr⟩:=hvs
   match vs,hl with
   |[a],_ =>
    have h0:=hr 0 (by simp) (by simp)
    simp only[List.getElem_cons_zero]at h0;cases h0;rw[run_callFunc_extern hf hname hb hn he];rw[show([v].toArray)=#[v] from rfl,hg v q w hq]
    rfl
 · simp at h
def bitsG:Value→Option Value
 |.float .f64 b=>some (.int .u64 b)
 |_=>none
theorem zf7 (v r:Value) (w:World) (h:bitsG v=some r):(Extern.MathFloatBits.float64bits #[v]).run Tryz.prog w=.ok r w:=by
 unfold bitsG at h;split at h<;>simp at h
 subst h;rfl
def ext_bits:Ext Tryz.prog:=⟨111,fun args σ=>match args with|[.pl v]=>(bitsG v).map fun r=>(AV.pl r,σ)|_=>none,
 zcX 111 Tryz.f111 (by kernel_rfl) (by kernel_rfl) (by kernel_rfl) (by kernel_rfl) Extern.MathFloatBits.float64bits (by kernel_rfl) bitsG zf7⟩
def z4p:Value→Option Value
 |.int .u64 n=>some (.float .f64 n.toNat)
 |_=>none
theorem z8q (v r:Value) (w:World) (h:z4p v=some r):(Extern.MathFloatBits.float64frombits #[v]).run Tryz.prog w=.ok r w:=by
 unfold z4p at h;split at h<;>simp at h
 subst h;rfl
def ext_frombits:Ext Tryz.prog:=⟨148,fun args σ=>match args with|[.pl v]=>(z4p v).map fun r=>(AV.pl r,σ)|_=>none,
 zcX 148 Tryz.f148 (by kernel_rfl) (by kernel_rfl) (by kernel_rfl) (by kernel_rfl) Extern.MathFloatBits.float64frombits (by kernel_rfl) z4p z8q⟩
theorem ziM (args:List AV) (σ:St) (r:AV) (σ':St) (h:(match args with
 |[.pl (.string a),.pl (.string b)]=>some (AV.pl (.int .i64 (Extern.BytealgCompare.cmp a b)),σ)
 |_=>none)=some (r,σ')):Ans Tryz.prog 179 args σ r σ':=by
 split at h
 · rename_i s c;simp only[Option.some.injEq,Prod.mk.injEq]at h;obtain⟨rfl,rfl⟩:=h;intro M ν w vs g hvs;refine .inr ⟨_,w,?_,M,ν,g,.refl,.pl _⟩;obtain⟨hl,hr⟩:=hvs
   match vs,hl with
   |[a,b],_ =>
    have h0:=hr 0 (by simp) (by simp)
    have h1:=hr 1 (by simp) (by simp)
    simp only[List.getElem_cons_zero,List.getElem_cons_succ]at h0 h1;cases h0;cases h1;rw[run_callFunc_extern (e:=Extern.BytealgCompare.compare) (P:=Tryz.prog) (f:=179) (fn:=Tryz.f179) (by kernel_rfl) (by kernel_rfl) (by kernel_rfl) (by kernel_rfl) (by kernel_rfl)]
    rfl
 · simp at h
theorem ziN (args:List AV) (σ:St) (r:AV) (σ':St) (h:(match args with
 |[.pl (.string s),.pl (.int .u8 c)]=>some (AV.pl (.int .i64 (firstIdx s c.toNat.toUInt8)),σ)
 |_=>none)=some (r,σ')):Ans Tryz.prog 199 args σ r σ':=by
 split at h
 · rename_i s c;simp only[Option.some.injEq,Prod.mk.injEq]at h;obtain⟨rfl,rfl⟩:=h;intro M ν w vs g hvs;refine .inr ⟨_,w,?_,M,ν,g,.refl,.pl _⟩;obtain⟨hl,hr⟩:=hvs
   match vs,hl with
   |[a,b],_ =>
    have h0:=hr 0 (by simp) (by simp)
    have h1:=hr 1 (by simp) (by simp)
    simp only[List.getElem_cons_zero,List.getElem_cons_succ]at h0 h1;cases h0;cases h1;rw[run_callFunc_extern (e:=Extern.BytealgIndexByte.indexByte) (P:=Tryz.prog) (f:=199) (fn:=Tryz.f199) (by kernel_rfl) (by kernel_rfl) (by kernel_rfl) (by kernel_rfl) (by kernel_rfl)]
    have:=run_indexByte_string (P:=Tryz.prog) s c w;rw[this];rfl
 · simp at h
abbrev B8 (n:Int):AV:=.pl (.int .u8 n)
abbrev pob (s:ByteArray) (at_:Nat) (bad:Bool):Ob:=.box [Sx s,I at_,Bo bad]
def byteAt (s:ByteArray) (a:Nat):Nat:=(s.data.toList.getD a 0).toNat
theorem z07 (s:ByteArray) (a:Nat):(s.data.toList.getD a 0).toNat=byteAt s a:=rfl
theorem z1Y (s:ByteArray) (a:Nat):byteAt s a<256:=(s.data.toList.getD a 0).toNat_lt
theorem z0l (a b:Nat):((a:Int)==(b:Int))=(a==b):=by
 rw[Bool.eq_iff_iff];simp only[beq_iff_eq];omega
theorem set_same {σ:St} {p:Nat} {o:Ob} (h:σ[p]?=some o):σ.set p o=σ:=by
 apply List.ext_getElem?;intro i;rw[List.getElem?_set];split
 · rename_i e;subst e;have:p<σ.length:=(List.getElem?_eq_some_iff.1 h).1;simp only[this,if_true,h]
 · rfl
theorem z0R {n:Nat} (h:n≤4294967296):IntKind.i64.wrap ((n:Int)+1)=((n+1:Nat):Int):=by
 simp only[IntKind.wrap,IntKind.bits,IntKind.signed];simp;omega
def over (s:ByteArray) (a:Nat) (bad:Bool):Bool:=bad||decide (s.size≤a)
def sees (s:ByteArray) (a:Nat) (bad:Bool) (c:Nat):Bool:=!over s a bad&&(byteAt s a==c)
def nextA (s:ByteArray) (a:Nat) (bad:Bool) (c:Nat):Nat:=if sees s a bad c then a+1 else a
def pbyte (s:ByteArray) (a:Nat) (bad:Bool):Nat×Nat×Bool:=if over s a bad then(0,a,true) else(byteAt s a,a+1,bad)
def signs:List Nat:=[124,42,43,63,40,41,91,93,46,92,94,45]
def within:List Nat:=[92,93,91,94,45]
def psign (s:ByteArray) (a:Nat) (bad:Bool):Nat×Nat×Bool :=
 ((pbyte s a bad).1,(pbyte s a bad).2.1,(pbyte s a bad).2.2|| !signs.contains (pbyte s a bad).1)
def z09 (s:ByteArray) (a:Nat) (bad:Bool):Nat×Nat×Bool :=
 if(pbyte s a bad).1==92 then psign s (pbyte s a bad).2.1 (pbyte s a bad).2.2
 else((pbyte s a bad).1,(pbyte s a bad).2.1,(pbyte s a bad).2.2||within.contains (pbyte s a bad).1)
theorem z1p {s:ByteArray} {a:Nat} {bad:Bool} (h:over s a bad=false):a<s.size:=by
 simp[over]at h;omega
theorem z3P (s:ByteArray) (a:Nat) (bad:Bool):(pbyte s a bad).1<256:=by
 unfold pbyte;split
 · show 0<256;decide
 · exact z1Y s a
theorem z6P (s:ByteArray) (a:Nat) (bad:Bool):(z09 s a bad).1<256:=by
 unfold z09;split
 · exact z3P _ _ _
 · exact z3P _ _ _
section
variable (σ:St) (p:Nat) (s:ByteArray) (a:Nat) (bad:Bool)
theorem z4q (h:σ[p]?=some (pob s a bad)):Ans Tryz.prog 181 [.ptr p 0] σ (Bo (over s a bad)) σ:=by
 refine Ans.of_run t181 ?_;cases bad<;>simp -implicitDefEqProofs only[c181,r181,h,go_sem]
 · refine Fini.ret ?_;simp -implicitDefEqProofs only[go_sem,over,Bool.false_or,Int.ofNat_le];rfl
 · exact Fini.ret rfl
theorem z5f (c:Nat) (h:σ[p]?=some (pob s a bad)):Ans Tryz.prog 182 [.ptr p 0,B8 c] σ (Bo (sees s a bad c)) σ:=by
 refine Ans.of_run t182 ?_;simp -implicitDefEqProofs only[c182,r182,h,go_sem];refine CD.intro (z4q σ p s a bad h) ?_;cases hb:over s a bad
 · have hlt:=z1p hb;have h1:(a:Int)<s.size:=by omega
   simp -implicitDefEqProofs only[go_sem,h,h1,z07];refine Fini.ret ?_;simp -implicitDefEqProofs only[go_sem,sees,hb,z0l];rfl
 · simp -implicitDefEqProofs only[go_sem,h];refine Fini.ret ?_;simp -implicitDefEqProofs only[go_sem,sees,hb,Bool.false_and];rfl
theorem z5g (c:Nat) (hs:bad=true∨s.size≤40) (h:σ[p]?=some (pob s a bad)):Ans Tryz.prog 178 [.ptr p 0,B8 c] σ (Bo (sees s a bad c)) (σ.set p (pob s (nextA s a bad c) bad)):=by
 refine Ans.of_run t178 ?_;simp -implicitDefEqProofs only[c178,r178,h,go_sem];refine CO.intro (z5f σ p s a bad c h) ?_;unfold nextA;cases hb:sees s a bad c
 · simp -implicitDefEqProofs only[go_sem];rw[set_same h];exact Fini.ret rfl
 · have hlt:a<s.size:=by
    simp[sees]at hb;exact z1p hb.1
   have hsz:s.size≤40:=by
    rcases hs with rfl|hs
    · simp[sees,over]at hb
    · exact hs
   simp -implicitDefEqProofs only[go_sem,h,z0R (show a≤4294967296 by omega)]
   exact Fini.ret rfl
theorem z7q (hs:bad=true∨s.size≤40) (h:σ[p]?=some (pob s a bad)):Ans Tryz.prog 191 [.ptr p 0] σ (B8 (pbyte s a bad).1) (σ.set p (pob s (pbyte s a bad).2.1 (pbyte s a bad).2.2)):=by
 refine Ans.of_run t191 ?_;simp -implicitDefEqProofs only[c191,r191,h,go_sem];refine CO.intro (z4q σ p s a bad h) ?_;unfold pbyte;cases hb:over s a bad
 · have hlt:=z1p hb
   have hsz:s.size≤40:=by
    rcases hs with rfl|hs
    · simp[over]at hb
    · exact hs
   have h1:(a:Int)<s.size:=by omega
   have h2:IntKind.i64.wrap (((a+1:Nat):Int)-1)=(a:Int):=by
    simp only[IntKind.wrap,IntKind.bits,IntKind.signed];simp;omega
   simp -implicitDefEqProofs only[go_sem,h,z0m h,z0R (show a≤4294967296 by omega),h1,h2,z07]
   exact Fini.ret rfl
 · simp -implicitDefEqProofs only[go_sem,h,z0m h];exact Fini.ret rfl
theorem idx60 (t:ByteArray) (c:Nat):Ans Tryz.prog 199 [Sx t,B8 c] σ (I (firstIdx t c.toUInt8)) σ:=ziN _ _ _ _ rfl
theorem z45 (t:ByteArray) (c:Nat):Ans Tryz.prog 196 [Sx t,B8 c] σ (I (firstIdx t c.toUInt8)) σ:=by
 have u0:Ans Tryz.prog 198 [Sx t,B8 c] σ (I (firstIdx t c.toUInt8)) σ:=by
  refine Ans.of_run t198 ?_;simp -implicitDefEqProofs only[c198,r198,go_sem];refine CO.intro (idx60 σ t c) ?_;simp -implicitDefEqProofs only[go_sem];exact Fini.ret rfl
 refine Ans.of_run t196 ?_;simp -implicitDefEqProofs only[c196,r196,go_sem];refine CO.intro u0 ?_;simp -implicitDefEqProofs only[go_sem];exact Fini.ret rfl
theorem zcY:∀c:Nat,c<256→decide (firstIdx (ByteArray.mk #[124,42,43,63,40,41,91,93,46,92,94,45]) c.toUInt8<0)= !signs.contains c:=by decide +kernel
theorem zbz:∀c:Nat,c<256→decide (0≤firstIdx (ByteArray.mk #[92,93,91,94,45]) c.toUInt8)=within.contains c:=by decide +kernel
def stray:List Nat:=[42,43,63,93]
theorem zcZ:∀c:Nat,c<256→decide (0≤firstIdx (ByteArray.mk #[42,43,63,93]) c.toUInt8)=stray.contains c:=by decide +kernel
theorem zas (hs:bad=true∨s.size≤40) (h:σ[p]?=some (pob s a bad)):Ans Tryz.prog 195 [.ptr p 0] σ (B8 (psign s a bad).1) (σ.set p (pob s (psign s a bad).2.1 (psign s a bad).2.2)):=by
 have hc:=zcY _ (z3P s a bad);unfold psign;refine Ans.of_run t195 ?_;simp -implicitDefEqProofs only[c195,r195,h,go_sem];refine CO.intro (z7q σ p s a bad hs h) ?_;generalize pbyte s a bad=q at hc⊢;obtain⟨c,a',b'⟩:=q;have hg:(σ.set p (pob s a' b'))[p]?=some (pob s a' b'):=z0m h _
 cases b' with
 |true =>
  simp -implicitDefEqProofs only[go_sem,hg,List.set_set];exact Fini.ret rfl
 |false =>
  simp -implicitDefEqProofs only[go_sem,hg];refine CO.intro (z45 _ _ c) ?_;simp -implicitDefEqProofs only[go_sem,hg,List.set_set];refine Fini.ret2 (n:=0) rfl rfl ?_;rw[hc];rfl
theorem z6Q (hs:bad=true∨s.size≤40) (h:σ[p]?=some (pob s a bad)):Ans Tryz.prog 197 [.ptr p 0] σ (B8 (z09 s a bad).1) (σ.set p (pob s (z09 s a bad).2.1 (z09 s a bad).2.2)):=by
 have hc:=zbz _ (z3P s a bad)
 have y0:(pbyte s a bad).2.2=true∨s.size≤40:=by
  unfold pbyte;split
  · exact .inl rfl
  · exact hs
 unfold z09;refine Ans.of_run t197 ?_;simp -implicitDefEqProofs only[c197,r197,h,go_sem];refine CO.intro (z7q σ p s a bad hs h) ?_;generalize pbyte s a bad=q at hc y0⊢;obtain⟨c,a',b'⟩:=q;have hg:(σ.set p (pob s a' b'))[p]?=some (pob s a' b'):=z0m h _;have u0:((c:Int)==92)=(c==92):=z0l c 92
 cases h92:c==92 with
 |true =>
  simp -implicitDefEqProofs only[go_sem,u0,h92];refine CO.intro (zas _ p s a' b' y0 hg) ?_;simp -implicitDefEqProofs only[go_sem,List.set_set];exact Fini.ret rfl
 |false =>
  simp -implicitDefEqProofs only[go_sem,u0,h92]
  cases b' with
  |true =>
   simp -implicitDefEqProofs only[go_sem,hg,List.set_set];exact Fini.ret rfl
  |false =>
   simp -implicitDefEqProofs only[go_sem,hg];refine CO.intro (z45 _ _ c) ?_;simp -implicitDefEqProofs only[go_sem,hg,List.set_set];refine Fini.ret2 (n:=0) rfl rfl ?_;rw[hc];rfl
end
def orU (v w:Int):Int:=IntKind.u64.wrap (BitVec.ofInt IntKind.u64.bits v ||| BitVec.ofInt IntKind.u64.bits w).toNat
def bitU (r:Nat):Int:=IntKind.u64.wrap (1*2^(min r IntKind.u64.bits))
def notU (v:Int):Int:=IntKind.u64.wrap (BitVec.ofInt IntKind.u64.bits (if IntKind.u64.signed then -1 else IntKind.u64.max) ^^^ BitVec.ofInt IntKind.u64.bits v).toNat
def z2M (S:List Int) (c:Nat):List Int:=S.set (c/64) (orU (S.getD (c/64) 0) (bitU (c%64)))
def addR (S:List Int) (f:Nat):Nat→List Int
 |0=>S
 |n+1=>z2M (addR S f n) (f+n)
theorem zbA (S:List Int) (c:Nat):(z2M S c).length=S.length:=by simp[z2M]
theorem z2N (S:List Int) (f n:Nat):(addR S f n).length=S.length:=by
 induction n with
 |zero=>rfl
 |succ n ih=>rw[addR,zbA,ih]
theorem gA {σ:St} {p:Nat} (hp:p<σ.length) (o:Ob) (ex:St):(σ.set p o++ex)[p]?=some o:=by
 rw[List.getElem?_append_left (by simpa using hp)];simp[hp]
theorem sA {σ:St} {p:Nat} (hp:p<σ.length) (o o':Ob) (ex:St):(σ.set p o++ex).set p o'=σ.set p o'++ex:=by
 rw[List.set_append_left _ _ (by simpa using hp),List.set_set]
theorem gL0 (σ:St) (p:Nat) (o x:Ob) (ex:St):(σ.set p o++x::ex)[σ.length]?=some x:=by
 rw[List.getElem?_append_right (by simp)];simp
theorem sL0 (σ:St) (p:Nat) (o x y:Ob) (ex:St):(σ.set p o++x::ex).set σ.length y=σ.set p o++y::ex:=by
 rw[List.set_append_right _ _ (by simp)];simp
theorem gL1 (σ:St) (p:Nat) (o x y:Ob) (ex:St):(σ.set p o++x::y::ex)[σ.length+1]?=some y:=by
 rw[List.getElem?_append_right (by simp)];simp
theorem sL1 (σ:St) (p:Nat) (o x y z:Ob) (ex:St):(σ.set p o++x::y::ex).set (σ.length+1) z=σ.set p o++x::z::ex:=by
 rw[List.set_append_right _ _ (by simp)];simp
theorem Fini.normal2 {n m:Nat} {rvs:List RV} {r r':AV} {σ σ':St} {env:Env} (h:resA env σ rvs=some r') (e:r'=r) (e':σ=σ'):Fini m rvs r σ' .normal env σ:=by
 subst e;subst e';exact Fini.normal h
section
variable (σ:St)
theorem z46 (l off:Nat) (cs:List AV) (c:Nat) (v:Int) (h:σ[l]?=some (.box cs)) (hv:cs[off+c/64]?=some (U v)) (hc:c<256) :
  Ans Tryz.prog 194 [.ptr l off,B8 c] σ (.tup []) (σ.set l (.box (cs.set (off+c/64) (U (orU v (bitU (c%64))))))):=by
 have hk:off+c/64<cs.length:=(List.getElem?_eq_some_iff.1 hv).1
 have e1:IntKind.u8.wrap ((c:Int).tdiv 64)=((c/64:Nat):Int):=by
  rw[show(c:Int).tdiv 64=((c/64:Nat):Int) from rfl]
  simp only[IntKind.wrap,IntKind.bits,IntKind.signed];simp;omega
 have e2:(c:Int).tmod 64=((c%64:Nat):Int):=rfl;have e3:((64:Int)=0)=False:=by simp
 have e4:(((c/64:Nat):Int)<(4:Nat))=True:=by simp;omega
 have e5:cs.drop (off+c/64)=U v::cs.drop (off+c/64+1):=by
  rw[List.drop_eq_getElem_cons hk];have:=(List.getElem?_eq_some_iff.1 hv).2;rw[this]
 have e6:(off+c/64+1≤cs.length)=True:=by simp;omega
 have e7:(1≤(cs.drop (off+c/64+1)).length+1)=True:=by simp
 refine Ans.of_run t194 ?_;simp -implicitDefEqProofs only[c194,r194,go_sem,e1,e2,e3,e4,Nat.mul_one,h,e5,e6,e7,List.drop_succ_cons]
 have u0:cs.set (off+c/64) (U (orU v (bitU (c%64))))=cs.take (off+c/64)++[U (orU v (bitU (c%64)))]++cs.drop (off+c/64+1):=by
  rw[List.set_eq_take_append_cons_drop,if_pos hk];simp
 rw[u0];exact Fini.normal2 (n:=0) rfl rfl rfl
def turnS (S:List Int):List Int:=S.map notU
theorem turned_ans (a b c d:Int):Ans Tryz.prog 193 [.agg [U a,U b,U c,U d]] σ (.agg [U (notU a),U (notU b),U (notU c),U (notU d)]) σ:=by
 have k0:∀(x y:Ob),(σ++[x,y])[σ.length]?=some x:=fun x y=>by rw[List.getElem?_append_right (by simp)];simp
 have k1:∀(x y:Ob),(σ++[x,y])[σ.length+1]?=some y:=fun x y=>by rw[List.getElem?_append_right (by simp)];simp
 have s0:∀(x y z:Ob),(σ++[x,y]).set σ.length z=σ++[z,y]:=fun x y z=>by rw[List.set_append_right _ _ (by simp)];simp
 have s1:∀(x y z:Ob),(σ++[x,y]).set (σ.length+1) z=σ++[x,z]:=fun x y z=>by rw[List.set_append_right _ _ (by simp)];simp
 have q1:IntKind.i64.wrap (0+1)=1:=by decide
 have q2:IntKind.i64.wrap (1+1)=2:=by decide
 have q3:IntKind.i64.wrap (2+1)=3:=by decide
 have q4:IntKind.i64.wrap (3+1)=4:=by decide
 have q5:IntKind.i64.wrap 1=1:=by decide
 have q6:IntKind.i64.wrap 2=2:=by decide
 have q7:IntKind.i64.wrap 3=3:=by decide
 have q8:IntKind.i64.wrap 4=4:=by decide
 have n1:Int.toNat 1=1:=rfl;have n2:Int.toNat 2=2:=rfl;have n3:Int.toNat 3=3:=rfl;have c4:((4:Nat):Int)=4:=rfl;refine Ans.of_run' t193 (fun u0 _=>?_)
 simp -implicitDefEqProofs only[c193,r193,go_sem,List.append_assoc,List.length_append]
 refine L.count 4 (fun i=>mkE 15 [(1,.ptr σ.length 0),(2,.ptr (σ.length+1) 0),(4,I i)])
  (fun i=>σ++[.box (match i with|0=>[U a,U b,U c,U d]|1=>[U (notU a),U b,U c,U d]|2=>[U (notU a),U (notU b),U c,U d]|3=>[U (notU a),U (notU b),U (notU c),U d]|_=>[U (notU a),U (notU b),U (notU c),U (notU d)]),.box [U 0,U 0,U 0,U 0]]) ?_ ?_ rfl rfl
 · intro i hi Q hQ
   match i,hi,hQ with
   |0,_,hQ =>
    simp -implicitDefEqProofs only[mkE,go_sem,k0,k1,s0,s1,q1,q2,q3,q4,q5,q6,q7,q8,n1,n2,n3,c4,Int.toNat_zero,Int.cast_ofNat_Int,Int.natCast_one,Int.natCast_zero];exact hQ
   |1,_,hQ =>
    simp -implicitDefEqProofs only[mkE,go_sem,k0,k1,s0,s1,q1,q2,q3,q4,q5,q6,q7,q8,n1,n2,n3,c4,Int.toNat_zero,Int.cast_ofNat_Int,Int.natCast_one,Int.natCast_zero];exact hQ
   |2,_,hQ =>
    simp -implicitDefEqProofs only[mkE,go_sem,k0,k1,s0,s1,q1,q2,q3,q4,q5,q6,q7,q8,n1,n2,n3,c4,Int.toNat_zero,Int.cast_ofNat_Int,Int.natCast_one,Int.natCast_zero];exact hQ
   |3,_,hQ =>
    simp -implicitDefEqProofs only[mkE,go_sem,k0,k1,s0,s1,q1,q2,q3,q4,q5,q6,q7,q8,n1,n2,n3,c4,Int.toNat_zero,Int.cast_ofNat_Int,Int.natCast_one,Int.natCast_zero];exact hQ
 · intro Q;simp -implicitDefEqProofs only[mkE,go_sem,k0,k1,s0,s1,c4,Int.cast_ofNat_Int];refine Fini.trim2 (σ':=σ) (ex:=[.box [U (notU a),U (notU b),U (notU c),U (notU d)],.box [U (notU a),U (notU b),U (notU c),U (notU d)]]) ?_ rfl (Nat.le_refl _) ?_ u0
   · simp -implicitDefEqProofs only[go_sem,resA,z03,rvA,oneOf,k1]
   · refine .agg _ fun i hi=>?_
     have:∀y∈[U (notU a),U (notU b),U (notU c),U (notU d)],Bel σ.length y:=by
      intro y hy;simp only[List.mem_cons,List.not_mem_nil,or_false]at hy;rcases hy with rfl|rfl|rfl|rfl<;>exact .pl _
     exact this _ (List.getElem_mem hi)
end
def fuel:Nat:=2^64+1
def tstU (v:Int) (r:Nat):Bool:=IntKind.u64.wrap (BitVec.ofInt IntKind.u64.bits (v.fdiv (2^(min ((r:Int)).toNat IntKind.u64.bits))) &&& BitVec.ofInt IntKind.u64.bits 1).toNat==1
def setU (s:Stp) (k:Nat):Int:=[s.a,s.b,s.c,s.d].getD k 0
def z5R (s:Stp) (c:Nat):Bool:=s.op==1&&tstU (setU s (c/64)) (c%64)
def stpAt (ys:List Stp) (i:Nat):Stp:=ys.getD i ⟨0,0,0,0,0,0,0⟩
def cGo (s:ByteArray) (a:Nat) (b first:Bool):Bool:=first||(!over s a b&& !sees s a b 93)
def cTo (s:ByteArray) (a:Nat) (b:Bool):Nat×Nat×Bool :=
 if sees s (z09 s a b).2.1 (z09 s a b).2.2 45 then z09 s ((z09 s a b).2.1+1) (z09 s a b).2.2 else z09 s a b
def cBad (s:ByteArray) (a:Nat) (b:Bool):Bool:=(cTo s a b).2.2||decide ((cTo s a b).1<(z09 s a b).1)
def z1f (s:ByteArray):Nat→List Int→Nat→Bool→Bool→List Int×Nat×Bool
 |0,S,a,b,_=>(S,a,b)
 |n+1,S,a,b,first=>if cGo s a b first then
   z1f s n (addR S (z09 s a b).1 ((cTo s a b).1+1-(z09 s a b).1)) (cTo s a b).2.1 (cBad s a b) false
  else(S,a,b)
def cMeas (s:ByteArray) (a:Nat) (b first:Bool):Nat:=(s.size-a)+(if b then 0 else 1)+(if first then 1 else 0)
theorem z5h (s:ByteArray) (a:Nat) (b:Bool):a≤(pbyte s a b).2.1:=by
 unfold pbyte;split
 · exact Nat.le_refl _
 · exact Nat.le_succ _
theorem z4r (s:ByteArray) (a:Nat):(pbyte s a true)=(0,a,true):=by simp[pbyte,over]
theorem zbB (s:ByteArray) (a:Nat) (b:Bool) (h:b=false):(s.size-(pbyte s a b).2.1)+(if(pbyte s a b).2.2 then 0 else 1)+1≤(s.size-a)+1:=by
 subst h;unfold pbyte;split
 · simp
 · rename_i h;have:a<s.size:=z1p (by simpa using h)
   simp;omega
theorem z4s (s:ByteArray) (a:Nat) (b:Bool):a≤(psign s a b).2.1:=z5h s a b
theorem z6R (s:ByteArray) (a:Nat) (b:Bool):a≤(z09 s a b).2.1:=by
 unfold z09;split
 · exact Nat.le_trans (z5h s a b) (z4s _ _ _)
 · exact z5h s a b
theorem z6S (s:ByteArray) (a:Nat):(psign s a true).2.2=true:=by simp[psign,z4r]
theorem z3G (s:ByteArray) (a:Nat):z09 s a true=(0,a,true):=by simp[z09,z4r]
theorem z8r (s:ByteArray) (a:Nat) (b:Bool) (h:b=false):(s.size-(z09 s a b).2.1)+(if(z09 s a b).2.2 then 0 else 1)+1≤(s.size-a)+1:=by
 have h1:=zbB s a b h;unfold z09;split
 · have h2:=z4s s (pbyte s a b).2.1 (pbyte s a b).2.2
   cases hb:(pbyte s a b).2.2 with
   |true =>
    rw[hb]at h1 h2;rw[z6S];simp at h1⊢;omega
   |false =>
    rw[hb]at h1 h2;simp at h1;split<;>omega
 · cases hb:(pbyte s a b).2.2 with
   |true=>rw[hb]at h1;simp at h1⊢;omega
   |false =>
    rw[hb]at h1;simp only[Bool.false_or,Bool.false_eq_true,if_false]at h1⊢;split<;>omega
theorem zgB (s:ByteArray) (a:Nat) (b:Bool):(z09 s a b).2.1≤(cTo s a b).2.1:=by
 unfold cTo;split
 · exact Nat.le_trans (Nat.le_succ _) (z6R _ _ _)
 · exact Nat.le_refl _
theorem zat (s:ByteArray) (a:Nat) (b:Bool) (h:(z09 s a b).2.2=true):(cTo s a b).2.2=true:=by
 unfold cTo;split
 · rw[h,z3G]
 · exact h
theorem zau (s:ByteArray) (a:Nat):cTo s a true=(0,a,true):=by
 unfold cTo;rw[z3G];simp[sees,over]
theorem z5S (s:ByteArray) (a:Nat):cBad s a true=true:=by simp[cBad,zau]
theorem ziO (s:ByteArray) (a:Nat) (b:Bool):(cTo s a b).1<256:=by
 unfold cTo;split<;>exact z6P _ _ _
theorem zf8 (s:ByteArray) (a:Nat) (b first:Bool) (h:cGo s a b first=true):cMeas s (cTo s a b).2.1 (cBad s a b) false<cMeas s a b first:=by
 unfold cMeas
 cases b with
 |true =>
  rw[z5S,zau]
  cases first with
  |true=>simp
  |false=>simp[cGo,over]at h
 |false =>
  have h1:=z8r s a false rfl;have h2:=zgB s a false
  have h3:(if cBad s a false then 0 else 1)≤(if(z09 s a false).2.2 then 0 else 1):=by
   cases hm:(z09 s a false).2.2 with
   |true=>simp[cBad,zat s a false hm]
   |false=>split<;>simp
  have h0:(if(false:Bool)=true then 0 else 1)=1:=rfl
  have y0:(if(false:Bool)=true then 1 else 0)=0:=rfl
  cases first with
  |true =>
   have h5:(if(true:Bool)=true then 1 else 0)=1:=rfl
   rw[h0,y0,h5];omega
  |false =>
   have u0:over s a false=false:=by simp[cGo]at h;exact h.1
   have hlt:=z1p u0
   have hp:a+1≤(z09 s a false).2.1:=by
    have:(pbyte s a false).2.1=a+1:=by simp[pbyte,u0]
    unfold z09;split
    · exact Nat.le_trans (by omega) (z4s _ _ _)
    · show a+1≤(pbyte s a false).2.1;omega
   have h4:(if cBad s a false then 0 else 1)≤1:=by split<;>omega
   rw[h0,y0];omega
def z2i (s:ByteArray) (a:Nat) (b:Bool):List Int×Nat×Bool :=
 let l:=z1f s (s.size+3) [0,0,0,0] (nextA s a b 94) b true
 ((if sees s a b 94 then turnS l.1 else l.1),nextA s l.2.1 l.2.2 93,!sees s l.2.1 l.2.2 93||l.2.2)
theorem z4P (s:ByteArray):∀(n:Nat) (S:List Int) (a:Nat) (b first:Bool),(z1f s n S a b first).1.length=S.length
 |0,S,a,b,first=>rfl
 |n+1,S,a,b,first=>by
  rw[z1f];split
  · rw[z4P s n,z2N]
  · rfl
theorem zbC {s:ByteArray} {a:Nat} {b:Bool} (h:b=true∨s.size≤40):(z09 s a b).2.2=true∨s.size≤40:=by
 rcases h with rfl|h
 · exact .inl (by rw[z3G])
 · exact .inr h
theorem zd0 {s:ByteArray} {a:Nat} {b:Bool} (h:b=true∨s.size≤40):cBad s a b=true∨s.size≤40:=by
 rcases h with rfl|h
 · exact .inl (z5S s a)
 · exact .inr h
theorem z8s (s:ByteArray):∀(n:Nat) (S:List Int) (a:Nat) (b first:Bool),(b=true∨s.size≤40)→((z1f s n S a b first).2.2=true∨s.size≤40)
 |0,S,a,b,first,h=>h
 |n+1,S,a,b,first,h=>by
  rw[z1f];split
  · exact z8s s n _ _ _ _ (zd0 h)
  · exact h
theorem zht (n:Nat) (s:ByteArray) (a:Nat) (b:Bool):BelO n (pob s a b):=by
 intro x hx;simp only[List.mem_cons,List.not_mem_nil,or_false]at hx;rcases hx with rfl|rfl|rfl<;>exact .pl _
theorem z4t (n:Nat) (S:List Int):Bel n (.agg (S.map U)):=by
 refine .agg _ fun i hi=>?_
 have:∀y∈S.map U,Bel n y:=by
  intro y hy;simp only[List.mem_map]at hy;obtain⟨v,_,rfl⟩:=hy;exact .pl _
 exact this _ (List.getElem_mem hi)
theorem z4X {σ:St} {p:Nat} {s:ByteArray} {a:Nat} {b:Bool} (h:∀o∈σ.set p (pob s a b),BelO (σ.set p (pob s a b)).length o) (a':Nat) (b':Bool) :
  ∀o∈σ.set p (pob s a' b'),BelO (σ.set p (pob s a' b')).length o:=by
 have e:σ.set p (pob s a' b')=(σ.set p (pob s a b)).set p (pob s a' b'):=by rw[List.set_set]
 have el:(σ.set p (pob s a' b')).length=(σ.set p (pob s a b)).length:=by simp
 rw[el,e];exact z1Z h (zht _ _ _ _)
theorem z9A (s:ByteArray) (a:Nat) (b:Bool):cMeas s a b true<s.size+3:=by
 unfold cMeas;have h0:(if b=true then 0 else 1)≤1:=by split<;>omega
 have h1:(if(true:Bool)=true then 1 else 0)=1:=rfl
 rw[h1];omega
theorem z38 (S:List Int) (c:Nat):(S.map U).set (0+c/64) (U (orU (S.getD (c/64) 0) (bitU (c%64))))=(z2M S c).map U:=by
 rw[Nat.zero_add,z2M,List.map_set]
theorem z5T {S:List Int} (h:S.length=4) {c:Nat} (hc:c<256):(S.map U)[0+c/64]?=some (U (S.getD (c/64) 0)):=by
 have hk:c/64<S.length:=by omega
 rw[Nat.zero_add,List.getElem?_map,List.getElem?_eq_getElem hk];simp[List.getD,hk]
theorem wrap8 {n:Nat} (h:n<256):IntKind.u8.wrap (n:Int)=n:=by
 simp only[IntKind.wrap,IntKind.bits,IntKind.signed];simp;omega
theorem wrap64 {n:Nat} (h:n<100000):IntKind.i64.wrap (n:Int)=n:=by
 simp only[IntKind.wrap,IntKind.bits,IntKind.signed];simp;omega
theorem four {S:List Int} (h:S.length=4):∃a b c d,S=[a,b,c,d]:=by
 match S,h with
 |[a,b,c,d],_=>exact⟨a,b,c,d,rfl⟩
theorem zd1 (σ:St) (p:Nat) (s:ByteArray) (a:Nat) (b:Bool) (hp:p<σ.length) (hs:b=true∨s.size≤40) :
  Ans Tryz.prog 192 [.ptr p 0] (σ.set p (pob s a b)) (.agg ((z2i s a b).1.map U)) (σ.set p (pob s (z2i s a b).2.1 (z2i s a b).2.2)):=by
 refine Ans.of_run' t192 (fun j0 _=>?_)
 have hlen:(σ.set p (pob s a b)).length=σ.length:=by simp
 simp -implicitDefEqProofs only[c192,r192,go_sem,List.append_assoc,List.length_append,List.length_set];refine CO.intro (z5g _ p s a b 94 hs (gA hp _ _)) ?_;simp -implicitDefEqProofs only[go_sem,sA hp];unfold z2i;have y1:cMeas s (nextA s a b 94) b true<s.size+3:=z9A _ _ _;have o0:(z1f s (s.size+3) [0,0,0,0] (nextA s a b 94) b true).1.length=4:=z4P _ _ _ _ _ _;have m1:=z8s s (s.size+3) [0,0,0,0] (nextA s a b 94) b true hs;generalize f0:z1f s (s.size+3) [0,0,0,0] (nextA s a b 94) b true=res at o0 m1⊢;generalize sees s a b 94=none
 refine L.intro (α:={ x:Nat×List Int×Nat×Bool×Bool // z1f s x.1 x.2.1 x.2.2.1 x.2.2.2.1 x.2.2.2.2=res∧cMeas s x.2.2.1 x.2.2.2.1 x.2.2.2.2<x.1∧x.2.1.length=4∧(x.2.2.2.1=true∨s.size≤40) })
  (fun x=>x.1.1)
  (fun x=>mkE 68 [(0,.ptr p 0),(2,.ptr σ.length 0),(3,.ptr (σ.length+1) 0),(4,Bo none),(5,Bo x.1.2.2.2.2)])
  (fun x=>σ.set p (pob s x.1.2.2.1 x.1.2.2.2.1)++[.box [U 0,U 0,U 0,U 0],.box (x.1.2.1.map U)])
  (fun x J hJ=>?_) ⟨(s.size+3,[0,0,0,0],nextA s a b 94,b,true),f0,y1,rfl,hs⟩ ?_ ?_
 · obtain⟨⟨n,S,a1,b1,first⟩,h1,h2,h3,h4⟩:=x;simp only at h1 h2 h3 h4 hJ⊢
   cases n with
   |zero=>omega
   |succ n =>
   rw[z1f]at h1
   cases hgo:cGo s a1 b1 first with
   |false =>
    rw[hgo]at h1;simp only[Bool.false_eq_true,if_false]at h1;subst h1;have hf:first=false:=by cases first<;>simp[cGo]at hgo⊢
    subst hf;have l0:∀ex,Ans Tryz.prog 181 [.ptr p 0] (σ.set p (pob s a1 b1)++ex) (Bo (over s a1 b1)) (σ.set p (pob s a1 b1)++ex):=fun ex=>z4q _ p s a1 b1 (gA hp _ _)
    have q1:∀ex,Ans Tryz.prog 182 [.ptr p 0,B8 (93:Nat)] (σ.set p (pob s a1 b1)++ex) (Bo (sees s a1 b1 93)) (σ.set p (pob s a1 b1)++ex):=fun ex=>z5f _ p s a1 b1 93 (gA hp _ _)
    have u1:∀J:Prop,J→J:=fun _ h=>h
    obtain⟨x0,x1,x2,x3,rfl⟩:=four h3
    have r0:∀(c:Nat),Ans Tryz.prog 178 [.ptr p 0,B8 c] (σ.set p (pob s a1 b1)++[.box [U 0,U 0,U 0,U 0],.box [U x0,U x1,U x2,U x3]]) (Bo (sees s a1 b1 c)) (σ.set p (pob s (nextA s a1 b1 c) b1)++[.box [U 0,U 0,U 0,U 0],.box [U x0,U x1,U x2,U x3]]):=fun c=>by
     have:=z5g (σ.set p (pob s a1 b1)++[.box [U 0,U 0,U 0,U 0],.box [U x0,U x1,U x2,U x3]]) p s a1 b1 c h4 (gA hp _ _)
     rwa [sA hp]at this
    cases ho:over s a1 b1 with
    |true =>
     have y0:sees s a1 b1 93=false:=by simp[sees,ho]
     simp -implicitDefEqProofs only[mkE,go_sem];refine CO.intro (l0 _) ?_;simp -implicitDefEqProofs only[go_sem,ho];refine CO.intro (r0 93) ?_;cases none
     · simp -implicitDefEqProofs only[go_sem,y0,sA hp,gA hp,gL0,sL0,gL1,sL1,nextA];refine Fini.trim2 (σ':=σ.set p (pob s a1 true)) (ex:=[.box [U x0,U x1,U x2,U x3],.box [U x0,U x1,U x2,U x3]]) ?_ rfl ?_ (z4t _ [x0,x1,x2,x3]) ?_
       · simp -implicitDefEqProofs only[go_sem,resA,z03,rvA,oneOf,gL0]
       · simp
       · exact z4X j0 _ _
     · simp -implicitDefEqProofs only[go_sem,y0,sA hp,gA hp,gL0,sL0,gL1,sL1,nextA];refine CO.intro (turned_ans _ x0 x1 x2 x3) ?_;simp -implicitDefEqProofs only[go_sem,sA hp,gA hp,gL0,sL0,gL1,sL1,turnS];refine Fini.trim2 (σ':=σ.set p (pob s a1 true)) (ex:=[.box [U (notU x0),U (notU x1),U (notU x2),U (notU x3)],.box [U x0,U x1,U x2,U x3]]) ?_ rfl ?_ (z4t _ [notU x0,notU x1,notU x2,notU x3]) ?_
       · simp -implicitDefEqProofs only[go_sem,resA,z03,rvA,oneOf,gL0]
       · simp
       · exact z4X j0 _ _
    |false =>
     have y0:sees s a1 b1 93=true:=by simpa[cGo,ho] using hgo
     simp -implicitDefEqProofs only[mkE,go_sem];refine CO.intro (l0 _) ?_;simp -implicitDefEqProofs only[go_sem,ho];refine CO.intro (q1 _) ?_;simp -implicitDefEqProofs only[go_sem,y0];refine CO.intro (r0 93) ?_;cases none
     · simp -implicitDefEqProofs only[go_sem,y0,sA hp,gA hp,gL0,sL0,gL1,sL1,nextA];refine Fini.trim2 (σ':=σ.set p (pob s (a1+1) b1)) (ex:=[.box [U x0,U x1,U x2,U x3],.box [U x0,U x1,U x2,U x3]]) ?_ rfl ?_ (z4t _ [x0,x1,x2,x3]) ?_
       · simp -implicitDefEqProofs only[go_sem,resA,z03,rvA,oneOf,gL0]
       · simp
       · exact z4X j0 _ _
     · simp -implicitDefEqProofs only[go_sem,y0,sA hp,gA hp,gL0,sL0,gL1,sL1,nextA];refine CO.intro (turned_ans _ x0 x1 x2 x3) ?_;simp -implicitDefEqProofs only[go_sem,sA hp,gA hp,gL0,sL0,gL1,sL1,turnS];refine Fini.trim2 (σ':=σ.set p (pob s (a1+1) b1)) (ex:=[.box [U (notU x0),U (notU x1),U (notU x2),U (notU x3)],.box [U x0,U x1,U x2,U x3]]) ?_ rfl ?_ (z4t _ [notU x0,notU x1,notU x2,notU x3]) ?_
       · simp -implicitDefEqProofs only[go_sem,resA,z03,rvA,oneOf,gL0]
       · simp
       · exact z4X j0 _ _
   |true =>
    rw[hgo,if_pos rfl]at h1;have h5:=zf8 s a1 b1 first hgo;have d0:cMeas s (cTo s a1 b1).2.1 (cBad s a1 b1) false<n:=by omega
    have h0:(addR S (z09 s a1 b1).1 ((cTo s a1 b1).1+1-(z09 s a1 b1).1)).length=4:=by rw[z2N];exact h3
    have u0:=hJ ⟨(n,addR S (z09 s a1 b1).1 ((cTo s a1 b1).1+1-(z09 s a1 b1).1),(cTo s a1 b1).2.1,cBad s a1 b1,false),h1,d0,h0,zd0 h4⟩ (Nat.lt_succ_self n);simp only at u0;have j1:=z6P s a1 b1;have m0:=ziO s a1 b1;have e0:=zbC (a:=a1) h4;clear hJ h1 h2 h5
    have n0:∀ex,Ans Tryz.prog 197 [.ptr p 0] (σ.set p (pob s a1 b1)++ex) (B8 (z09 s a1 b1).1) (σ.set p (pob s (z09 s a1 b1).2.1 (z09 s a1 b1).2.2)++ex):=fun ex=>by
     have:=z6Q (σ.set p (pob s a1 b1)++ex) p s a1 b1 h4 (gA hp _ _)
     rwa [sA hp]at this
    have t0:∀(a:Nat) (b:Bool) (c:Nat) ex,(b=true∨s.size≤40)→Ans Tryz.prog 178 [.ptr p 0,B8 c] (σ.set p (pob s a b)++ex) (Bo (sees s a b c)) (σ.set p (pob s (nextA s a b c) b)++ex):=fun a b c ex h=>by
     have:=z5g (σ.set p (pob s a b)++ex) p s a b c h (gA hp _ _)
     rwa [sA hp]at this
    have k1:∀(f t aT:Nat) (bT:Bool) (Q:Env→St→Prop),True:=fun _ _ _ _ _=>trivial
    cases first
    all_goals first
    |(simp -implicitDefEqProofs only[mkE,go_sem]
      refine CO.intro (n0 _) ?_
      simp -implicitDefEqProofs only[go_sem])
    |(have ho:over s a1 b1=false:=by simp[cGo]at hgo;exact hgo.1
      have y0:sees s a1 b1 93=false:=by simp[cGo]at hgo;exact hgo.2
      simp -implicitDefEqProofs only[mkE,go_sem];refine CO.intro (z4q _ p s a1 b1 (gA hp _ _)) ?_;simp -implicitDefEqProofs only[go_sem,ho];refine CO.intro (z5f _ p s a1 b1 93 (gA hp _ _)) ?_;simp -implicitDefEqProofs only[go_sem,y0];refine CO.intro (n0 _) ?_
      simp -implicitDefEqProofs only[go_sem])
    all_goals (
     clear hgo n0;refine CO.intro (t0 _ _ 45 _ e0) ?_;have q0:cTo s a1 b1=if sees s (z09 s a1 b1).2.1 (z09 s a1 b1).2.2 45 then z09 s ((z09 s a1 b1).2.1+1) (z09 s a1 b1).2.2 else z09 s a1 b1:=rfl
     have n1:cBad s a1 b1=((cTo s a1 b1).2.2||decide ((cTo s a1 b1).1<(z09 s a1 b1).1)):=rfl;have r0:nextA s (z09 s a1 b1).2.1 (z09 s a1 b1).2.2 45=if sees s (z09 s a1 b1).2.1 (z09 s a1 b1).2.2 45 then(z09 s a1 b1).2.1+1 else(z09 s a1 b1).2.1:=rfl
     rw[r0];rw[n1]at u0;generalize z09 s a1 b1=m at *;obtain⟨f,am,bm⟩:=m;simp only at j1 e0 q0 u0⊢
     have k0:∀ex,Ans Tryz.prog 197 [.ptr p 0] (σ.set p (pob s (am+1) bm)++ex) (B8 (z09 s (am+1) bm).1) (σ.set p (pob s (z09 s (am+1) bm).2.1 (z09 s (am+1) bm).2.2)++ex):=fun ex=>by
      have:=z6Q (σ.set p (pob s (am+1) bm)++ex) p s (am+1) bm e0 (gA hp _ _)
      rwa [sA hp]at this
     cases hsee:sees s am bm 45)
    all_goals (
     first
     |(rw[hsee,if_pos rfl]at q0
       simp -implicitDefEqProofs only[go_sem];refine CO.intro (k0 _) ?_;rw[←q0]
       simp -implicitDefEqProofs only[go_sem])
     |(rw[hsee,if_neg Bool.false_ne_true]at q0
       simp -implicitDefEqProofs only[go_sem]))
    all_goals (
     clear k0 r0
     first|rw[←q0]|rw[show((f,am,bm):Nat×Nat×Bool)=cTo s a1 b1 from q0.symm]|skip)
    · rw[q0]at m0 u0;clear q0;simp only at m0 u0;have d1:decide ((f:Int)<(f:Int))=decide (f<f):=by rw[Bool.eq_iff_iff];simp
      have d2:IntKind.i64.wrap (f:Int)=(f:Int):=wrap64 (by omega)
      have d3:IntKind.i64.wrap (f:Int)=(f:Int):=wrap64 (by omega)
      cases bm
      all_goals (
       simp -implicitDefEqProofs only[go_sem,gA hp,sA hp,d1,d2,Bool.true_or,Bool.false_or]at u0⊢
       refine L.count (f+1-f) (fun i=>mkE 68 [(0,.ptr p 0),(2,.ptr σ.length 0),(3,.ptr (σ.length+1) 0),(4,Bo none),(7,B8 f),(8,I ((f+i:Nat):Int))])
        (fun i=>σ.set p (pob s am _)++[.box [U 0,U 0,U 0,U 0],.box ((addR S f i).map U)]) ?_ ?_ rfl rfl
       · intro i hi Q hQ;have c1:(((f+i:Nat):Int)≤(f:Int))=True:=by simp;omega
         have c2:IntKind.u8.wrap ((f+i:Nat):Int)=((f+i:Nat):Int):=wrap8 (by omega)
         have c3:IntKind.i64.wrap (((f+i:Nat):Int)+1)=((f+(i+1):Nat):Int):=by rw[wrapN (by omega) (by omega)];omega
         simp -implicitDefEqProofs only[mkE,go_sem,d3,c1,c2,c3];refine CO.intro (z46 _ (σ.length+1) 0 ((addR S f i).map U) (f+i) _ (gL1 _ _ _ _ _ _) (z5T (by rw[z2N];exact h3) (by omega)) (by omega)) ?_
         rw[sL1,z38];simp -implicitDefEqProofs only[go_sem,c3];exact hQ
       · intro Q;have c1:(((f+(f+1-f):Nat):Int)≤(f:Int))=False:=by simp;omega
         simp -implicitDefEqProofs only[mkE,go_sem,d3,c1]
         exact u0)
    · clear q0;generalize cTo s a1 b1=q at m0 u0 d0 h0⊢;obtain⟨t,aT,bT⟩:=q;simp only at m0 u0⊢;have d1:decide ((t:Int)<(f:Int))=decide (t<f):=by rw[Bool.eq_iff_iff];simp
      have d2:IntKind.i64.wrap (f:Int)=(f:Int):=wrap64 (by omega)
      have d3:IntKind.i64.wrap (t:Int)=(t:Int):=wrap64 (by omega)
      cases bT
      all_goals (
       simp -implicitDefEqProofs only[go_sem,gA hp,sA hp,d1,d2,Bool.true_or,Bool.false_or]at u0⊢
       refine L.count (t+1-f) (fun i=>mkE 68 [(0,.ptr p 0),(2,.ptr σ.length 0),(3,.ptr (σ.length+1) 0),(4,Bo none),(7,B8 t),(8,I ((f+i:Nat):Int))])
        (fun i=>σ.set p (pob s aT _)++[.box [U 0,U 0,U 0,U 0],.box ((addR S f i).map U)]) ?_ ?_ rfl rfl
       · intro i hi Q hQ;have c1:(((f+i:Nat):Int)≤(t:Int))=True:=by simp;omega
         have c2:IntKind.u8.wrap ((f+i:Nat):Int)=((f+i:Nat):Int):=wrap8 (by omega)
         have c3:IntKind.i64.wrap (((f+i:Nat):Int)+1)=((f+(i+1):Nat):Int):=by rw[wrapN (by omega) (by omega)];omega
         simp -implicitDefEqProofs only[mkE,go_sem,d3,c1,c2,c3];refine CO.intro (z46 _ (σ.length+1) 0 ((addR S f i).map U) (f+i) _ (gL1 _ _ _ _ _ _) (z5T (by rw[z2N];exact h3) (by omega)) (by omega)) ?_
         rw[sL1,z38];simp -implicitDefEqProofs only[go_sem,c3];exact hQ
       · intro Q;have c1:(((f+(t+1-f):Nat):Int)≤(t:Int))=False:=by simp;omega
         simp -implicitDefEqProofs only[mkE,go_sem,d3,c1]
         exact u0)
    · rw[q0]at m0 u0;clear q0;simp only at m0 u0;have d1:decide ((f:Int)<(f:Int))=decide (f<f):=by rw[Bool.eq_iff_iff];simp
      have d2:IntKind.i64.wrap (f:Int)=(f:Int):=wrap64 (by omega)
      have d3:IntKind.i64.wrap (f:Int)=(f:Int):=wrap64 (by omega)
      cases bm
      all_goals (
       simp -implicitDefEqProofs only[go_sem,gA hp,sA hp,d1,d2,Bool.true_or,Bool.false_or]at u0⊢
       refine L.count (f+1-f) (fun i=>mkE 68 [(0,.ptr p 0),(2,.ptr σ.length 0),(3,.ptr (σ.length+1) 0),(4,Bo none),(7,B8 f),(8,I ((f+i:Nat):Int))])
        (fun i=>σ.set p (pob s am _)++[.box [U 0,U 0,U 0,U 0],.box ((addR S f i).map U)]) ?_ ?_ rfl rfl
       · intro i hi Q hQ;have c1:(((f+i:Nat):Int)≤(f:Int))=True:=by simp;omega
         have c2:IntKind.u8.wrap ((f+i:Nat):Int)=((f+i:Nat):Int):=wrap8 (by omega)
         have c3:IntKind.i64.wrap (((f+i:Nat):Int)+1)=((f+(i+1):Nat):Int):=by rw[wrapN (by omega) (by omega)];omega
         simp -implicitDefEqProofs only[mkE,go_sem,d3,c1,c2,c3];refine CO.intro (z46 _ (σ.length+1) 0 ((addR S f i).map U) (f+i) _ (gL1 _ _ _ _ _ _) (z5T (by rw[z2N];exact h3) (by omega)) (by omega)) ?_
         rw[sL1,z38];simp -implicitDefEqProofs only[go_sem,c3];exact hQ
       · intro Q;have c1:(((f+(f+1-f):Nat):Int)≤(f:Int))=False:=by simp;omega
         simp -implicitDefEqProofs only[mkE,go_sem,d3,c1]
         exact u0)
    · clear q0;generalize cTo s a1 b1=q at m0 u0 d0 h0⊢;obtain⟨t,aT,bT⟩:=q;simp only at m0 u0⊢;have d1:decide ((t:Int)<(f:Int))=decide (t<f):=by rw[Bool.eq_iff_iff];simp
      have d2:IntKind.i64.wrap (f:Int)=(f:Int):=wrap64 (by omega)
      have d3:IntKind.i64.wrap (t:Int)=(t:Int):=wrap64 (by omega)
      cases bT
      all_goals (
       simp -implicitDefEqProofs only[go_sem,gA hp,sA hp,d1,d2,Bool.true_or,Bool.false_or]at u0⊢
       refine L.count (t+1-f) (fun i=>mkE 68 [(0,.ptr p 0),(2,.ptr σ.length 0),(3,.ptr (σ.length+1) 0),(4,Bo none),(7,B8 t),(8,I ((f+i:Nat):Int))])
        (fun i=>σ.set p (pob s aT _)++[.box [U 0,U 0,U 0,U 0],.box ((addR S f i).map U)]) ?_ ?_ rfl rfl
       · intro i hi Q hQ;have c1:(((f+i:Nat):Int)≤(t:Int))=True:=by simp;omega
         have c2:IntKind.u8.wrap ((f+i:Nat):Int)=((f+i:Nat):Int):=wrap8 (by omega)
         have c3:IntKind.i64.wrap (((f+i:Nat):Int)+1)=((f+(i+1):Nat):Int):=by rw[wrapN (by omega) (by omega)];omega
         simp -implicitDefEqProofs only[mkE,go_sem,d3,c1,c2,c3];refine CO.intro (z46 _ (σ.length+1) 0 ((addR S f i).map U) (f+i) _ (gL1 _ _ _ _ _ _) (z5T (by rw[z2N];exact h3) (by omega)) (by omega)) ?_
         rw[sL1,z38];simp -implicitDefEqProofs only[go_sem,c3];exact hQ
       · intro Q;have c1:(((f+(t+1-f):Nat):Int)≤(t:Int))=False:=by simp;omega
         simp -implicitDefEqProofs only[mkE,go_sem,d3,c1]
         exact u0)
 · simp[mkE]
 · simp
namespace Rex
mutual
def rv:Rex→AV
 |.mk op a b c d ks=>.agg [I op,U a,U b,U c,U d,rvK ks]
def rvK:List Rex→AV
 |[]=>.nils
 |x::xs=>.sl 6 (rv x::rvL xs)
def rvL:List Rex→List AV
 |[]=>[]
 |x::xs=>rv x::rvL xs
end
theorem zgC:∀l:List Rex,rvL l=l.map rv
 |[]=>rfl
 |x::xs=>by rw[rvL,zgC xs];rfl
theorem z7r (x:Rex) (xs:List Rex):rvK (x::xs)=.sl 6 ((x::xs).map rv):=by rw[rvK,zgC];rfl
theorem rv_eq (x:Rex):x.rv=.agg [I x.op,U x.a,U x.b,U x.c,U x.d,rvK x.ks]:=by
 cases x;rfl
theorem rvK_cases (ks:List Rex):rvK ks=.nils∨∃l,rvK ks=.sl 6 l:=by
 cases ks with
 |nil=>exact .inl rfl
 |cons x xs=>exact .inr ⟨_,z7r x xs⟩
mutual
theorem z0f (n:Nat):∀x:Rex,Bel n x.rv
 |.mk op a b c d ks=>by
  have hk:=zhu n ks;rw[rv];refine .agg _ fun i hi=>?_
  have:∀y∈[I op,U a,U b,U c,U d,rvK ks],Bel n y:=by
   intro y hy;simp only[List.mem_cons,List.not_mem_nil,or_false]at hy;rcases hy with rfl|rfl|rfl|rfl|rfl|rfl
   · exact .pl _
   · exact .pl _
   · exact .pl _
   · exact .pl _
   · exact .pl _
   · exact hk
  exact this _ (List.getElem_mem hi)
theorem zhu (n:Nat):∀ks:List Rex,Bel n (rvK ks)
 |[]=>.nils
 |x::xs=>by
  have h1:=z0f n x;have h2:=zd2 n xs;rw[rvK];refine .sl 6 _ fun i hi=>?_
  have:∀y∈rv x::rvL xs,Bel n y:=by
   intro y hy;rcases List.mem_cons.1 hy with rfl|hy
   · exact h1
   · exact h2 y hy
  exact this _ (List.getElem_mem hi)
theorem zd2 (n:Nat):∀ks:List Rex,∀y∈rvL ks,Bel n y
 |[]=>fun y hy=>absurd hy (by rw[rvL];exact List.not_mem_nil)
 |x::xs=>fun y hy=>by
  have h1:=z0f n x;have h2:=zd2 n xs;rw[rvL]at hy;rcases List.mem_cons.1 hy with rfl|hy
  · exact h1
  · exact h2 y hy
end
end Rex
def ofSet (S:List Int):Rex:=.mk 1 (S.getD 0 0) (S.getD 1 0) (S.getD 2 0) (S.getD 3 0) []
abbrev z4:List Int:=[0,0,0,0]
abbrev PF:=Nat→Bool→Rex×Nat×Bool
def patom (s:ByteArray) (F:PF) (d:Nat):PF:=fun a b =>
 let q:=pbyte s a b
 if q.1==40 then
  let w:=if q.2.2||d==8 then(ofSet z4,q.2.1,q.2.2||d==8) else F q.2.1 q.2.2
  (w.1,nextA s w.2.1 w.2.2 41,!sees s w.2.1 w.2.2 41||w.2.2)
 else if q.1==91 then
  let k:=z2i s q.2.1 q.2.2
  (ofSet k.1,k.2.1,k.2.2)
 else if q.1==46 then(ofSet (turnS z4),q.2.1,q.2.2)
 else if q.1==92 then
  let k:=psign s q.2.1 q.2.2
  (ofSet (z2M z4 k.1),k.2.1,k.2.2)
 else(ofSet (z2M z4 q.1),q.2.1,q.2.2||stray.contains q.1)
def z2V (s:ByteArray) (F:PF):PF:=fun a b =>
 let x:=F a b
 if sees s x.2.1 x.2.2 42 then(.mk 4 0 0 0 0 [x.1],x.2.1+1,x.2.2)
 else if sees s x.2.1 x.2.2 43 then(.mk 5 0 0 0 0 [x.1],x.2.1+1,x.2.2)
 else if sees s x.2.1 x.2.2 63 then(.mk 6 0 0 0 0 [x.1],x.2.1+1,x.2.2)
 else x
def wGo (s:ByteArray) (a:Nat) (b:Bool):Bool:=!over s a b&&(!sees s a b 124&& !sees s a b 41)
def pwayL (s:ByteArray) (F:PF):Nat→List Rex→Nat→Bool→List Rex×Nat×Bool
 |0,K,a,b=>(K,a,b)
 |n+1,K,a,b=>if wGo s a b then pwayL s F n (K++[(F a b).1]) (F a b).2.1 (F a b).2.2 else(K,a,b)
def one (op:Int):List Rex→Rex
 |[x]=>x
 |K=>.mk op 0 0 0 0 K
def pway (s:ByteArray) (F:PF):PF:=fun a b =>
 (one 2 (pwayL s F (s.size+1) [] a b).1,(pwayL s F (s.size+1) [] a b).2)
def z2A (s:ByteArray) (F:PF):Nat→List Rex→Nat→Bool→List Rex×Nat×Bool
 |0,K,a,b=>(K,a,b)
 |n+1,K,a,b=>if sees s a b 124 then z2A s F n (K++[(F (a+1) b).1]) (F (a+1) b).2.1 (F (a+1) b).2.2 else(K,a,b)
def pways (s:ByteArray) (F:PF):PF:=fun a b =>
 (one 3 (z2A s F (s.size+1) [(F a b).1] (F a b).2.1 (F a b).2.2).1,(z2A s F (s.size+1) [(F a b).1] (F a b).2.1 (F a b).2.2).2)
def lvl (s:ByteArray) (W:PF) (d:Nat):PF:=pways s (pway s (z2V s (patom s W d)))
def PW (s:ByteArray):Nat→PF
 |0=>lvl s (fun a b=>(ofSet z4,a,b)) 8
 |k+1=>lvl s (PW s k) (7-k)
def Fwd (F:PF):Prop:=∀a b,a≤(F a b).2.1∧(b=true→(F a b).2.2=true)
theorem Fwd.hs {F:PF} (h:Fwd F) {s:ByteArray} {a:Nat} {b:Bool} (hs:b=true∨s.size≤40):(F a b).2.2=true∨s.size≤40:=by
 rcases hs with rfl|hs
 · exact .inl ((h a true).2 rfl)
 · exact .inr hs
theorem z3k (s:ByteArray) (a:Nat) (b:Bool) (c:Nat):a≤nextA s a b c:=by unfold nextA;split<;>omega
theorem z2j (s:ByteArray) (a c:Nat):sees s a true c=false:=by simp[sees,over]
theorem z9B {s:ByteArray} {a:Nat} {b:Bool} {c:Nat} (h:sees s a b c=true):a<s.size∧b=false:=by
 simp[sees,over]at h;exact⟨by omega,h.1.1⟩
theorem zgD {s:ByteArray} {a:Nat} {b:Bool} (h:wGo s a b=true):a<s.size∧b=false:=by
 simp[wGo,over]at h;exact⟨by omega,h.1.1⟩
theorem z8t (s:ByteArray):∀(n:Nat) (S:List Int) (a:Nat) (b first:Bool),a≤(z1f s n S a b first).2.1∧(b=true→(z1f s n S a b first).2.2=true)
 |0,S,a,b,first=>⟨Nat.le_refl _,id⟩
 |n+1,S,a,b,first=>by
  rw[z1f];split
  · have h:=z8t s n (addR S (z09 s a b).1 ((cTo s a b).1+1-(z09 s a b).1)) (cTo s a b).2.1 (cBad s a b) false;refine⟨Nat.le_trans (Nat.le_trans (z6R s a b) (zgB s a b)) h.1,fun hb=>h.2 ?_⟩
    subst hb;exact z5S s a
  · exact⟨Nat.le_refl _,id⟩
theorem z5U (s:ByteArray) (a:Nat) (b:Bool):a≤(z2i s a b).2.1∧(b=true→(z2i s a b).2.2=true):=by
 have h:=z8t s (s.size+3) [0,0,0,0] (nextA s a b 94) b true;refine⟨Nat.le_trans (Nat.le_trans (z3k s a b 94) h.1) (z3k _ _ _ _),fun hb=>?_⟩
 show(_||_)=true;rw[h.2 hb,Bool.or_true]
theorem z3l (s:ByteArray) {F:PF} (h:Fwd F) (d:Nat):Fwd (patom s F d):=by
 intro a b;have h1:=z5h s a b;have hb:b=true→pbyte s a b=(0,a,true):=fun e=>by subst e;exact z4r s a
 unfold patom;generalize pbyte s a b=q at h1 hb⊢;obtain⟨c,a',b'⟩:=q;simp only at h1 hb⊢;split
 · rename_i hc
   have y0:b=true→False:=fun e=>by
    have:=congrArg Prod.fst (hb e);simp only at this;subst this;simp at hc
   refine⟨?_,fun e=>(y0 e).elim⟩
   split
   · exact Nat.le_trans h1 (z3k s a' _ 41)
   · exact Nat.le_trans h1 (Nat.le_trans (h a' b').1 (z3k _ _ _ 41))
 · have u0:b=true→b'=true:=fun e=>by
    have:=hb e;simp only[Prod.mk.injEq]at this;exact this.2.2
   split
   · exact⟨Nat.le_trans h1 (z5U s a' b').1,fun e=>(z5U s a' b').2 (u0 e)⟩
   · split
     · exact⟨h1,u0⟩
     · split
       · refine⟨Nat.le_trans h1 (z4s s a' b'),fun e=>?_⟩
         rw[u0 e];exact z6S s a'
       · refine⟨h1,fun e=>?_⟩
         show(_||_)=true;rw[u0 e,Bool.true_or]
def Eats (s:ByteArray) (F:PF):Prop:=∀a b,over s a b=false→a+1≤(F a b).2.1
theorem z8u (s:ByteArray) {F:PF} (h:Fwd F) (d:Nat):Eats s (patom s F d):=by
 intro a b ho;have h1:pbyte s a b=(byteAt s a,a+1,b):=by simp[pbyte,ho]
 unfold patom;rw[h1];simp only;split
 · split
   · exact z3k s (a+1) _ 41
   · exact Nat.le_trans (h (a+1) b).1 (z3k _ _ _ 41)
 · split
   · exact(z5U s (a+1) b).1
   · split
     · exact Nat.le_refl _
     · split
       · exact z4s s (a+1) b
       · exact Nat.le_refl _
theorem z4Y (s:ByteArray) (F:PF) (a:Nat) (b:Bool):(z2V s F a b).2.2=(F a b).2.2∧(F a b).2.1≤(z2V s F a b).2.1:=by
 unfold z2V;simp only;split
 · exact⟨rfl,Nat.le_succ _⟩
 · split
   · exact⟨rfl,Nat.le_succ _⟩
   · split
     · exact⟨rfl,Nat.le_succ _⟩
     · exact⟨rfl,Nat.le_refl _⟩
theorem z39 (s:ByteArray) {F:PF} (h:Fwd F):Fwd (z2V s F):=by
 intro a b;have h2:=z4Y s F a b;rw[h2.1];exact⟨Nat.le_trans (h a b).1 h2.2,(h a b).2⟩
theorem z5V (s:ByteArray) {F:PF} (h:Eats s F):Eats s (z2V s F):=by
 intro a b ho;exact Nat.le_trans (h a b ho) (z4Y s F a b).2
theorem zav (s:ByteArray) {F:PF} (h:Fwd F):∀n K a b,a≤(pwayL s F n K a b).2.1∧(b=true→(pwayL s F n K a b).2.2=true)
 |0,K,a,b=>⟨Nat.le_refl _,id⟩
 |n+1,K,a,b=>by
  rw[pwayL];split
  · have h1:=zav s h n (K++[(F a b).1]) (F a b).2.1 (F a b).2.2;exact⟨Nat.le_trans (h a b).1 h1.1,fun e=>h1.2 ((h a b).2 e)⟩
  · exact⟨Nat.le_refl _,id⟩
theorem z9C (s:ByteArray) {F:PF} (h:Fwd F):Fwd (pway s F):=fun a b=>zav s h (s.size+1) [] a b
theorem z8v (s:ByteArray) {F:PF} (h:Fwd F):∀n K a b,a≤(z2A s F n K a b).2.1∧(b=true→(z2A s F n K a b).2.2=true)
 |0,K,a,b=>⟨Nat.le_refl _,id⟩
 |n+1,K,a,b=>by
  rw[z2A];split
  · have h1:=z8v s h n (K++[(F (a+1) b).1]) (F (a+1) b).2.1 (F (a+1) b).2.2;exact⟨Nat.le_trans (Nat.le_trans (Nat.le_succ a) (h (a+1) b).1) h1.1,fun e=>h1.2 ((h (a+1) b).2 e)⟩
  · exact⟨Nat.le_refl _,id⟩
theorem zf9 (s:ByteArray) {F:PF} (h:Fwd F):Fwd (pways s F):=fun a b=>by
 have h1:=z8v s h (s.size+1) [(F a b).1] (F a b).2.1 (F a b).2.2;exact⟨Nat.le_trans (h a b).1 h1.1,fun e=>h1.2 ((h a b).2 e)⟩
theorem zd3 (s:ByteArray) {W:PF} (h:Fwd W) (d:Nat):Fwd (lvl s W d):=zf9 s (z9C s (z39 s (z3l s h d)))
theorem zaw (s:ByteArray):∀k,Fwd (PW s k)
 |0=>zd3 s (fun a b=>⟨Nat.le_refl _,id⟩) 8
 |k+1=>zd3 s (zaw s k) _
def FAns (f:FuncId) (args:List AV) (s:ByteArray) (F:PF):Prop :=
 ∀(σ:St) (p a:Nat) (b:Bool),p<σ.length→(b=true∨s.size≤40) →
  Ans Tryz.prog f (.ptr p 0::args) (σ.set p (pob s a b)) (F a b).1.rv (σ.set p (pob s (F a b).2.1 (F a b).2.2))
section
variable {σ:St} {p:Nat} {s:ByteArray}
theorem FAns.ex {f:FuncId} {args:List AV} {F:PF} (h:FAns f args s F) (hp:p<σ.length) (a:Nat) (b:Bool) (hs:b=true∨s.size≤40) (ex:St) :
  Ans Tryz.prog f (.ptr p 0::args) (σ.set p (pob s a b)++ex) (F a b).1.rv (σ.set p (pob s (F a b).2.1 (F a b).2.2)++ex):=by
 have:=h (σ.set p (pob s a b)++ex) p a b (by simp;omega) hs
 rwa [sA hp,sA hp]at this
theorem z47 (hp:p<σ.length) (a:Nat) (b:Bool) (c:Nat) (hs:b=true∨s.size≤40) (ex:St) :
  Ans Tryz.prog 178 [.ptr p 0,B8 c] (σ.set p (pob s a b)++ex) (Bo (sees s a b c)) (σ.set p (pob s (nextA s a b c) b)++ex):=by
 have:=z5g (σ.set p (pob s a b)++ex) p s a b c hs (gA hp _ _)
 rwa [sA hp]at this
theorem zhv (hp:p<σ.length) (a:Nat) (b:Bool) (hs:b=true∨s.size≤40) (ex:St) :
  Ans Tryz.prog 191 [.ptr p 0] (σ.set p (pob s a b)++ex) (B8 (pbyte s a b).1) (σ.set p (pob s (pbyte s a b).2.1 (pbyte s a b).2.2)++ex):=by
 have:=z7q (σ.set p (pob s a b)++ex) p s a b hs (gA hp _ _)
 rwa [sA hp]at this
theorem zhw (hp:p<σ.length) (a:Nat) (b:Bool) (hs:b=true∨s.size≤40) (ex:St) :
  Ans Tryz.prog 195 [.ptr p 0] (σ.set p (pob s a b)++ex) (B8 (psign s a b).1) (σ.set p (pob s (psign s a b).2.1 (psign s a b).2.2)++ex):=by
 have:=zas (σ.set p (pob s a b)++ex) p s a b hs (gA hp _ _)
 rwa [sA hp]at this
theorem z7s (hp:p<σ.length) (a:Nat) (b:Bool) (ex:St):Ans Tryz.prog 181 [.ptr p 0] (σ.set p (pob s a b)++ex) (Bo (over s a b)) (σ.set p (pob s a b)++ex) :=
 z4q _ p s a b (gA hp _ _)
theorem z5W (hp:p<σ.length) (a:Nat) (b:Bool) (c:Nat) (ex:St):Ans Tryz.prog 182 [.ptr p 0,B8 c] (σ.set p (pob s a b)++ex) (Bo (sees s a b c)) (σ.set p (pob s a b)++ex) :=
 z5f _ p s a b c (gA hp _ _)
theorem zfa (hp:p<σ.length) (a:Nat) (b:Bool) (hs:b=true∨s.size≤40) (ex:St) :
  Ans Tryz.prog 192 [.ptr p 0] (σ.set p (pob s a b)++ex) (.agg ((z2i s a b).1.map U)) (σ.set p (pob s (z2i s a b).2.1 (z2i s a b).2.2)++ex):=by
 have:=zd1 (σ.set p (pob s a b)++ex) p s a b (by simp;omega) hs
 rwa [sA hp,sA hp]at this
end
theorem zbD (s:ByteArray) (a:Nat) (b:Bool):(z2i s a b).1.length=4:=by
 have h:=z4P s (s.size+3) [0,0,0,0] (nextA s a b 94) b true;unfold z2i;simp only;split
 · simp only[turnS,List.length_map];exact h
 · exact h
theorem zfb {s:ByteArray} {a:Nat} {b:Bool} (h:b=true∨s.size≤40):(pbyte s a b).2.2=true∨s.size≤40:=by
 rcases h with rfl|h
 · exact .inl (by rw[z4r])
 · exact .inr h
theorem add_get {c:Nat} (hc:c<256):([I 1,U 0,U 0,U 0,U 0,.nils]:List AV)[1+c/64]?=some (U 0):=by
 have h:c/64<4:=by omega
 generalize c/64=k at h
 match k,h with
 |0,_=>rfl
 |1,_=>rfl
 |2,_=>rfl
 |3,_=>rfl
theorem z5X {c:Nat} (hc:c<256):([I 1,U 0,U 0,U 0,U 0,.nils]:List AV).set (1+c/64) (U (orU 0 (bitU (c%64)))) =
  [I 1,U ((z2M z4 c).getD 0 0),U ((z2M z4 c).getD 1 0),U ((z2M z4 c).getD 2 0),U ((z2M z4 c).getD 3 0),.nils]:=by
 have h:c/64<4:=by omega
 unfold z2M;generalize bitU (c%64)=w;generalize c/64=k at h
 match k,h with
 |0,_=>rfl
 |1,_=>rfl
 |2,_=>rfl
 |3,_=>rfl
theorem zfc (x:Rex):AV.cells x.rv=[I x.op,U x.a,U x.b,U x.c,U x.d,rvK x.ks]:=by rw[rv_eq];rfl
section
variable (s:ByteArray)
theorem zax (F:PF) (d:Nat) (hd:d≤8) (hF:d<8→FAns 173 [I ((d+1:Nat):Int)] s F) (hfw:Fwd F):FAns 189 [I d] s (patom s F d):=by
 intro σ p a b hp hs;have hlen:∀o,(σ.set p o).length=σ.length:=fun o=>by simp
 refine Ans.of_run' t189 (fun d0 _=>?_)
 have u0:=z4X d0;simp -implicitDefEqProofs only[c189,r189,go_sem,List.append_assoc,List.length_append,List.length_set,gA hp,sA hp,gL0,sL0,gL1,sL1];refine CO.intro (zhv hp a b hs _) ?_;unfold patom;have hc:=z3P s a b;have m0:=zfb (a:=a) hs;have n0:=zcZ _ hc;generalize pbyte s a b=q at hc m0 n0⊢;obtain⟨c,a',b'⟩:=q;simp only at hc m0 n0⊢;have q0:((c:Int)==40)=(c==40):=z0l c 40;have k8:((d:Int)==8)=(d==8):=z0l d 8;have k0:((c:Int)==91)=(c==91):=z0l c 91;have j0:((c:Int)==46)=(c==46):=z0l c 46;have y0:((c:Int)==92)=(c==92):=z0l c 92
 cases h40:c==40 with
 |true =>
  cases b' with
  |true =>
   simp -implicitDefEqProofs only[go_sem,q0,k0,j0,y0,h40,gA hp,sA hp,gL0,sL0,gL1,sL1,if_true,Bool.true_or,Bool.or_true];refine CO.intro (z47 hp _ _ 41 (.inl rfl) _) ?_;simp -implicitDefEqProofs only[go_sem,gA hp,sA hp,gL0,sL0,gL1,sL1,z2j,nextA];refine Fini.trim2 (ex:=[_,_]) ?_ rfl ?_ (z0f _ _) (u0 _ _)
   · (simp -implicitDefEqProofs only[go_sem,resA,z03,rvA,oneOf,gL0];first|done|rfl|rw[rv_eq,hK]|(simp only[rv,rvK,rvL];rw[rv_eq,hK]))
   · simp
  |false =>
   cases hd8:d==8 with
   |true =>
    simp -implicitDefEqProofs only[go_sem,q0,k0,j0,y0,h40,gA hp,sA hp,gL0,sL0,gL1,sL1,if_true,k8,hd8,Bool.false_or,Bool.or_false,Bool.or_true,Bool.true_or];refine CO.intro (z47 hp _ _ 41 (.inl rfl) _) ?_;simp -implicitDefEqProofs only[go_sem,gA hp,sA hp,gL0,sL0,gL1,sL1,z2j,nextA];refine Fini.trim2 (ex:=[_,_]) ?_ rfl ?_ (z0f _ _) (u0 _ _)
    · (simp -implicitDefEqProofs only[go_sem,resA,z03,rvA,oneOf,gL0];first|done|rfl|rw[rv_eq,hK]|(simp only[rv,rvK,rvL];rw[rv_eq,hK]))
    · simp
   |false =>
    have e0:d<8:=by
     have:d≠8:=by simpa using hd8
     omega
    have e1:IntKind.i64.wrap ((d:Int)+1)=((d+1:Nat):Int):=by rw[wrapN (by omega) (by omega)];rfl
    simp -implicitDefEqProofs only[go_sem,q0,k0,j0,y0,h40,gA hp,sA hp,gL0,sL0,gL1,sL1,if_true,k8,hd8,Bool.false_or,Bool.or_false,Bool.or_true,Bool.true_or,e1];refine CO.intro ((hF e0).ex hp _ _ m0 _) ?_;have t0:(F a' false).2.2=true∨s.size≤40:=hfw.hs m0;generalize F a' false=w at t0⊢;obtain⟨x,a1,b1⟩:=w;simp only at t0⊢;have r0:∀n,Bel n x.rv:=fun n=>z0f n x
    rw[rv_eq x]at r0⊢;rcases rvK_cases x.ks with hK|⟨l,hK⟩
    all_goals rw[hK]at r0⊢
    all_goals simp -implicitDefEqProofs only[go_sem,gA hp,sA hp,gL0,sL0,gL1,sL1]
    all_goals refine CO.intro (z47 hp _ _ 41 t0 _) ?_
    all_goals cases hse:sees s a1 b1 41
    all_goals (
     first
     |(have f0:=(z9B hse).2
       subst f0)
     |skip
     simp -implicitDefEqProofs only[go_sem,gA hp,sA hp,gL0,sL0,gL1,sL1,hse,nextA,Bool.true_or,Bool.false_or];refine Fini.trim2 (ex:=[_,_]) ?_ rfl ?_ (r0 _) (u0 _ _)
     · (simp -implicitDefEqProofs only[go_sem,resA,z03,rvA,oneOf,gL0];first|done|rfl|rw[rv_eq,hK]|(simp only[rv,rvK,rvL];rw[rv_eq,hK]))
     · simp)
 |false =>
  cases h91:c==91 with
  |true =>
   simp -implicitDefEqProofs only[go_sem,q0,k0,j0,y0,h40,h91,gA hp,sA hp,if_true,Bool.false_eq_true,if_false];refine CO.intro (zfa hp a' b' m0 _) ?_;have h4:=zbD s a' b';generalize z2i s a' b'=k at h4⊢;obtain⟨S,a1,b1⟩:=k;simp only at h4⊢;obtain⟨x0,x1,x2,x3,rfl⟩:=four h4;simp -implicitDefEqProofs only[go_sem,gA hp,sA hp,gL0,sL0,gL1,sL1,List.map_cons,List.map_nil];refine Fini.trim2 (ex:=[_,_]) ?_ rfl ?_ (z0f _ _) (u0 _ _)
   · (simp -implicitDefEqProofs only[go_sem,resA,z03,rvA,oneOf,gL0];first|done|rfl|rw[rv_eq,hK]|(simp only[rv,rvK,rvL];rw[rv_eq,hK]))
   · simp
  |false =>
   cases h46:c==46 with
   |true =>
    simp -implicitDefEqProofs only[go_sem,q0,k0,j0,y0,h40,h91,h46,gA hp,sA hp,gL0,sL0,gL1,sL1,if_true,Bool.false_eq_true,if_false];refine CO.intro (turned_ans _ 0 0 0 0) ?_;simp -implicitDefEqProofs only[go_sem,gA hp,sA hp,gL0,sL0,gL1,sL1,List.map_cons,List.map_nil];refine Fini.trim2 (ex:=[_,_]) ?_ rfl ?_ (z0f _ _) (u0 _ _)
    · (simp -implicitDefEqProofs only[go_sem,resA,z03,rvA,oneOf,gL0];first|done|rfl|rw[rv_eq,hK]|(simp only[rv,rvK,rvL];rw[rv_eq,hK]))
    · simp
   |false =>
    cases h92:c==92 with
    |true =>
     simp -implicitDefEqProofs only[go_sem,q0,k0,j0,y0,h40,h91,h46,h92,gA hp,sA hp,gL0,sL0,gL1,sL1,if_true,Bool.false_eq_true,if_false];refine CO.intro (zhw hp a' b' m0 _) ?_;have hk:(psign s a' b').1<256:=z3P s a' b';generalize psign s a' b'=k at hk⊢;obtain⟨x,a1,b1⟩:=k;simp only at hk⊢;simp -implicitDefEqProofs only[go_sem];refine CO.intro (z46 _ (σ.length+1) 1 _ x 0 (gL1 _ _ _ _ _ _) (add_get hk) hk) ?_;rw[sL1,z5X hk];simp -implicitDefEqProofs only[go_sem,gA hp,sA hp,gL0,sL0,gL1,sL1,List.map_cons,List.map_nil];refine Fini.trim2 (ex:=[_,_]) ?_ rfl ?_ (z0f _ _) (u0 _ _)
     · (simp -implicitDefEqProofs only[go_sem,resA,z03,rvA,oneOf,gL0];first|done|rfl|rw[rv_eq,hK]|(simp only[rv,rvK,rvL];rw[rv_eq,hK]))
     · simp
    |false =>
     simp -implicitDefEqProofs only[go_sem,q0,k0,j0,y0,h40,h91,h46,h92,gA hp,sA hp,gL0,sL0,gL1,sL1,if_true,Bool.false_eq_true,if_false]
     cases b' with
     |true =>
      simp -implicitDefEqProofs only[go_sem,gA hp,sA hp,gL0,sL0,gL1,sL1];refine CO.intro (z46 _ (σ.length+1) 1 _ c 0 (gL1 _ _ _ _ _ _) (add_get hc) hc) ?_;rw[sL1,z5X hc];simp -implicitDefEqProofs only[go_sem,gA hp,sA hp,gL0,sL0,gL1,sL1];refine Fini.trim2 (ex:=[_,_]) ?_ rfl ?_ (z0f _ _) (u0 _ _)
      · (simp -implicitDefEqProofs only[go_sem,resA,z03,rvA,oneOf,gL0];first|done|rfl|rw[rv_eq,hK]|(simp only[rv,rvK,rvL];rw[rv_eq,hK]))
      · simp
     |false =>
      simp -implicitDefEqProofs only[go_sem,gA hp,sA hp,gL0,sL0,gL1,sL1];refine CO.intro (z45 _ _ c) ?_;simp -implicitDefEqProofs only[go_sem,gA hp,sA hp,gL0,sL0,gL1,sL1];refine CO.intro (z46 _ (σ.length+1) 1 _ c 0 (gL1 _ _ _ _ _ _) (add_get hc) hc) ?_;rw[sL1,z5X hc];simp -implicitDefEqProofs only[go_sem,gA hp,sA hp,gL0,sL0,gL1,sL1];rw[n0];refine Fini.trim2 (ex:=[_,_]) ?_ rfl ?_ (z0f _ _) (u0 _ _)
      · (simp -implicitDefEqProofs only[go_sem,resA,z03,rvA,oneOf,gL0];first|done|rfl|rw[rv_eq,hK]|(simp only[rv,rvK,rvL];rw[rv_eq,hK]))
      · simp
end
section
variable (s:ByteArray)
theorem z6T (F:PF) (d:Nat) (hF:FAns 189 [I d] s F) (hfw:Fwd F):FAns 183 [I d] s (z2V s F):=by
 intro σ p a b hp hs;refine Ans.of_run' t183 (fun q0 _=>?_)
 have y0:=z4X q0;simp -implicitDefEqProofs only[c183,r183,go_sem,List.append_assoc,List.length_append,List.length_set,gA hp,sA hp,gL0,sL0,gL1,sL1];refine CO.intro (hF.ex hp _ _ hs _) ?_;have u0:(F a b).2.2=true∨s.size≤40:=hfw.hs hs;unfold z2V;generalize F a b=w at u0⊢;obtain⟨x,a1,b1⟩:=w;simp only at u0⊢
 have hn:∀(ex:St) (c:Nat),sees s a1 b1 c=false→Ans Tryz.prog 178 [.ptr p 0,B8 c] (σ.set p (pob s a1 b1)++ex) (Bo false) (σ.set p (pob s a1 b1)++ex):=fun ex c h=>by
  have:=z47 hp a1 b1 c u0 ex
  rwa [nextA,h]at this
 have hy:∀(ex:St) (c:Nat),sees s a1 b1 c=true→Ans Tryz.prog 178 [.ptr p 0,B8 c] (σ.set p (pob s a1 b1)++ex) (Bo true) (σ.set p (pob s (a1+1) b1)++ex):=fun ex c h=>by
  have:=z47 hp a1 b1 c u0 ex
  rwa [nextA,h]at this
 have j0:∀n,Bel n x.rv:=fun n=>z0f n x
 rw[rv_eq x]at j0⊢;rcases rvK_cases x.ks with hK|⟨l,hK⟩
 all_goals (
  rw[hK]at j0⊢;simp -implicitDefEqProofs only[go_sem,gA hp,sA hp,gL0,sL0,gL1,sL1];cases h42:sees s a1 b1 42
  · refine CO.intro (hn _ 42 h42) ?_;simp -implicitDefEqProofs only[go_sem,gA hp,sA hp,gL0,sL0,gL1,sL1];cases h43:sees s a1 b1 43
    · refine CO.intro (hn _ 43 h43) ?_;simp -implicitDefEqProofs only[go_sem,gA hp,sA hp,gL0,sL0,gL1,sL1];cases h63:sees s a1 b1 63
      · refine CO.intro (hn _ 63 h63) ?_;simp -implicitDefEqProofs only[go_sem,gA hp,sA hp,gL0,sL0,gL1,sL1];refine Fini.trim2 (ex:=[_]) ?_ rfl ?_ (z0f _ _) (y0 _ _)
        · (simp -implicitDefEqProofs only[go_sem,resA,z03,rvA,oneOf,gL0];first|done|rfl|rw[rv_eq,hK]|(simp only[rv,rvK,rvL];rw[rv_eq,hK]))
        · simp
      · refine CO.intro (hy _ 63 h63) ?_;simp -implicitDefEqProofs only[go_sem,gA hp,sA hp,gL0,sL0,gL1,sL1];refine Fini.trim2 (ex:=[_]) ?_ rfl ?_ (z0f _ _) (y0 _ _)
        · (simp -implicitDefEqProofs only[go_sem,resA,z03,rvA,oneOf,gL0];first|done|rfl|rw[rv_eq,hK]|(simp only[rv,rvK,rvL];rw[rv_eq,hK]))
        · simp
    · refine CO.intro (hy _ 43 h43) ?_;simp -implicitDefEqProofs only[go_sem,gA hp,sA hp,gL0,sL0,gL1,sL1];refine Fini.trim2 (ex:=[_]) ?_ rfl ?_ (z0f _ _) (y0 _ _)
      · (simp -implicitDefEqProofs only[go_sem,resA,z03,rvA,oneOf,gL0];first|done|rfl|rw[rv_eq,hK]|(simp only[rv,rvK,rvL];rw[rv_eq,hK]))
      · simp
  · refine CO.intro (hy _ 42 h42) ?_;simp -implicitDefEqProofs only[go_sem,gA hp,sA hp,gL0,sL0,gL1,sL1];refine Fini.trim2 (ex:=[_]) ?_ rfl ?_ (z0f _ _) (y0 _ _)
    · (simp -implicitDefEqProofs only[go_sem,resA,z03,rvA,oneOf,gL0];first|done|rfl|rw[rv_eq,hK]|(simp only[rv,rvK,rvL];rw[rv_eq,hK]))
    · simp)
end
end Go.Proofs.YteakobbdgehlgaaGreatDoor
