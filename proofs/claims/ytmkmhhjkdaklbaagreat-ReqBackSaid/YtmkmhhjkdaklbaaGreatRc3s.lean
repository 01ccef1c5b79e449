/- Texts read out of bytes, and a reader's state. No condition. -/
import Derived.Test.YtmkmhhjkdaklbaaGreatXVi2s
import Derived.Test.YtmkmhhjkdaklbaaGreatCod2s
import Derived.Test.YtmkmhhjkdaklbaaGreatRows
import Derived.Test.YtmkmhhjkdaklbaaGreatAbArgs
import Derived.Test.YtmkmhhjkdaklbaaGreatXPPar6s
import Derived.Test.YtmkmhhjkdaklbaaGreatProg
import Derived.Test.YtmkmhhjkdaklbaaGreatAbSteps
set_option linter.unusedSimpArgs false
set_option linter.unusedVariables false
set_option linter.unusedSectionVars false
namespace Go.Proofs.YtmkmhhjkdaklbaaGreat
open Go Go.Ab Go.Cod
set_option maxRecDepth 100000
def textV (most:Nat) (b:Byt):AV:=match textR most b with
 |some p=>.tup [Sx p.1,I (b.length-p.2.length:Nat),Bo true]
 |none=>.tup [Sx ⟨#[]⟩,I 0,Bo false]
theorem z38 {most:Nat} {b:Byt} (h:textR most b=none):textV most b=.tup [Sx ⟨#[]⟩,I 0,Bo false]:=by unfold textV;rw[h]
theorem z5F {most:Nat} {b:Byt} {s:ByteArray} {t:Byt} (h:textR most b=some (s,t)):textV most b=.tup [Sx s,I (b.length-t.length:Nat),Bo true]:=by unfold textV;rw[h]
theorem z9P {most:Nat} {b:Byt} (h:getN 0 b=none):textR most b=none:=by simp only[textR,numR,h,Option.bind_none]
theorem zcw {most:Nat} {b:Byt} {n:Nat} {t:Byt} (h:getN 0 b=some (n,t)):textR most b=if n≤most∧n≤t.length then some (⟨(t.take n).toArray⟩,t.drop n) else none:=by
 simp only[textR,numR,h,Option.bind_some];by_cases h1:n≤most
 · simp only[h1,if_true,Option.bind_some,true_and]
 · simp only[h1,if_false,Option.bind_none,false_and]
theorem decNN (a b:Nat):decide ((a:Int)<(b:Int))=decide (a<b):=by rw[Bool.eq_iff_iff];simp
theorem subN {a b:Nat} (h:b≤a) (ha:a≤100000):IntKind.i64.wrap ((a:Int)-(b:Int))=((a-b:Nat):Int):=by rw[wrapN (by omega) (by omega)];omega
theorem addN {a b:Nat} (h:a+b≤100000):IntKind.i64.wrap ((a:Int)+(b:Int))=((a+b:Nat):Int):=by rw[wrapN (by omega) (by omega)];omega
theorem wrapI {a:Nat} (h:a<9223372036854775808):IntKind.i64.wrap (a:Int)=(a:Int):=wrapN (by omega) (by omega)
section
variable (σ:St)
theorem z87 (b:Byt) (most:Nat) (hb:b.length≤100000) (hm:most<9223372036854775808):Ans Tryz.prog 116 [.sl 1 (byv b),I most] σ (textV most b) σ:=by
 refine Ans.of_run t116 ?_;simp -implicitDefEqProofs only[c116,r116,go_sem];refine CO.intro (z95 σ b hb) ?_;have hneg:decide ((most:Int)<0)=false:=by simp
 have hwm:=z1N (n:=most) (by omega)
 cases hg:getN 0 b with
 |none =>
  rw[z3L hg,z38 (z9P hg)];simp -implicitDefEqProofs only[go_sem];exact Fini.ret rfl
 |some p =>
  obtain⟨n,t⟩:=p;obtain⟨hbt,hn,_⟩:=z67 b 0 n t (by omega) hg
  have hn:n<18446744073709551616:=hn;have hlen:b.length=(putN n).length+t.length:=by rw[hbt,List.length_append]
  have hk:b.length-t.length=(putN n).length:=by omega
  have hsub:=subN (a:=b.length) (b:=(putN n).length) (by omega) hb
  have hsub2:b.length-(putN n).length=t.length:=by omega
  have hwt:=z1N (n:=t.length) (by omega)
  have e1:decide ((most:Int)<n)=decide (most<n):=decNN most n;have e2:decide ((t.length:Int)<n)=decide (t.length<n):=decNN _ n;rw[z4Y hg,hk];have hR:=zcw (most:=most) hg;by_cases h1:n≤most
  · have x1:decide (most<n)=false:=decide_eq_false (by omega)
    by_cases h2:n≤t.length
    · have x2:decide (t.length<n)=false:=decide_eq_false (by omega)
      rw[if_pos ⟨h1,h2⟩]at hR;have hwn:=wrapI (a:=n) (by omega)
      have hadd:=addN (a:=(putN n).length) (b:=n) (by omega)
      have hlo:((putN n).length:Int)≤((putN n).length+n:Nat):=by omega
      have hhi:(((putN n).length+n:Nat):Int)≤(b.length:Nat):=by omega
      have hcut:(b.take ((putN n).length+n)).drop (putN n).length=t.take n:=by
       rw[hbt,List.take_append,List.take_of_length_le (by omega),Nat.add_sub_cancel_left,List.drop_left]
      rw[z5F hR];simp -implicitDefEqProofs only[go_sem,hneg,hwm,e1,x1,hsub,hsub2,hwt,e2,x2,hwn,hadd,z06,hlo,hhi,AV.isStr,z35,z37,hcut,z15,bc,z2o,z2p];refine Fini.ret' rfl ?_;rw[List.length_drop];have:b.length-(t.length-n)=(putN n).length+n:=by omega
      rw[this];rfl
    · have x2:decide (t.length<n)=true:=decide_eq_true (by omega)
      rw[if_neg (by omega)]at hR
      rw[z38 hR];simp -implicitDefEqProofs only[go_sem,hneg,hwm,e1,x1,z06,hsub,hsub2,hwt,e2,x2];exact Fini.ret rfl
  · have x1:decide (most<n)=true:=decide_eq_true (by omega)
    rw[if_neg (by omega)]at hR
    rw[z38 hR];simp -implicitDefEqProofs only[go_sem,hneg,hwm,e1,x1];exact Fini.ret rfl
end
abbrev rob (b:Byt) (q:Nat×Bool):Ob:=.box [.sl 1 (byv b),I q.1,Bo q.2]
theorem z51 {σ:St} {p:Nat} {o:Ob} (h:σ[p]?=some o) (x:Ob):(σ.set p x)[p]?=some x:=by
 have:=(List.getElem?_eq_some_iff.1 h).1;simp[this]
section
variable (σ:St) (p:Nat) (b:Byt) (q:Nat×Bool)
theorem z42:Ans Tryz.prog 54 [.sl 1 (byv b)] σ (.ptr σ.length 0) (σ++[rob b (0,false)]):=by
 refine Ans.of_run t54 ?_;simp -implicitDefEqProofs only[c54,r54,go_sem];exact Fini.ret rfl
theorem z0P (h:σ[p]?=some (rob b q)) (hq:q.1≤b.length):Ans Tryz.prog 112 [.ptr p 0] σ (.sl 1 (byv (b.drop q.1))) σ:=by
 have h1:(q.1:Int)≤(b.length:Nat):=by omega
 refine Ans.of_run t112 ?_;simp -implicitDefEqProofs only[c112,r112,go_sem,h,z06,h1,z35,z37,List.take_length,Int.le_refl];exact Fini.ret rfl
theorem z0Q (n:Nat) (ok:Bool) (h:σ[p]?=some (rob b q)) (hn:q.1+n≤100000):Ans Tryz.prog 113 [.ptr p 0,I n,Bo ok] σ (Bo !(took q n ok).2) (σ.set p (rob b (took q n ok))):=by
 obtain⟨a,bad⟩:=q;have h9:∀x,(σ.set p x)[p]?=some x:=z51 h;have hadd:=addN (a:=a) (b:=n) hn;unfold took;refine Ans.of_run t113 ?_
 cases bad with
 |true =>
  simp -implicitDefEqProofs only[c113,r113,go_sem,h,h9];exact Fini.ret rfl
 |false =>
  cases ok with
  |true =>
   simp -implicitDefEqProofs only[c113,r113,go_sem,h,h9,hadd,List.set_set];exact Fini.ret rfl
  |false =>
   simp -implicitDefEqProofs only[c113,r113,go_sem,h,h9];exact Fini.ret rfl
end
abbrev Fl (n:Nat):AV:=.pl (.float .f64 n)
structure RuM where
 src:List Mtr
 tgt:List Mtr
 any:Bool
 lo:Nat
 hi:Nat
 eq:List ByteArray
def txs (l:List ByteArray):List AV:=l.map fun s=>Sx s
def ruV (r:RuM):AV:=.agg [.sl 3 (mvs3 r.src),.sl 3 (mvs3 r.tgt),Bo r.any,Fl r.lo,Fl r.hi,.sl 1 (txs r.eq)]
theorem z0H (l:List ByteArray):(txs l).length=l.length:=List.length_map ..
theorem zb1 (l:List ByteArray) (i:Nat) (h:i<l.length):(txs l)[i]?=some (Sx l[i]):=by simp[txs,h]
theorem txs_D (l:List ByteArray) (i:Nat) (h:i<l.length):(txs l)[i]?=some (Sx (l.getD i ⟨#[]⟩)):=by
 rw[zb1 l i h,List.getD_eq_getElem?_getD,List.getElem?_eq_getElem h];rfl
def leF (a b:Nat):Bool:=FloatKind.f64.format.order a b==some .lt||FloatKind.f64.format.order a b==some .eq
theorem zdR (a b:Nat):(FloatKind.f64.format.order a b==some .lt||FloatKind.f64.format.order a b==some .eq)=leF a b:=rfl
def nanF (a:Nat):Bool:=FloatKind.f64.format.order a a != some .eq
theorem z4r (a:Nat):(FloatKind.f64.format.order a a != some .eq)=nanF a:=rfl
def bitsF (a:Nat):Nat:=if nanF a then 9221120237041090561 else a
def mayB (any:Bool) (lo hi:Nat):Bool:=if any then(((bitsF lo:Nat):Int)==0)&&(((bitsF hi:Nat):Int)==0) else leF lo hi
def eqOk (e:List ByteArray) (i:Nat):Bool:=nameB (e.getD i ⟨#[]⟩)&& !(decide (0<i)&&leS (e.getD i ⟨#[]⟩) (e.getD (i-1) ⟨#[]⟩))
def eqB (e:List ByteArray):Bool:=decide (e.length≤4)&&(List.range e.length).all (eqOk e)
def ruIs (r:RuM):Bool:=!(((r.src.length:Nat):Int)==0)&&(!(((r.tgt.length:Nat):Int)==0)&&(listB r.src&&(listB r.tgt&&(mayB r.any r.lo r.hi&&eqB r.eq))))
section
variable (σ:St)
theorem zeR (a:Nat):Ans Tryz.prog 132 [Fl a] σ (Bo (nanF a)) σ:=by
 refine Ans.of_run t132 ?_;simp -implicitDefEqProofs only[c132,r132,go_sem,z4r];exact Fini.ret rfl
theorem z3r (a:Nat):Ans Tryz.prog 47 [Fl a] σ (UN a) σ:=ext_bits.ok _ _ _ _ rfl
theorem z2A (a:Nat):Ans Tryz.prog 94 [Fl a] σ (UN (bitsF a)) σ:=by
 refine Ans.of_run t94 ?_;simp -implicitDefEqProofs only[c94,r94,go_sem];refine CO.intro (zeR σ a) ?_;unfold bitsF
 cases nanF a with
 |true =>
  simp -implicitDefEqProofs only[go_sem];exact Fini.ret rfl
 |false =>
  simp -implicitDefEqProofs only[go_sem];refine CO.intro (z3r σ a) ?_;simp -implicitDefEqProofs only[go_sem];exact Fini.ret rfl
theorem z1z (any:Bool) (lo hi:Nat):Ans Tryz.prog 107 [.agg [Bo any,Fl lo,Fl hi]] σ (Bo (mayB any lo hi)) σ:=by
 refine Ans.of_run t107 ?_;unfold mayB
 cases any with
 |true =>
  simp -implicitDefEqProofs only[c107,r107,go_sem];refine CO.intro (z2A σ lo) ?_
  cases h:(((bitsF lo:Nat):Int)==0) with
  |false =>
   simp -implicitDefEqProofs only[go_sem,h];exact Fini.ret rfl
  |true =>
   simp -implicitDefEqProofs only[go_sem,h];refine CO.intro (z2A σ hi) ?_;simp -implicitDefEqProofs only[go_sem,h];exact Fini.ret rfl
 |false =>
  simp -implicitDefEqProofs only[c107,r107,go_sem,zdR];exact Fini.ret rfl
theorem z1s (r:RuM):Ans Tryz.prog 51 [ruV r] σ (Bo (ruIs r)) σ:=by
 obtain⟨src,tgt,any,lo,hi,eq⟩:=r;have d4:decide ((4:Int)<eq.length)=decide (4<eq.length):=decNN 4 _;refine Ans.of_run t51 ?_;unfold ruIs ruV;simp only
 cases h1:(((src.length:Nat):Int)==0) with
 |true =>
  simp -implicitDefEqProofs only[c51,r51,go_sem,z0t,h1];exact Fini.ret rfl
 |false =>
 cases h2:(((tgt.length:Nat):Int)==0) with
 |true =>
  simp -implicitDefEqProofs only[c51,r51,go_sem,z0t,h1,h2];exact Fini.ret rfl
 |false =>
 simp -implicitDefEqProofs only[c51,r51,go_sem,z0t,h1,h2];refine CO.intro (z14 σ src) ?_
 cases h3:listB src with
 |false =>
  simp -implicitDefEqProofs only[go_sem];exact Fini.ret rfl
 |true =>
 simp -implicitDefEqProofs only[go_sem];refine CO.intro (z14 σ tgt) ?_
 cases h4:listB tgt with
 |false =>
  simp -implicitDefEqProofs only[go_sem];exact Fini.ret rfl
 |true =>
 simp -implicitDefEqProofs only[go_sem];refine CO.intro (z1z σ any lo hi) ?_
 cases h5:mayB any lo hi with
 |false =>
  simp -implicitDefEqProofs only[go_sem];exact Fini.ret rfl
 |true =>
 unfold eqB;by_cases h6:eq.length≤4
 · have x4:decide (4<eq.length)=false:=decide_eq_false (by omega)
   rw[decide_eq_true h6];simp -implicitDefEqProofs only[go_sem,z0H,d4,x4];refine Go.Ab.L.scan eq.length (eqOk eq) (fun i=>mkE 65 [(1,.rp [.sl 3 (mvs3 src),.sl 3 (mvs3 tgt),Bo any,Fl lo,Fl hi,.sl 1 (txs eq)]),(40,.sl 1 (txs eq)),(41,I eq.length),(42,I i)]) (fun _=>σ) ?_ ?_ rfl rfl
   · intro i hi hp J hJ;have hx:=txs_D eq i hi;have hF:eqOk eq i=false→(List.range eq.length).all (eqOk eq)=false:=fun h=>List.all_eq_false.2 ⟨i,List.mem_range.2 hi,by rw[h];decide⟩
     have hin:=wrap_succ (i:=i) (by omega)
     have d0:decide ((0:Int)<i)=decide (0<i):=by rw[Bool.eq_iff_iff];simp
     have hO:eqOk eq i=(nameB (eq.getD i ⟨#[]⟩)&& !(decide (0<i)&&leS (eq.getD i ⟨#[]⟩) (eq.getD (i-1) ⟨#[]⟩))):=rfl;rw[hO]at hJ hF;simp -implicitDefEqProofs only[mkE,go_sem,z0H,z0j hi,dec_lt hi,hx];refine CO.intro (z4S σ _) ?_;generalize eq.getD i ⟨#[]⟩=s at hJ hF hx
     cases hb:nameB s with
     |false =>
      rw[hb]at hF;rw[hF rfl];simp -implicitDefEqProofs only[go_sem];exact Fini.ret rfl
     |true =>
      rw[hb]at hJ hF;by_cases hz:i=0
      · subst hz;have hgo:=hJ rfl;simp -implicitDefEqProofs only[go_sem,d0,hin];exact hgo
      · have hpos:decide (0<i)=true:=decide_eq_true (by omega)
        have hx1:=txs_D eq (i-1) (by omega)
        have w1:IntKind.i64.wrap ((i:Int)-1)=((i-1:Nat):Int):=by rw[wrapN (by omega) (by omega)];omega
        have hlt1:(((i-1:Nat):Int)<eq.length)=True:=by simp;omega
        rw[hpos]at hJ hF;generalize eq.getD (i-1) ⟨#[]⟩=s1 at hJ hF hx1;have hle:(Op.bytesLess s.toList s1.toList||s.toList==s1.toList)=leS s s1:=rfl;simp -implicitDefEqProofs only[go_sem,d0,hpos,w1,z0H,hlt1,hx1,hle]
        cases h7:leS s s1 with
        |true =>
         rw[h7]at hF;rw[hF rfl];simp -implicitDefEqProofs only[go_sem];exact Fini.ret rfl
        |false =>
         rw[h7]at hJ;have hgo:=hJ rfl;simp -implicitDefEqProofs only[go_sem,hin];exact hgo
   · intro hp J;have hd:decide ((eq.length:Int)<eq.length)=false:=by simp
     simp -implicitDefEqProofs only[mkE,go_sem,z0H,hd];refine Fini.ret' rfl (z1k ?_);exact(List.all_eq_true.2 fun i hi=>hp i (List.mem_range.1 hi)).symm
 · have x4:decide (4<eq.length)=true:=decide_eq_true (by omega)
   rw[decide_eq_false h6];simp -implicitDefEqProofs only[go_sem,z0H,d4,x4];exact Fini.ret rfl
end
end Go.Proofs.YtmkmhhjkdaklbaaGreat
namespace Go.Proofs.YtmkmhhjkdaklbaaGreat
open Go Go.Ab
set_option maxRecDepth 100000
def vals8:List ByteArray:=values++[⟨#[]⟩]
abbrev Mz:=Int×ByteArray×ByteArray
abbrev mv (x:Mz):AV:=mat x.1 x.2.1 x.2.2
def mvs (M:List Mz):List AV:=M.map mv
abbrev noM':Mz:=(0,⟨#[]⟩,⟨#[]⟩)
theorem z1A (M:List Mz):(mvs M).length=M.length:=List.length_map ..
theorem zdS (M:List Mz) (i:Nat) (h:i<M.length):(mvs M)[i]?=some (mv M[i]):=by simp[mvs,h]
theorem z6b (L:List Mz) (k:Nat):(mvs L).take k=mvs (L.take k):=by simp[mvs]
theorem z6c (L:List Mz) (k:Nat):(mvs L).drop k=mvs (L.drop k):=by simp[mvs]
theorem z88 (L:List Mz) (f:AV→Bool) (h:∀x:Mz,f (mv x)=true):(mvs L).all f=true:=by
 simp only[mvs,List.all_map,List.all_eq_true];exact fun x _=>h x
theorem z89:mvs []=[]:=rfl
theorem z52 (L:List Mz):(mvs L).isEmpty=L.isEmpty:=by simp[mvs]
theorem z8a (A B:List Mz) (x:Mz):mvs (A++[x]++B)=mvs A++mv x::mvs B:=by simp[mvs]
theorem z3s (n:Nat) (L:List Mz):Bel n (.sl 3 (mvs L)):=by
 refine .sl 3 _ fun i hi=>?_
 have:∀y∈mvs L,Bel n y:=by
  intro y hy;simp only[mvs,List.mem_map]at hy;obtain⟨x,_,rfl⟩:=hy;exact z7Y n _ _ _
 exact this _ (List.getElem_mem hi)
theorem B_mvs (n:Nat) (L:List Mz):Bel n (.sl 3 (mvs L))=True:=eq_true (z3s n L)
theorem B_mat (n:Nat) (k:Int) (a b:ByteArray):Bel n (mat k a b)=True:=eq_true (z7Y n k a b)
theorem B_m1 (n:Nat) (k:Int) (a b:ByteArray):Bel n (.sl 3 [mat k a b])=True:=eq_true (z3s n [(k,a,b)])
theorem z6d (n:Nat) (L:List Mz) (k:Int) (a b:ByteArray):Bel n (.sl 3 (mat k a b::mvs L))=True:=eq_true (z3s n ((k,a,b)::L))
theorem z96 (n:Nat) (A B:List Mz) (k:Int) (a b:ByteArray):Bel n (.sl 3 (mvs A++mat k a b::mvs B))=True:=eq_true (by have:=z3s n (A++[(k,a,b)]++B);rwa [z8a]at this)
theorem B_rp3 (n:Nat) (k:Int) (a b:ByteArray):Bel n (.rp [I k,Sx a,Sx b])=True:=eq_true (.rp _ fun i hi=>by
 have:∀y∈[I k,Sx a,Sx b],Bel n y:=by
  intro y hy;simp only[List.mem_cons,List.not_mem_nil,or_false]at hy;rcases hy with rfl|rfl|rfl<;>exact .pl _
 exact this _ (List.getElem_mem hi))
abbrev dv (d:Int×Int×Int):AV:=.agg [I d.1,I d.2.1,I d.2.2]
theorem B_ds (n:Nat) (ds:List (Int×Int×Int)):Bel n (.sl 3 (ds.map dv))=True:=eq_true (.sl 3 _ fun i hi=>by
 have:∀y∈ds.map dv,Bel n y:=by
  intro y hy;simp only[List.mem_map]at hy;obtain⟨x,_,rfl⟩:=hy;refine .agg _ fun i hi=>?_
  have:∀y∈[I x.1,I x.2.1,I x.2.2],Bel n y:=by
   intro y hy;simp only[List.mem_cons,List.not_mem_nil,or_false]at hy;rcases hy with rfl|rfl|rfl<;>exact .pl _
  exact this _ (List.getElem_mem hi)
 exact this _ (List.getElem_mem hi))
theorem B_d3 (n:Nat) (a b c:Int):Bel n (.agg [I a,I b,I c])=True:=eq_true (.agg _ fun i hi=>by
 have:∀y∈[I a,I b,I c],Bel n y:=by
  intro y hy;simp only[List.mem_cons,List.not_mem_nil,or_false]at hy;rcases hy with rfl|rfl|rfl<;>exact .pl _
 exact this _ (List.getElem_mem hi))
theorem B_rpd (n:Nat) (a b c:Int):Bel n (.rp [I a,I b,I c])=True:=eq_true (.rp _ fun i hi=>by
 have:∀y∈[I a,I b,I c],Bel n y:=by
  intro y hy;simp only[List.mem_cons,List.not_mem_nil,or_false]at hy;rcases hy with rfl|rfl|rfl<;>exact .pl _
 exact this _ (List.getElem_mem hi))
def z2q (x y:Mz):Bool :=
 if !(x.2.1.toList==y.2.1.toList) then Op.bytesLess x.2.1.toList y.2.1.toList
 else if x.1 != y.1 then decide (x.1<y.1) else Op.bytesLess x.2.2.toList y.2.2.toList
def eqM (x y:Mz):Bool:=x.1==y.1&&(x.2.1.toList==y.2.1.toList&&x.2.2.toList==y.2.2.toList)
def posM (out:List Mz) (x:Mz):Nat→Nat
 |0=>0
 |n+1=>if z2q x (out.getD n noM') then posM out x n else n+1
def insM (out:List Mz) (x:Mz):List Mz :=
 let p:=posM out x out.length
 if decide (0<p)&&eqM (out.getD (p-1) noM') x then out else out.take p++[x]++out.drop p
def matOf (d:Int×Int×Int):Mz:=(inD d.1 1 4,nameOf d.2.1,z2j d.1 d.2.2)
def z0m:List (Int×Int×Int)→List Mz→List Mz
 |[],out=>out
 |d::ds,out=>if out.length<5 then z0m ds (insM out (matOf d)) else out
section
variable (σ:St)
theorem zb2 (x y:Mz):Ans Tryz.prog 124 [mv x,mv y] σ (Bo (z2q x y)) σ:=by
 unfold z2q;refine Ans.of_run t124 ?_;simp -implicitDefEqProofs only[c124,r124,go_sem];cases h1:x.2.1.toList==y.2.1.toList
 · simp -implicitDefEqProofs only[go_sem];exact Fini.ret rfl
 · simp -implicitDefEqProofs only[go_sem];cases h2:x.1 != y.1
   · simp -implicitDefEqProofs only[go_sem];exact Fini.ret rfl
   · simp -implicitDefEqProofs only[go_sem];exact Fini.ret rfl
def mustL (b:Bool) (L:List Mz):List Mz:=if b&&L.isEmpty then[(1,⟨#[115,101,118]⟩,⟨#[97]⟩)] else L
def slotM (L:List Mz):AV:=if L.isEmpty then .nils else .sl 3 (mvs L)
theorem zb3:slotM []=.nils:=rfl
theorem z6e {L:List Mz} (h:L≠[]):slotM L=.sl 3 (mvs L):=by
 unfold slotM
 cases L with
 |nil=>exact absurd rfl h
 |cons _ _=>rfl
theorem z6f (out:List Mz) (x:Mz):insM out x≠[]:=by
 unfold insM;simp only;split
 · rename_i h;intro e;subst e;simp[posM]at h
 · simp
theorem z53:∀(ds:List (Int×Int×Int)) (out:List Mz),out≠[]→z0m ds out≠[]
 |[],out,h=>h
 |d::ds,out,h=>by
  rw[z0m];split
  · exact z53 ds _ (z6f _ _)
  · exact h
theorem zdT (must:Bool) (ds:List (Int×Int×Int)) (hne:ds≠[]) (hl:ds.length≤9223372036854775807):Ans Tryz.prog 79 [.sl 3 (ds.map dv),Bo must] σ (.sl 3 (mvs (z0m ds []))) σ:=by
 have hresne:z0m ds []≠[]:=by
  cases ds with
  |nil=>exact absurd rfl hne
  |cons d ds =>
   rw[z0m,if_pos (by decide)]
   exact z53 ds _ (z6f _ _)
 refine Ans.of_run' t79 (fun hbel _=>?_)
 have hbel':(∀o∈σ,BelO σ.length o)=True:=eq_true hbel;simp -implicitDefEqProofs only[c79,r79,go_sem,B_pl,B_any,z1R,B_tup,B_osl,B_ptr,B_sl0,B_mvs,B_mat,B_m1,z6d,z96,B_rp3,B_ds,B_d3,B_rpd,List.take_left,hbel',g0,s0,List.length_append,Nat.le_add_right];generalize hres:z0m ds []=res at hresne⊢;have hdl:(((ds.map dv).length:Nat):Int)=(ds.length:Nat):=by simp
 refine Go.Ab.L.intro (α:={ x:Nat×List Mz // x.1≤ds.length∧x.2.length≤5∧z0m (ds.drop x.1) x.2=res }) (fun x=>ds.length-x.1.1)
  (fun x=>mkE 73 [(0,.sl 3 (ds.map dv)),(1,Bo must),(5,slotM x.1.2),(6,I x.1.1)]) (fun _=>σ)
  (fun x J hJ=>?_) ⟨(0,[]),Nat.zero_le _,Nat.zero_le _,hres⟩ rfl rfl
 obtain⟨⟨i,out⟩,hi,ho,hg⟩:=x;simp only at hi ho hg hJ⊢;by_cases hout:out=[]
 · subst hout;by_cases hlt:i<ds.length
   · have hget:(ds.map dv)[i]?=some (dv ds[i]):=by simp[hlt]
     rw[List.drop_eq_getElem_cons hlt,z0m,if_pos (by decide)]at hg
     have hws:IntKind.i64.wrap ((i:Int)+1)=((i+1:Nat):Int):=by rw[wrapN (by omega) (by omega)];rfl
     have hin:insM [] (matOf ds[i])=[matOf ds[i]]:=rfl;rw[hin]at hg;have hJ':=hJ ⟨(i+1,[matOf ds[i]]),hlt,by simp,hg⟩ (by simp only;omega)
     simp only at hJ';rw[z6e (by simp)]at hJ'
     clear hJ hg;rw[zb3];simp -implicitDefEqProofs only[mkE,go_sem,hdl,z0j hlt,dec_lt hlt,hget];refine CO.intro (z4I σ _ _ _) ?_;have hxx:matOf ds[i]=(inD ds[i].1 1 4,nameOf ds[i].2.1,z2j ds[i].1 ds[i].2.2):=rfl;rw[hxx]at hJ';generalize inD ds[i].1 1 4=xk at hJ'⊢;generalize nameOf ds[i].2.1=xn at hJ'⊢;generalize z2j ds[i].1 ds[i].2.2=xv at hJ'⊢;simp -implicitDefEqProofs only[go_sem,z1A]
     refine Go.Ab.L.intro (α:=Unit) (fun x=>0)
      (fun x=>mkE 73 [(0,.sl 3 (ds.map dv)),(1,Bo must),(5,.sl 3 []),(6,I i),(7,.rp [I xk,Sx xn,Sx xv]),(8,I 0)]) (fun _=>σ)
      (fun x J2 hJ2=>?_) () rfl rfl
     have h1:(1≤2^32)=True:=by simp
     have h1':(1≤4294967296)=True:=by simp
     have hmv:mvs [(xk,xn,xv)]=[.agg [I xk,Sx xn,Sx xv]]:=rfl;rw[hmv]at hJ';simp -implicitDefEqProofs only[mkE,go_sem,Int.natCast_zero,Int.le_refl,Int.toNat_zero,List.take_length,List.drop_zero,List.drop_nil,z89,z6b,z6c,z88,z52,z1A,g0,s0,B_pl,B_any,z1R,B_tup,B_osl,B_ptr,B_sl0,B_mvs,B_mat,B_m1,z6d,z96,B_rp3,B_ds,B_d3,B_rpd,h1,h1',List.take_left,hbel',List.length_append,List.append_assoc,Nat.le_add_right,hws,hws];exact hJ'
   · have:i=ds.length:=by omega
     subst this;rw[List.drop_length,z0m]at hg;exact absurd hg.symm hresne
 rw[z6e hout]
 have hJ2:∀(a':{ x:Nat×List Mz // x.1≤ds.length∧x.2.length≤5∧z0m (ds.drop x.1) x.2=res }),a'.1.2≠[]→ds.length-a'.1.1<ds.length-i→J (mkE 73 [(0,.sl 3 (ds.map dv)),(1,Bo must),(5,.sl 3 (mvs a'.1.2)),(6,I a'.1.1)]) σ:=fun a' h1 h2=>by
  have:=hJ a' h2;rw[z6e h1]at this;exact this
 clear hJ;by_cases hlt:i<ds.length
 · have hget:(ds.map dv)[i]?=some (dv ds[i]):=by simp[hlt]
   have d5:decide (((out.length:Nat):Int)<5)=decide (out.length<5):=by rw[Bool.eq_iff_iff];simp only[decide_eq_true_eq];omega
   rw[List.drop_eq_getElem_cons hlt,z0m]at hg;simp -implicitDefEqProofs only[mkE,go_sem,hdl,z0j hlt,dec_lt hlt,z1A,d5];by_cases h5:out.length<5
   · rw[if_pos h5]at hg;have h5':decide (out.length<5)=true:=by simpa using h5
     have hws:IntKind.i64.wrap ((i:Int)+1)=((i+1:Nat):Int):=by rw[wrapN (by omega) (by omega)];rfl
     have hJ':=hJ2 ⟨(i+1,insM out (matOf ds[i])),hlt,by
      unfold insM;simp only;split
      · exact ho
      · simp;omega,hg⟩ (z6f _ _) (by simp only;omega)
     simp only at hJ';clear hJ2 hg;simp -implicitDefEqProofs only[go_sem,h5',hget,hdl,z0j hlt];refine CO.intro (z4I σ _ _ _) ?_;simp -implicitDefEqProofs only[go_sem,z1A];have hx:mat (inD ds[i].1 1 4) (nameOf ds[i].2.1) (z2j ds[i].1 ds[i].2.2)=mv (matOf ds[i]):=rfl;unfold insM at hJ';simp only at hJ';generalize hp:posM out (matOf ds[i]) out.length=p at hJ';have hxx:matOf ds[i]=(inD ds[i].1 1 4,nameOf ds[i].2.1,z2j ds[i].1 ds[i].2.2):=rfl;rw[hxx]at hp hJ';generalize inD ds[i].1 1 4=xk at hp hJ'⊢;generalize nameOf ds[i].2.1=xn at hp hJ'⊢;generalize z2j ds[i].1 ds[i].2.2=xv at hp hJ'⊢
     refine Go.Ab.L.intro (α:={ n:Nat // n≤out.length∧posM out (xk,xn,xv) n=p }) (fun x=>x.1)
      (fun x=>mkE 73 [(0,.sl 3 (ds.map dv)),(1,Bo must),(5,.sl 3 (mvs out)),(6,I i),(7,.rp [I xk,Sx xn,Sx xv]),(8,I x.1)]) (fun _=>σ)
      (fun x J2 hJ2=>?_) ⟨out.length,Nat.le_refl _,hp⟩ rfl rfl
     obtain⟨n,hn,hpn⟩:=x;simp only at hJ2⊢
     cases n with
     |zero =>
      rw[posM]at hpn;subst hpn;have h1:(1≤2^32)=True:=by simp
      have d00:decide ((0:Int)<((0:Nat):Int))=false:=by decide
      have hp32:(1+out.length≤2^32)=True:=by simp;omega
      have q1:(1+out.length=out.length+1)=True:=by simp;omega
      rw[show decide (0<0)=false from rfl,Bool.false_and,if_neg Bool.false_ne_true,z8a]at hJ'
      simp -implicitDefEqProofs only[mkE,go_sem,q1,d00,Int.natCast_zero,Int.le_refl,Int.toNat_zero,List.take_length,List.drop_zero,List.drop_nil,z89,z6b,z6c,z88,z52,z1A,g0,s0,B_pl,B_any,z1R,B_tup,B_osl,B_ptr,B_sl0,B_mvs,B_mat,B_m1,z6d,z96,B_rp3,B_ds,B_d3,B_rpd,hp32,h1,List.take_left,hbel',List.length_append,List.append_assoc,Nat.le_add_right,hws];exact hJ'
     |succ n =>
      have hy:=zdS out n hn;have hgd:out.getD n noM'=out[n]:=by rw[List.getD_eq_getElem?_getD,List.getElem?_eq_getElem hn];rfl
      have d0:decide ((0:Int)<((n+1:Nat):Int))=true:=by simp
      have e1:IntKind.i64.wrap (((n+1:Nat):Int)-1)=(n:Int):=by rw[wrapN (by omega) (by omega)];omega
      rw[posM,hgd]at hpn;have ha:=fun s=>zb2 s (xk,xn,xv) out[n]
      have heq:∀y:Mz,eqM y (xk,xn,xv)=(y.1==xk&&(y.2.1.toList==xn.toList&&y.2.2.toList==xv.toList)):=fun _=>rfl
      simp -implicitDefEqProofs only[mkE,go_sem,z00,d0,e1,z1A,z0j hn,hy]
      first|refine CO.intro (ha _) ?_|refine CD.intro (ha _) ?_|refine CS.intro ha ?_
      cases hb:z2q (xk,xn,xv) out[n]
      · rw[hb,if_neg Bool.false_ne_true]at hpn;subst hpn;rw[show decide (0<n+1)=true by simp,Bool.true_and,show n+1-1=n from rfl,hgd,heq]at hJ'
        have p1:(((n+1:Nat):Int)≤(out.length:Nat))=True:=by simp;omega
        have p2:(out.take (n+1)).isEmpty=false:=by
         cases h:out.take (n+1) with
         |nil =>
          have:(out.take (n+1)).length=0:=by rw[h];rfl
          rw[List.length_take]at this;omega
         |cons _ _=>rfl
        have p3:(out.take (n+1)).length=n+1:=by simp;omega
        have p4:(out.drop (n+1)).length=out.length-(n+1):=by simp
        have p5:(n+1≤2^32)=True:=by simp;omega
        have p6:(n+1+1≤2^32)=True:=by simp;omega
        have p7:(n+1+1+(out.length-(n+1))≤2^32)=True:=by simp;omega
        have q2:(n+1+1+(out.length-(n+1))=n+1+(out.length-(n+1)+1))=True:=by simp;omega
        simp -implicitDefEqProofs only[go_sem,z00,d0,e1,z1A,z0j hn,hy];cases he:(out[n].1==xk&&(out[n].2.1.toList==xn.toList&&out[n].2.2.toList==xv.toList))
        · rw[he,if_neg Bool.false_ne_true,z8a]at hJ';simp -implicitDefEqProofs only[go_sem,he,q2,Int.natCast_zero,Int.le_refl,Int.toNat_zero,List.take_length,List.drop_zero,List.drop_nil,z89,z6b,z6c,z88,z52,z1A,g0,s0,B_pl,B_any,z1R,B_tup,B_osl,B_ptr,B_sl0,B_mvs,B_mat,B_m1,z6d,z96,B_rp3,B_ds,B_d3,B_rpd,List.take_left,hbel',List.length_append,List.append_assoc,Nat.le_add_right,hws,p1,p2,p3,p4,p5,p6,p7];exact hJ'
        · rw[he,if_pos rfl]at hJ';simp -implicitDefEqProofs only[go_sem,he,hws];exact hJ'
      · rw[hb,if_pos rfl]at hpn;have hJ2':=hJ2 ⟨n,by omega,hpn⟩ (Nat.lt_succ_self n)
        simp only at hJ2';simp -implicitDefEqProofs only[mkE,go_sem,z00,d0,e1,z1A,z0j hn,hy];exact hJ2'
   · rw[if_neg h5]at hg;have h5':decide (out.length<5)=false:=by simpa using h5
     have h0:((out.length:Int)==0)=false:=by simp;omega
     subst hg
     cases must with
     |true =>
      simp -implicitDefEqProofs only[go_sem,h5',z1A,h0];exact Fini.ret rfl
     |false =>
      simp -implicitDefEqProofs only[go_sem,h5',z1A];exact Fini.ret rfl
 · have:i=ds.length:=by omega
   subst this;rw[List.drop_length,z0m]at hg
   have h0:((out.length:Int)==0)=false:=by
    cases out with
    |nil=>exact absurd rfl hout
    |cons a b=>simp;omega
   subst hg
   cases must with
   |true =>
    simp -implicitDefEqProofs only[mkE,go_sem,hdl,z2u hlt,z2v hlt,z1A,h0];exact Fini.ret rfl
   |false =>
    simp -implicitDefEqProofs only[mkE,go_sem,hdl,z2u hlt,z2v hlt,z1A];exact Fini.ret rfl
theorem z2T (must:Bool) (ds:List (Int×Int×Int)) (hl:ds.length≤9223372036854775807):Ans Tryz.prog 79 [.sl 3 (ds.map dv),Bo must] σ (.sl 3 (mvs (mustL must (z0m ds [])))) σ:=by
 cases ds with
 |cons d ds =>
  have hne:z0m (d::ds) []≠[]:=by
   rw[z0m,if_pos (by decide)]
   exact z53 ds _ (z6f _ _)
  have e:mustL must (z0m (d::ds) [])=z0m (d::ds) []:=by
   unfold mustL
   cases h:z0m (d::ds) [] with
   |nil=>exact absurd h hne
   |cons _ _=>simp
  rw[e];exact zdT σ must (d::ds) (by simp) hl
 |nil =>
  have d0:decide ((0:Int)<((0:Nat):Int))=false:=by decide
  cases must with
  |false =>
   have:Ans Tryz.prog 79 [.sl 3 (([]:List (Int×Int×Int)).map dv),Bo false] σ .nils σ:=by
    refine Ans.of_run t79 ?_;simp -implicitDefEqProofs only[c79,r79,go_sem];refine Go.Ab.L.intro (α:=Unit) (fun x=>0) (fun x=>mkE 73 [(0,.sl 3 []),(1,Bo false),(5,.nils),(6,I 0)]) (fun _=>σ) (fun x J2 hJ2=>?_) () rfl rfl
    simp -implicitDefEqProofs only[mkE,go_sem,d0];exact Fini.ret rfl
   exact this.subR (.nils 3)
  |true =>
   refine Ans.of_run' t79 (fun hbel _=>?_)
   have h1:(1≤2^32)=True:=by simp
   simp -implicitDefEqProofs only[c79,r79,go_sem];refine Go.Ab.L.intro (α:=Unit) (fun x=>0) (fun x=>mkE 73 [(0,.sl 3 []),(1,Bo true),(5,.nils),(6,I 0)]) (fun _=>σ) (fun x J2 hJ2=>?_) () rfl rfl
   have b0:(((0:Nat):Int)==0)=true:=by decide
   simp -implicitDefEqProofs only[mkE,go_sem,d0,b0,h1,g0,s0];exact Fini.trim2 (σ':=σ) rfl rfl (Nat.le_refl _) (z3s _ [(1,⟨#[115,101,118]⟩,⟨#[97]⟩)]) hbel
end
def allV:List ByteArray:=vals8++pats
instance:DecidableEq ByteArray:=fun a b=>decidable_of_iff (a.data=b.data) (by cases a;cases b;simp)
theorem zb4:∀a∈names,∀b∈names,(a.toList==b.toList||(Op.bytesLess a.toList b.toList||Op.bytesLess b.toList a.toList))=true:=by decide +kernel
theorem zcx:∀a∈allV,∀b∈allV,(a.toList==b.toList||(Op.bytesLess a.toList b.toList||Op.bytesLess b.toList a.toList))=true:=by decide +kernel
structure MOK (x:Mz):Prop where
 lo:1≤x.1
 hi:x.1≤4
 nm:x.2.1∈names
 low:x.1<3→x.2.2∈vals8
 high:¬x.1<3→x.2.2∈pats
theorem MOK.val {x:Mz} (h:MOK x):x.2.2∈allV:=by
 unfold allV;by_cases h3:x.1<3
 · exact List.mem_append_left _ (h.low h3)
 · exact List.mem_append_right _ (h.high h3)
theorem z9Q (k v:Int) (h:inD k 1 4<3):z2j k v∈vals8:=by
 unfold z2j;rw[if_pos h];split
 · simp[vals8]
 · have:=z4H v;simp[vals8,this]
theorem z8b (k v:Int) (h:¬inD k 1 4<3):z2j k v∈pats:=by
 unfold z2j;rw[if_neg h];exact zaw v
theorem z97 (d:Int×Int×Int):MOK (matOf d) :=
 ⟨(z4a d.1 1 4 (by omega)).1,(z4a d.1 1 4 (by omega)).2,z5w _,z9Q _ _,z8b _ _⟩
theorem z72 (a b:List UInt8):(a==b)=(b==a):=by rw[Bool.eq_iff_iff,beq_iff_eq,beq_iff_eq];exact eq_comm
theorem tri {x y:Mz} (hx:MOK x) (hy:MOK y) (h:z2q x y=false) (he:eqM y x=false):z2q y x=true:=by
 have h1:=zb4 _ hx.nm _ hy.nm;have h2:=zcx _ hx.val _ hy.val;unfold z2q at h⊢;unfold eqM at he;rw[z72 y.2.1.toList]at he⊢;rw[z72 y.2.2.toList]at he;cases e1:x.2.1.toList==y.2.1.toList
 · rw[e1]at h h1;simp only[Bool.not_false,if_true,Bool.false_or]at h h1⊢;rw[h]at h1;simpa using h1
 · rw[e1]at h he;simp only[Bool.not_true,Bool.false_eq_true,if_false,Bool.true_and]at h he⊢;by_cases e2:x.1=y.1
   · have n1:(x.1 != y.1)=false:=by simp[e2]
     have n2:(y.1 != x.1)=false:=by simp[e2]
     have n3:(y.1==x.1)=true:=by simp[e2]
     rw[n1]at h;rw[n3]at he;rw[n2];simp only[Bool.false_eq_true,if_false,Bool.true_and]at h he⊢;rw[he,h]at h2;simpa using h2
   · have n1:(x.1 != y.1)=true:=by simp[e2]
     have n2:(y.1 != x.1)=true:=by simp[Ne.symm e2]
     rw[n1]at h;rw[n2];simp only[if_true,decide_eq_false_iff_not,decide_eq_true_eq]at h⊢;omega
def Adj (M:List Mz):Prop:=∀i a b,M[i]?=some a→M[i+1]?=some b→z2q a b=true
theorem z73 (out:List Mz) (x:Mz):∀n,posM out x n≤n∧(0<posM out x n→z2q x (out.getD (posM out x n-1) noM')=false)∧(posM out x n<n→z2q x (out.getD (posM out x n) noM')=true)
 |0=>⟨Nat.le_refl _,fun h=>absurd h (Nat.lt_irrefl _),fun h=>absurd h (Nat.lt_irrefl _)⟩
 |n+1=>by
  rw[posM];cases h:z2q x (out.getD n noM')
  · simp only[Bool.false_eq_true,if_false];exact⟨Nat.le_refl _,fun _=>h,fun h=>absurd h (Nat.lt_irrefl _)⟩
  · simp only[if_true];obtain⟨h1,h2,h3⟩:=z73 out x n;refine⟨Nat.le_succ_of_le h1,h2,fun hlt=>?_⟩
    rcases Nat.lt_or_ge (posM out x n) n with h4|h4
    · exact h3 h4
    · have:posM out x n=n:=by omega
      rw[this];exact h
theorem zdU (out:List Mz) (x:Mz) (p:Nat) (hp:p≤out.length) (j:Nat):(out.take p++[x]++out.drop p)[j]?=if j<p then out[j]? else if j=p then some x else out[j-1]?:=by
 have hl:(out.take p).length=p:=by simp;omega
 rw[List.append_assoc];split
 · rename_i h;rw[List.getElem?_append_left (by omega),List.getElem?_take,if_pos h]
 · rename_i h;rw[List.getElem?_append_right (by omega),hl]
   split
   · rename_i h2;subst h2;simp
   · rename_i h2;rw[List.singleton_append,show j-p=(j-1-p)+1 by omega,List.getElem?_cons_succ,List.getElem?_drop]
     congr 1
     omega
theorem zb5 {out:List Mz} {i:Nat} {a:Mz} (h:out[i]?=some a):out.getD i noM'=a:=by
 rw[List.getD_eq_getElem?_getD,h];rfl
theorem zcy {out:List Mz} {x:Mz} (hx:MOK x) (ho:∀y∈out,MOK y) (ha:Adj out):Adj (insM out x):=by
 obtain⟨h1,h2,h3⟩:=z73 out x out.length;unfold insM;simp only;generalize posM out x out.length=p at h1 h2 h3;split
 · exact ha
 · rename_i hc;intro i a b hia hib;rw[zdU out x p h1]at hia hib;by_cases c1:i+1<p
   · rw[if_pos (by omega)]at hia
     rw[if_pos c1]at hib;exact ha i a b hia hib
   · by_cases c2:i+1=p
     · rw[if_pos (by omega)]at hia
       rw[if_neg c1,if_pos c2]at hib;simp only[Option.some.injEq]at hib;subst hib;have hp0:0<p:=by omega
       have hg:=zb5 hia;have h4:=h2 hp0;rw[show p-1=i by omega,hg]at h4
       have he:eqM a x=false:=by
        cases h:eqM a x
        · rfl
        · rw[show p-1=i by omega,hg,h]at hc
          simp[hp0]at hc
       exact tri hx (ho a (List.mem_of_getElem? hia)) h4 he
     · by_cases c3:i=p
       · rw[if_neg (by omega),if_pos c3]at hia
         rw[if_neg c1,if_neg c2,show i+1-1=i by omega,c3]at hib
         simp only[Option.some.injEq]at hia;subst hia;have hlt:p<out.length:=(List.getElem?_eq_some_iff.1 hib).1;have h4:=h3 hlt
         rwa [zb5 hib]at h4
       · rw[if_neg (by omega),if_neg c3]at hia
         rw[if_neg c1,if_neg c2]at hib;refine ha (i-1) a b hia ?_;rw[show i-1+1=i+1-1 by omega]
         exact hib
theorem zdV {out:List Mz} {x:Mz} (hx:MOK x) (ho:∀y∈out,MOK y):∀y∈insM out x,MOK y:=by
 unfold insM;simp only;split
 · exact ho
 · intro y hy;rcases List.mem_append.1 hy with hy|hy
   · rcases List.mem_append.1 hy with hy|hy
     · exact ho y (List.mem_of_mem_take hy)
     · simp only[List.mem_cons,List.not_mem_nil,or_false]at hy;subst hy;exact hx
   · exact ho y (List.mem_of_mem_drop hy)
theorem zcz (out:List Mz) (x:Mz):(insM out x).length≤out.length+1:=by
 unfold insM;simp only;split
 · omega
 · simp;omega
theorem zb6 (ds:List (Int×Int×Int)):∀out,out.length≤5→(∀y∈out,MOK y)→Adj out→(z0m ds out).length≤5∧(∀y∈z0m ds out,MOK y)∧Adj (z0m ds out):=by
 induction ds with
 |nil=>intro out h1 h2 h3;exact⟨h1,h2,h3⟩
 |cons d ds ih =>
  intro out h1 h2 h3;rw[z0m];split
  · have:=zcz out (matOf d);exact ih _ (by omega) (zdV (z97 d) h2) (zcy (z97 d) h2 h3)
  · exact⟨h1,h2,h3⟩
theorem zb7 (ds:List (Int×Int×Int)):(z0m ds []).length≤5∧(∀y∈z0m ds [],MOK y)∧Adj (z0m ds []) :=
 zb6 ds [] (Nat.zero_le _) (fun y hy=>by cases hy) (fun i a b h=>by simp at h)
end Go.Proofs.YtmkmhhjkdaklbaaGreat
namespace Go.Proofs.YtmkmhhjkdaklbaaGreat
open Go Go.Ab Go.Cod
set_option maxRecDepth 100000
def z1K (ns:List Int):List Lab:=if z2J (setL (labs ns)) then setL (labs ns) else[]
theorem zb8 (σ:St) (ns:List Int):Ans Tryz.prog 101 [.sl 1 (ns.map I)] σ (.sl 2 (lvs (z1K ns))) σ:=by
 refine(z9I σ ns).subR ?_;unfold setV z1K;split
 · exact .refl _
 · exact .nils 2
def bandV (b:Bool×Nat×Nat):AV:=.agg [Bo b.1,Fl b.2.1,Fl b.2.2]
theorem z1i (n:Nat) (b:Bool×Nat×Nat):Bel n (bandV b):=.agg _ fun i hi=>by
 have:∀y∈([Bo b.1,Fl b.2.1,Fl b.2.2]:List AV),Bel n y:=by
  intro y hy;simp only[List.mem_cons,List.not_mem_nil,or_false]at hy;rcases hy with rfl|rfl|rfl<;>exact .pl _
 exact this _ (List.getElem_mem hi)
def ltF (a b:Nat):Bool:=FloatKind.f64.format.order a b==some .lt
theorem zdW (a b:Nat):(FloatKind.f64.format.order a b==some .lt)=ltF a b:=rfl
def z0v (sel:Int) (lo hi:Nat):Bool×Nat×Nat :=
 if sel.tmod 3==0||(nanF lo||nanF hi) then(true,0,0) else if ltF hi lo then(false,hi,lo) else(false,lo,hi)
section
variable (σ:St)
theorem z6g (sel:Int) (lo hi:Nat):Ans Tryz.prog 80 [.agg [I sel,Fl lo,Fl hi]] σ (bandV (z0v sel lo hi)) σ:=by
 have hbb:=fun b=>z1i σ.length b
 unfold bandV at hbb⊢;refine Ans.of_run' t80 (fun hbel _=>?_)
 unfold z0v
 cases h1:(sel.tmod 3==0) with
 |true =>
  simp -implicitDefEqProofs only[c80,r80,go_sem,h1,List.append_assoc,List.length_append,g0,s0,g1,s1,Bool.true_or];exact Fini.trim2 (σ':=σ) (ex:=[_,_]) (by simp -implicitDefEqProofs only[go_sem,resA,z04,rvA,oneOf,g0]) rfl (Nat.le_refl _) (hbb (true,0,0)) hbel
 |false =>
  simp -implicitDefEqProofs only[c80,r80,go_sem,h1,List.append_assoc,List.length_append,g0,s0,g1,s1,z4r,Bool.false_or]
  cases h2:nanF lo with
  |true =>
   simp -implicitDefEqProofs only[go_sem,g0,s0,g1,s1,Bool.true_or];exact Fini.trim2 (σ':=σ) (ex:=[_,_]) (by simp -implicitDefEqProofs only[go_sem,resA,z04,rvA,oneOf,g0]) rfl (Nat.le_refl _) (hbb (true,0,0)) hbel
  |false =>
   simp -implicitDefEqProofs only[go_sem,g0,s0,g1,s1,z4r,Bool.false_or]
   cases h3:nanF hi with
   |true =>
    simp -implicitDefEqProofs only[go_sem,g0,s0,g1,s1];exact Fini.trim2 (σ':=σ) (ex:=[_,_]) (by simp -implicitDefEqProofs only[go_sem,resA,z04,rvA,oneOf,g0]) rfl (Nat.le_refl _) (hbb (true,0,0)) hbel
   |false =>
    simp -implicitDefEqProofs only[go_sem,g0,s0,g1,s1,zdW]
    cases h4:ltF hi lo with
    |true =>
     simp -implicitDefEqProofs only[go_sem,g0,s0,g1,s1];exact Fini.trim2 (σ':=σ) (ex:=[_,_]) (by simp -implicitDefEqProofs only[go_sem,resA,z04,rvA,oneOf,g0]) rfl (Nat.le_refl _) (hbb (false,hi,lo)) hbel
    |false =>
     simp -implicitDefEqProofs only[go_sem,g0,s0,g1,s1];exact Fini.trim2 (σ':=σ) (ex:=[_,_]) (by simp -implicitDefEqProofs only[go_sem,resA,z04,rvA,oneOf,g0]) rfl (Nat.le_refl _) (hbb (false,lo,hi)) hbel
end
section
variable (σ:St) (p:Nat) (b:Byt) (q:Nat×Bool)
theorem z2b (most:Nat) (hm:most<18446744073709551616) (h:σ[p]?=some (rob b q)) (hq:Inb b q) (hb:b.length≤50000) :
  Ans Tryz.prog 59 [.ptr p 0,UN most] σ (UN (runR (numR most) 0 b q).1) (σ.set p (rob b (runR (numR most) 0 b q).2)):=by
 refine Ans.of_run t59 ?_;simp -implicitDefEqProofs only[c59,r59,go_sem];refine CO.intro (z0P σ p b q h hq) ?_;simp -implicitDefEqProofs only[go_sem];refine CO.intro (z95 σ (b.drop q.1) (by rw[List.length_drop];omega)) ?_
 obtain⟨a,bad⟩:=q;simp only at hq h⊢;have hq:a≤b.length:=hq
 cases hg:getN 0 (b.drop a) with
 |none =>
  have hR:numR most (b.drop a)=none:=by simp only[numR,hg,Option.bind_none]
  have ht:=z0Q σ p b (a,bad) 0 false h (by simp only;omega)
  have ht:Ans Tryz.prog 113 [.ptr p 0,I 0,Bo false] σ (Bo false) (σ.set p (rob b (a,true))):=by
   have e:took (a,bad) 0 false=(a,true):=by cases bad<;>rfl
   rw[e]at ht;exact ht
  rw[z3L hg];simp -implicitDefEqProofs only[go_sem];refine CO.intro ht ?_;simp -implicitDefEqProofs only[go_sem]
  cases bad with
  |true=>rw[z0z];exact Fini.ret rfl
  |false=>rw[z0T hR];exact Fini.ret rfl
 |some x =>
  obtain⟨n,t⟩:=x;rw[z4Y hg];have hl:=zct hg;rw[List.length_drop]at hl;have e1:decide ((n:Int)≤most)=decide (n≤most):=intle n most;have ht:=z0Q σ p b (a,bad) ((b.drop a).length-t.length) (decide (n≤most)) h (by simp only[List.length_drop];omega)
  by_cases h1:n≤most
  · have x1:decide (n≤most)=true:=decide_eq_true h1;rw[x1]at ht;have hR:numR most (b.drop a)=some (n,t):=by simp only[numR,hg,Option.bind_some,h1,if_true]
    simp -implicitDefEqProofs only[go_sem,e1,x1];refine CO.intro ht ?_
    cases bad with
    |true =>
     have e:took (a,true) ((b.drop a).length-t.length) true=(a,true):=rfl;rw[e,z0z];simp -implicitDefEqProofs only[go_sem];exact Fini.ret rfl
    |false =>
     have e:took (a,false) ((b.drop a).length-t.length) true=(b.length-t.length,false):=by
      simp only[took,Bool.false_or,Bool.not_true,Bool.false_eq_true,if_false,List.length_drop];congr 1;omega
     rw[e,z0E hR];simp -implicitDefEqProofs only[go_sem];exact Fini.ret rfl
  · have x1:decide (n≤most)=false:=decide_eq_false h1;rw[x1]at ht;have hR:numR most (b.drop a)=none:=by simp only[numR,hg,Option.bind_some,h1,if_false]
    have e:took (a,bad) ((b.drop a).length-t.length) false=(a,true):=by cases bad<;>rfl
    rw[e]at ht;simp -implicitDefEqProofs only[go_sem,e1,x1];refine CO.intro ht ?_;simp -implicitDefEqProofs only[go_sem]
    cases bad with
    |true=>rw[z0z];exact Fini.ret rfl
    |false=>rw[z0T hR];exact Fini.ret rfl
theorem z2B (most:Nat) (hm:most<9223372036854775808) (h:σ[p]?=some (rob b q)) (hq:Inb b q) (hb:b.length≤50000) :
  Ans Tryz.prog 60 [.ptr p 0,I most] σ (Sx (runR (textR most) ⟨#[]⟩ b q).1) (σ.set p (rob b (runR (textR most) ⟨#[]⟩ b q).2)):=by
 refine Ans.of_run t60 ?_;simp -implicitDefEqProofs only[c60,r60,go_sem];refine CO.intro (z0P σ p b q h hq) ?_;simp -implicitDefEqProofs only[go_sem];refine CO.intro (z87 σ (b.drop q.1) most (by rw[List.length_drop];omega) hm) ?_
 obtain⟨a,bad⟩:=q;simp only at hq h⊢;have hq:a≤b.length:=hq
 cases hg:textR most (b.drop a) with
 |none =>
  have ht:=z0Q σ p b (a,bad) 0 false h (by simp only;omega)
  have ht:Ans Tryz.prog 113 [.ptr p 0,I 0,Bo false] σ (Bo false) (σ.set p (rob b (a,true))):=by
   have e:took (a,bad) 0 false=(a,true):=by cases bad<;>rfl
   rw[e]at ht;exact ht
  rw[z38 hg];simp -implicitDefEqProofs only[go_sem];refine CO.intro ht ?_;simp -implicitDefEqProofs only[go_sem]
  cases bad with
  |true=>rw[z0z];exact Fini.ret rfl
  |false=>rw[z0T hg];exact Fini.ret rfl
 |some x =>
  obtain⟨n,t⟩:=x;rw[z5F hg];have hl:=((z1I (most:=most) (by omega)).rest hg).1
  rw[List.length_drop]at hl;have ht:=z0Q σ p b (a,bad) ((b.drop a).length-t.length) true h (by simp only[List.length_drop];omega)
  simp -implicitDefEqProofs only[go_sem];refine CO.intro ht ?_
  cases bad with
  |true =>
   have e:took (a,true) ((b.drop a).length-t.length) true=(a,true):=rfl;rw[e,z0z];simp -implicitDefEqProofs only[go_sem];exact Fini.ret rfl
  |false =>
   have e:took (a,false) ((b.drop a).length-t.length) true=(b.length-t.length,false):=by
    simp only[took,Bool.false_or,Bool.not_true,Bool.false_eq_true,if_false,List.length_drop];congr 1;omega
   rw[e,z0E hg];simp -implicitDefEqProofs only[go_sem];exact Fini.ret rfl
theorem z0X (h:σ[p]?=some (rob b q)) (hq:Inb b q) (hb:b.length≤50000) :
  Ans Tryz.prog 83 [.ptr p 0] σ (bc (runR byteR 0 b q).1) (σ.set p (rob b (runR byteR 0 b q).2)):=by
 refine Ans.of_run t83 ?_;simp -implicitDefEqProofs only[c83,r83,go_sem];refine CO.intro (z0P σ p b q h hq) ?_;obtain⟨a,bad⟩:=q;simp only at hq h⊢;have hq:a≤b.length:=hq
 cases hg:b.drop a with
 |nil =>
  have hR:byteR (b.drop a)=none:=by rw[hg];rfl
  have d0:decide ((0:Int)<((0:Nat):Int))=false:=by simp
  have ht:=z0Q σ p b (a,bad) 1 false h (by simp only;omega)
  have e:took (a,bad) 1 false=(a,true):=by cases bad<;>rfl
  rw[e]at ht;simp -implicitDefEqProofs only[go_sem,zdQ,d0];refine CO.intro ht ?_;simp -implicitDefEqProofs only[go_sem]
  cases bad with
  |true=>rw[z0z];exact Fini.ret rfl
  |false=>rw[z0T hR];exact Fini.ret rfl
 |cons c t =>
  have hR:byteR (b.drop a)=some (c,t):=by rw[hg];rfl
  have hl:b.length-a=t.length+1:=by rw[←List.length_drop,hg];rfl
  have d0:decide ((0:Int)<(((byv t).length+1:Nat):Int))=true:=by simp
  have ht:=z0Q σ p b (a,bad) 1 true h (by simp only;omega)
  simp -implicitDefEqProofs only[go_sem,z69,d0];refine CO.intro ht ?_
  cases bad with
  |true =>
   have e:took (a,true) 1 true=(a,true):=rfl;rw[e,z0z];simp -implicitDefEqProofs only[go_sem];exact Fini.ret rfl
  |false =>
   have e:took (a,false) 1 true=(b.length-t.length,false):=by
    simp only[took,Bool.false_or,Bool.not_true,Bool.false_eq_true,if_false];congr 1;omega
   rw[e,z0E hR];simp -implicitDefEqProofs only[go_sem,bc,Int.toNat_zero];exact Fini.ret rfl
theorem z08 (ok:Bool) (h:σ[p]?=some (rob b q)) (hq:Inb b q) (hb:b.length≤50000) :
  Ans Tryz.prog 61 [.ptr p 0,Bo ok] σ (.tup []) (σ.set p (rob b (took q 0 ok))):=by
 have hq:q.1≤b.length:=hq;refine Ans.of_run t61 ?_;simp -implicitDefEqProofs only[c61,r61,go_sem];refine CO.intro (z0Q σ p b q 0 ok h (by omega)) ?_
 simp -implicitDefEqProofs only[go_sem];exact Fini.normal rfl
theorem z2U (h:σ[p]?=some (rob b q)):Ans Tryz.prog 62 [.ptr p 0] σ (.tup [I (if q.2 then 0 else q.1:Nat),Bo !q.2]) σ:=by
 obtain⟨a,bad⟩:=q;refine Ans.of_run t62 ?_
 cases bad with
 |true =>
  simp -implicitDefEqProofs only[c62,r62,go_sem,h];exact Fini.ret rfl
 |false =>
  simp -implicitDefEqProofs only[c62,r62,go_sem,h];exact Fini.ret rfl
end
def mkM (x:UInt8×ByteArray×ByteArray):Mtr:=((x.1.toNat:Int),x.2.1,x.2.2)
def mtrR:Rd Mtr:=z1h (seqR byteR (seqR (textR 12) (textR 40))) mkM
def listR:Rd (List Mtr):=onlyR (rowR 5 mtrR) listB
def putM (x:Mtr):Byt:=x.1.toNat.toUInt8::(txtB x.2.1++txtB x.2.2)
def putL (M:List Mtr):Byt:=z1T putM M
theorem z98:EndsR mtrR:=z12 (z1l ends_byte (z1l (z1J 12) (z1J 40))) _
theorem ends_list:EndsR listR:=z3M (zcv z98 5) _
theorem zcA:Fits mtrR putM (fun x=>0≤x.1∧x.1<256∧x.2.1.size≤12∧x.2.2.size≤40):=by
 refine dress_fits (z0G byte_fits (z0G (z1I (by decide)) (z1I (by decide)))) (g:=fun x=>(x.1.toNat.toUInt8,x.2.1,x.2.2)) ?_ ?_
 · rintro⟨c,n,v⟩ ⟨_,h1,h2⟩;have:=c.toNat_lt;refine⟨⟨by simp only[mkM];omega,by simp only[mkM];omega,h1,h2⟩,?_⟩
   simp only[putM,mkM,Int.toNat_natCast,toUInt8_toNat];rfl
 · rintro⟨k,n,v⟩ ⟨h0,h1,h2,h3⟩;refine⟨⟨trivial,h2,h3⟩,?_⟩;simp only at h0 h1;have:(k.toNat.toUInt8.toNat:Int)=k:=by rw[toNat_toUInt8 (by omega)];omega
   simp only[mkM,this]
theorem z8c {s:ByteArray} (h:(z3d s).2=true):s.size≤40:=by
 unfold z3d at h;rcases Nat.lt_or_ge 40 s.size with h40|h40
 · exfalso
   have:=(zaQ s 8 0 true).2 rfl;simp[h40,this]at h
 · exact h40
theorem z99 {k:Int} {nm v:ByteArray} (h:isB k nm v=true):(1≤k∧k≤4)∧nm.size≤12∧v.size≤40:=by
 unfold isB nameB at h;simp only[Bool.and_eq_true,decide_eq_true_eq]at h;obtain⟨⟨⟨⟨_,hn⟩,_⟩,_⟩,h2⟩:=h;split at h2
 · rename_i hl;unfold likeB at hl;simp only[Bool.or_eq_true,beq_iff_eq]at hl;exact⟨by omega,hn,z8c h2⟩
 · simp only[Bool.and_eq_true,Bool.or_eq_true,beq_iff_eq,decide_eq_true_eq]at h2;exact⟨by omega,hn,by omega⟩
theorem z2r:Fits listR putL (fun M=>listB M=true):=by
 refine(z2n (z68 (by decide) zcA) listB).weaken fun M=>⟨fun h=>h.2,fun h=>⟨?_,h⟩⟩
 unfold listB at h;simp only[Bool.and_eq_true,decide_eq_true_eq]at h;refine⟨h.1,fun x hx=>?_⟩
 obtain⟨i,hi,rfl⟩:=List.getElem_of_mem hx;have h2:=List.all_eq_true.1 h.2 i (List.mem_range.2 hi);unfold okL isM at h2;simp only[Bool.and_eq_true]at h2;have e:M.getD i noM3=M[i]:=by rw[List.getD_eq_getElem?_getD,List.getElem?_eq_getElem hi];rfl
 rw[e]at h2;have:=z99 h2.1;omega
def mtrS (b:Byt) (q:Nat×Bool):Mtr×(Nat×Bool):=z1r (seqSt (runR byteR 0 b) (seqSt (runR (textR 12) ⟨#[]⟩ b) (runR (textR 40) ⟨#[]⟩ b))) mkM q
theorem z54 (b:Byt):StepsR b mtrR (mtrS b):=z0F (z0u (z0d b byteR 0) (z0u (z0d b _ _) (z0d b _ _) (z1J 12)) ends_byte) _
def listS (b:Byt):Nat×Bool→List Mtr×(Nat×Bool):=z0y (rowSt 5 b (mtrS b)) listB
theorem z9R (b:Byt):StepsR b listR (listS b):=z0I (z50 (z54 b) z98 5) _
def readV {α:Type} (r:Option (α×Byt)) (b:Byt) (enc:α→AV) (none_:AV):AV:=match r with
 |some p=>.tup [enc p.1,I (b.length-p.2.length:Nat),Bo true]
 |none=>.tup [none_,I 0,Bo false]
theorem z2c {most:Nat} (b:Byt) (q:Nat×Bool):(runR (numR most) 0 b q).1≤most:=by
 unfold runR;split
 · exact Nat.zero_le _
 · split
   · exact Nat.zero_le _
   · rename_i p h;simp only[numR]at h
     cases hg:getN 0 (b.drop q.1) with
     |none=>simp[hg]at h
     |some x =>
      simp only[hg,Option.bind_some]at h;split at h
      · simp only[Option.some.injEq]at h;rw[←h];assumption
      · cases h
theorem zb9 (M:List Mtr) (x:Mtr):mvs3 M++[mv3 x]=mvs3 (M++[x]):=by simp[mvs3]
theorem z16 {n:Nat} {x:AV} {i:Int} {c:Bool} (h:Bel n x):Bel n (.tup [x,I i,Bo c]):=.tup _ fun j hj=>by
 have:∀y∈([x,I i,Bo c]:List AV),Bel n y:=by
  intro y hy;simp only[List.mem_cons,List.not_mem_nil,or_false]at hy;rcases hy with rfl|rfl|rfl
  · exact h
  · exact .pl _
  · exact .pl _
 exact this _ (List.getElem_mem hj)
theorem z9S (σ:St) (b:Byt) (hb:b.length≤50000):Ans Tryz.prog 56 [.sl 1 (byv b)] σ (readV (listR b) b (fun M=>.sl 3 (mvs3 M)) .nils) σ:=by
 have hS:=(z9R b).top;refine Ans.of_run' t56 (fun hbel _=>?_)
 simp -implicitDefEqProofs only[c56,r56,go_sem];refine CO.intro (z42 σ b) ?_;simp -implicitDefEqProofs only[go_sem,List.append_assoc,List.length_append];generalize hq1:runR (numR 5) 0 b (0,false)=q1;have hin0:Inb b (0,false):=Nat.zero_le _;have hn:=z2b (σ++[rob b (0,false),.row 3 []]) σ.length b (0,false) 5 (by decide) (g0 _ _ _) hin0 hb
 rw[hq1,s0]at hn;refine CO.intro hn ?_;have hn5:q1.1≤5:=by rw[←hq1];exact z2c b _
 have hin1:Inb b q1.2:=by rw[←hq1];exact z0b _ _ _ _ hin0
 simp -implicitDefEqProofs only[go_sem];refine Go.Ab.L.count q1.1 (fun i=>mkE 40 [(5,.ptr σ.length 0),(6,.osl (σ.length+1) i),(12,UN q1.1),(13,UN i)]) (fun i=>σ++[rob b (itSt (mtrS b) q1.2 i).2,.row 3 (mvs3 (itSt (mtrS b) q1.2 i).1)]) ?_ ?_ rfl rfl
 · intro i hi J hJ;have hitI:=z1O (z54 b).inb q1.2 hin1 i;have hlen:=z2z (mtrS b) q1.2 i;simp only[itSt]at hJ;generalize itSt (mtrS b) q1.2 i=c at hJ hitI hlen⊢;obtain⟨l,q⟩:=c;simp only at hJ hitI hlen⊢;have d0:decide ((i:Int)<q1.1)=true:=dec_lt hi;have w0:=z1N (n:=i+1) (by omega)
   have e0:((i:Int)+1)=((i+1:Nat):Int):=rfl;unfold mtrS z1r seqSt at hJ;simp only at hJ;simp -implicitDefEqProofs only[mkE,go_sem,d0];have h1:=z0X (σ++[rob b q,.row 3 (mvs3 l)]) σ.length b q (g0 _ _ _) hitI hb;have hi2:=z0b byteR 0 b q hitI;generalize runR byteR 0 b q=r1 at h1 hi2 hJ;rw[s0]at h1;refine CO.intro h1 ?_;have h2:=z2B (σ++[rob b r1.2,.row 3 (mvs3 l)]) σ.length b r1.2 12 (by decide) (g0 _ _ _) hi2 hb
   have hi3:=z0b (textR 12) ⟨#[]⟩ b r1.2 hi2;generalize runR (textR 12) ⟨#[]⟩ b r1.2=r2 at h2 hi3 hJ;rw[s0]at h2;simp -implicitDefEqProofs only[go_sem,bc];refine CO.intro h2 ?_;have h3:=z2B (σ++[rob b r2.2,.row 3 (mvs3 l)]) σ.length b r2.2 40 (by decide) (g0 _ _ _) hi3 hb
   generalize runR (textR 40) ⟨#[]⟩ b r2.2=r3 at h3 hJ;rw[s0]at h3;simp -implicitDefEqProofs only[go_sem];refine CO.intro h3 ?_;have hl:(mvs3 l).length=i:=by rw[z0t,hlen]
   have hw:IntKind.i64.wrap (r1.1.toNat:Int)=(r1.1.toNat:Int):=wrapI (by have:=r1.1.toNat_lt;omega)
   have hle:i+1≤4294967296:=by omega
   have hsn:=zb9 l (mkM (r1.1,r2.1,r3.1));simp -implicitDefEqProofs only[go_sem,hw,g1,s1,hl,hle,List.length_singleton,e0,w0];rw[←hsn]at hJ;exact hJ
 · intro J;have hitI:=z1O (z54 b).inb q1.2 hin1 q1.1;have hlen:=z2z (mtrS b) q1.2 q1.1
   have hL:listS b (0,false)=((itSt (mtrS b) q1.2 q1.1).1,took (itSt (mtrS b) q1.2 q1.1).2 0 (listB (itSt (mtrS b) q1.2 q1.1).1)):=by
    unfold listS z0y rowSt;rw[hq1]
   rw[hL]at hS;generalize itSt (mtrS b) q1.2 q1.1=c at hS hitI hlen⊢;obtain⟨l,q⟩:=c;simp only at hS hitI hlen⊢;have hl:(mvs3 l).length=q1.1:=by rw[z0t,hlen]
   have d0:decide ((q1.1:Int)<q1.1)=false:=by simp
   simp -implicitDefEqProofs only[mkE,go_sem,d0,g1,s1,hl];refine CO.intro (z14 _ l) ?_;have h2:=z08 (σ++[rob b q,.dead]) σ.length b q (listB l) (g0 _ _ _) hitI hb;rw[s0]at h2;simp -implicitDefEqProofs only[go_sem];refine CO.intro h2 ?_;have h3:=z2U (σ++[rob b (took q 0 (listB l)),.dead]) σ.length b (took q 0 (listB l)) (g0 _ _ _);simp -implicitDefEqProofs only[go_sem];refine CO.intro h3 ?_;have hbm:Bel σ.length (.sl 3 (mvs3 l)):=z0h _ _
   cases hr:listR b with
   |none =>
    have hb2:=hS.2 hr;rw[hb2];simp -implicitDefEqProofs only[go_sem];exact Fini.trim2 (σ':=σ) rfl rfl (Nat.le_refl _) (by unfold readV;exact z16 .nils) hbel
   |some p =>
    obtain⟨M,t⟩:=p;have hb2:=hS.1 M t hr;simp only[Prod.mk.injEq]at hb2;obtain⟨rfl,hb2⟩:=hb2;rw[hb2];simp -implicitDefEqProofs only[go_sem];refine Fini.trim2 (σ':=σ) rfl rfl (Nat.le_refl _) ?_ hbel;unfold readV;exact z16 hbm
theorem z74 (σ:St) (b:Byt) (hb:b.length≤50000):Ans Tryz.prog 56 [.sl 1 (byv b)] σ (readV (listR b) b (fun M=>.sl 3 (mvs3 M)) (.sl 3 [])) σ:=by
 refine(z9S σ b hb).subR ?_;unfold readV
 cases listR b with
 |none=>exact .tup (.cons (.nils 3) (.refl _))
 |some p=>exact .refl _
theorem z1m (s:ByteArray) (h:s.size≤1000000):(txtB s).length≤10+s.size:=by
 have h10:=z0w (n:=s.size) (by omega)
 rw[txtB,List.length_append,z1S];omega
theorem z2C {M:List Mtr} (h:listB M=true):M.length≤5∧∀x∈M,(1≤x.1∧x.1≤4)∧x.2.1.size≤12∧x.2.2.size≤40:=by
 unfold listB at h;simp only[Bool.and_eq_true,decide_eq_true_eq]at h;refine⟨h.1,fun x hx=>?_⟩
 obtain⟨i,hi,rfl⟩:=List.getElem_of_mem hx;have h2:=List.all_eq_true.1 h.2 i (List.mem_range.2 hi);unfold okL isM at h2;simp only[Bool.and_eq_true]at h2;have e:M.getD i noM3=M[i]:=by rw[List.getD_eq_getElem?_getD,List.getElem?_eq_getElem hi];rfl
 rw[e]at h2;exact z99 h2.1
def preL (M:List Mtr) (i:Nat):Byt:=putN M.length++z0O putM (M.take i)
theorem z75 (M:List Mtr) (i:Nat) (h:i<M.length):preL M (i+1)=preL M i++putM M[i]:=by
 unfold preL z0O;rw[List.take_succ_eq_append_getElem h,List.flatMap_append,List.append_assoc];simp
theorem z6h (M:List Mtr):preL M M.length=putL M:=by unfold preL putL z1T;rw[List.take_length]
theorem z6i {M:List Mtr} (h:listB M=true):∀i,i≤M.length→(preL M i).length≤10+100*i
 |0,_=>by
  have:=(z2C h).1;unfold preL z0O;simp only[List.take_zero,List.flatMap_nil,List.append_nil];have:=z0w (n:=M.length) (by omega)
  omega
 |i+1,hi=>by
  have ih:=z6i h i (by omega)
  have hx:=(z2C h).2 M[i] (List.getElem_mem (by omega))
  have h1:=z1m (M[i]).2.1 (by omega)
  have h2:=z1m (M[i]).2.2 (by omega)
  rw[z75 M i (by omega),List.length_append]
  unfold putM;simp only[List.length_cons,List.length_append];omega
def z0B (M:List Mtr):Byt:=if listB M then putL M else[]
theorem zdX {k:Int} (h:1≤k∧k≤4):IntKind.u8.wrap k=((k.toNat.toUInt8.toNat:Nat):Int):=by
 obtain⟨n,rfl⟩:=Int.eq_ofNat_of_zero_le (show 0≤k by omega)
 have:n<256:=by omega
 rw[z93,Nat.mod_eq_of_lt this,Int.toNat_natCast,toNat_toUInt8 this]
section
variable (σ:St)
theorem z43 (M:List Mtr):Ans Tryz.prog 69 [.sl 3 (mvs3 M)] σ (.sl 1 (byv (z0B M))) σ:=by
 unfold z0B
 cases hL:listB M with
 |false =>
  have:Ans Tryz.prog 69 [.sl 3 (mvs3 M)] σ .nils σ:=by
   refine Ans.of_run t69 ?_;simp -implicitDefEqProofs only[c69,r69,go_sem];refine CO.intro (z14 σ M) ?_;rw[hL];simp -implicitDefEqProofs only[go_sem];exact Fini.ret rfl
  exact this.subR (.nils 1)
 |true =>
  obtain⟨h5,hM⟩:=z2C hL;have hpl:=z6i hL;have hw:=z1N (n:=M.length) (by omega)
  have e00:preL M 0=putN M.length:=by simp[preL,z0O]
  refine Ans.of_run' t69 (fun hbel _=>?_)
  simp -implicitDefEqProofs only[c69,r69,go_sem];refine CO.intro (z14 σ M) ?_;rw[hL];simp -implicitDefEqProofs only[go_sem,z0t,hw];refine CO.intro (z6a σ M.length (by omega)) ?_
  simp -implicitDefEqProofs only[go_sem,z0t];refine Go.Ab.L.count M.length (fun i=>mkE 37 [(3,.osl σ.length (preL M i).length),(13,.sl 3 (mvs3 M)),(14,I M.length),(15,I i)]) (fun i=>σ++[.row 1 (byv (preL M i))]) ?_ ?_ (by rw[e00];rfl) (by rw[e00])
  · intro i hi J hJ;have hx:=z8W M i hi;have hxm:=hM M[i] (List.getElem_mem hi);have hp:=hpl (i+1) (by omega)
    rw[z75 M i hi]at hJ hp;generalize M[i]=x at hx hxm hJ hp;obtain⟨k,nm,v⟩:=x;simp only at hxm;generalize preL M i=pre at hJ hp⊢;have hkb:=zdX hxm.1;have hin:=wrap_succ (i:=i) (by omega)
    have h1:=z1m nm (by omega)
    have h2:=z1m v (by omega)
    unfold putM at hJ hp;simp only[List.length_append,List.length_cons]at hp;have l1:pre.length+1≤4294967296:=by omega
    have l2:pre.length+1+(txtB nm).length≤4294967296:=by omega
    have l3:pre.length+1+(txtB nm).length+(txtB v).length≤4294967296:=by omega
    simp -implicitDefEqProofs only[mkE,go_sem,z0t,z0j hi,dec_lt hi,hx,mv3,hkb,g0,s0,z06,l1,List.length_singleton];refine CO.intro (z1y _ nm (by omega)) ?_
    simp -implicitDefEqProofs only[go_sem,g0,s0,z06,z15,bc,l1,l2,List.length_append,List.length_singleton];refine CO.intro (z1y _ v (by omega)) ?_
    simp -implicitDefEqProofs only[go_sem,g0,s0,z06,z15,bc,l1,l2,l3,List.length_append,List.length_singleton,hin];have e:pre++k.toNat.toUInt8::(txtB nm++txtB v)=pre++[k.toNat.toUInt8]++txtB nm++txtB v:=by simp
    simp only at hJ;rw[e]at hJ;simp only[z0Z,List.length_append,List.length_singleton]at hJ;exact hJ
  · intro J;have d0:decide ((M.length:Int)<M.length)=false:=by simp
    simp -implicitDefEqProofs only[mkE,go_sem,d0,g0,s0,z06];exact Fini.trim2 (σ':=σ) (by rw[z6h];rfl) rfl (Nat.le_refl _) (by first|exact z1x _ _|(rw[z6h];exact z1x _ _)) hbel
end
def okV (u:Nat):Bool:=decide (bitsF u=u)
def valR:Rd Nat:=onlyR wordR okV
def putV (u:Nat):Byt:=wrdB (bitsF u)
theorem val_fits:Fits valR putV (fun u=>u<2^64∧bitsF u=u):=by
 have h:=z2n zaW okV;refine⟨fun a t ho=>?_,fun b a t hr=>?_⟩
 · have:=h.fwd a t ⟨ho.1,by unfold okV;exact decide_eq_true ho.2⟩
   unfold putV;rw[ho.2];exact this
 · obtain⟨⟨h1,h2⟩,h3⟩:=h.bwd b a t hr;have h2:bitsF a=a:=by unfold okV at h2;exact of_decide_eq_true h2
   exact⟨⟨h1,h2⟩,by unfold putV;rw[h2];exact h3⟩
theorem z6j:EndsR valR:=val_fits.ends
abbrev Bnd:=Bool×Nat×Nat
def bnd0:Rd Bnd
 |[]=>none
 |c::t=>if c=0 then(seqR valR valR t).map (fun p=>((false,p.1.1,p.1.2),p.2)) else if c=1 then some ((true,0,0),t) else none
def bandR:Rd Bnd:=onlyR bnd0 (fun x=>mayB x.1 x.2.1 x.2.2)
def putBd (x:Bnd):Byt:=if x.1 then[1] else 0::(putV x.2.1++putV x.2.2)
def bndOk (x:Bnd):Prop:=if x.1 then x.2.1=0∧x.2.2=0 else(x.2.1<2^64∧bitsF x.2.1=x.2.1)∧(x.2.2<2^64∧bitsF x.2.2=x.2.2)
theorem zba:Fits bnd0 putBd bndOk where
 fwd x t h:=by
  obtain⟨any,lo,hi⟩:=x
  cases any with
  |true =>
   obtain⟨rfl,rfl⟩:lo=0∧hi=0:=h;rfl
  |false =>
   have h:(lo<2^64∧bitsF lo=lo)∧(hi<2^64∧bitsF hi=hi):=h;have h2:=(z0G val_fits val_fits).fwd (lo,hi) t h;simp only at h2;simp only[putBd,Bool.false_eq_true,if_false,bnd0,List.cons_append,if_true,h2,Option.map_some]
 bwd b x t hr:=by
  cases b with
  |nil=>cases hr
  |cons c u =>
   simp only[bnd0]at hr;split at hr
   · rename_i hc
     cases h1:seqR valR valR u with
     |none=>simp[h1]at hr
     |some p =>
      simp only[h1,Option.map_some,Option.some.injEq,Prod.mk.injEq]at hr;obtain⟨rfl,rfl⟩:=hr;obtain⟨h2,h3⟩:=(z0G val_fits val_fits).bwd _ _ _ h1;refine⟨h2,?_⟩;rw[h3,hc];rfl
   · split at hr
     · rename_i hc;simp only[Option.some.injEq,Prod.mk.injEq]at hr;obtain⟨rfl,rfl⟩:=hr;exact⟨⟨rfl,rfl⟩,by rw[hc];rfl⟩
     · cases hr
def bMay (x:Bnd):Bool:=mayB x.1 x.2.1 x.2.2
def bSz (x:Bnd):Prop:=x.2.1<2^64∧x.2.2<2^64
theorem z9T {a b:Nat} (h:leF a b=true):nanF a=false∧nanF b=false:=by
 unfold leF Ieee.Format.order at h;unfold nanF Ieee.Format.order;generalize FloatKind.f64.format.read a=x at *;generalize FloatKind.f64.format.read b=y at *
 cases x with
 |nan s m=>simp[Ieee.Datum.order]at h
 |infinity s =>
  cases y with
  |nan t n=>simp[Ieee.Datum.order]at h
  |infinity t=>cases s<;>cases t<;>simp[Ieee.Datum.order]at h⊢
  |number t n j=>cases s<;>simp[Ieee.Datum.order]at h⊢
 |number s m i =>
  cases y with
  |nan t n=>simp[Ieee.Datum.order]at h
  |infinity t=>cases t<;>simp[Ieee.Datum.order]at h⊢
  |number t n j=>simp[Ieee.Datum.order]
theorem z76 {a:Nat} (h:nanF a=false):bitsF a=a:=by unfold bitsF;rw[h];rfl
theorem z44 {a:Nat} (h:bitsF a=0):a=0:=by
 unfold bitsF at h;split at h
 · cases h
 · exact h
theorem zdh {x:Bnd} (h:bMay x=true) (w:bSz x):bndOk x:=by
 obtain⟨any,lo,hi⟩:=x;unfold bMay mayB at h
 cases any with
 |true =>
  simp only[if_true,Bool.and_eq_true,beq_iff_eq]at h;exact⟨z44 (Int.ofNat.inj h.1),z44 (Int.ofNat.inj h.2)⟩
 |false =>
  obtain⟨h1,h2⟩:=z9T h;exact⟨⟨w.1,z76 h1⟩,⟨w.2,z76 h2⟩⟩
theorem ok_sz {x:Bnd} (h:bndOk x):bSz x:=by
 obtain⟨any,lo,hi⟩:=x
 cases any with
 |true =>
  obtain⟨rfl,rfl⟩:lo=0∧hi=0:=h;exact⟨by decide,by decide⟩
 |false =>
  have h:(lo<2^64∧bitsF lo=lo)∧(hi<2^64∧bitsF hi=hi):=h;exact⟨h.1.1,h.2.1⟩
theorem band_fits:Fits bandR putBd (fun x=>bMay x=true∧bSz x) :=
 (z2n zba bMay).weaken fun x=>⟨fun h=>⟨h.2,ok_sz h.1⟩,fun h=>⟨zdh h.1 h.2,h.1⟩⟩
theorem ends_band:EndsR bandR:=band_fits.ends
def mkRu (x:List Mtr×List Mtr×Bnd×List ByteArray):RuM:=⟨x.1,x.2.1,x.2.2.1.1,x.2.2.1.2.1,x.2.2.1.2.2,x.2.2.2⟩
def ruR0:Rd RuM:=z1h (seqR listR (seqR listR (seqR bandR (rowR 4 (textR 12))))) mkRu
def ruR:Rd RuM:=onlyR ruR0 ruIs
def putR (r:RuM):Byt:=putL r.src++(putL r.tgt++(putBd (r.any,r.lo,r.hi)++z1T txtB r.eq))
def ruSz (r:RuM):Prop:=r.lo<2^64∧r.hi<2^64
theorem zcB:Fits ruR0 putR (fun r=>listB r.src=true∧listB r.tgt=true∧(mayB r.any r.lo r.hi=true∧ruSz r)∧(r.eq.length≤4∧∀a∈r.eq,a.size≤12)) :=
 dress_fits (z0G z2r (z0G z2r (z0G band_fits (z68 (by decide) (z1I (by decide)))))) (g:=fun r=>(r.src,r.tgt,(r.any,r.lo,r.hi),r.eq))
  (fun _ h=>⟨h,rfl⟩) (fun _ h=>⟨h,rfl⟩)
theorem z5G {s:ByteArray} (h:nameB s=true):s.size≤12:=by
 unfold nameB at h;simp only[Bool.and_eq_true,decide_eq_true_eq]at h;exact h.1.1.2
theorem zeS {e:List ByteArray} (h:eqB e=true):e.length≤4∧∀a∈e,a.size≤12:=by
 unfold eqB at h;simp only[Bool.and_eq_true,decide_eq_true_eq]at h;refine⟨h.1,fun a ha=>?_⟩
 obtain⟨i,hi,rfl⟩:=List.getElem_of_mem ha;have h2:=List.all_eq_true.1 h.2 i (List.mem_range.2 hi);unfold eqOk at h2;simp only[Bool.and_eq_true]at h2;have e2:e.getD i ⟨#[]⟩=e[i]:=by rw[List.getD_eq_getElem?_getD,List.getElem?_eq_getElem hi];rfl
 rw[e2]at h2;exact z5G h2.1
theorem z1t {r:RuM} (h:ruIs r=true):listB r.src=true∧listB r.tgt=true∧mayB r.any r.lo r.hi=true∧(r.eq.length≤4∧∀a∈r.eq,a.size≤12):=by
 unfold ruIs at h;simp only[Bool.and_eq_true]at h;exact⟨h.2.2.1,h.2.2.2.1,h.2.2.2.2.1,zeS h.2.2.2.2.2⟩
theorem ru_fits:Fits ruR putR (fun r=>ruIs r=true∧ruSz r) :=
 (z2n zcB ruIs).weaken fun r=>⟨fun h=>⟨h.2,h.1.2.2.1.2⟩,fun h=>⟨⟨(z1t h.1).1,(z1t h.1).2.1,⟨(z1t h.1).2.2.1,h.2⟩,(z1t h.1).2.2.2⟩,h.1⟩⟩
theorem ends_ru:EndsR ruR:=ru_fits.ends
theorem zbb {α:Type} {b:Byt} {rd:Rd α} {st st':Nat×Bool→α×(Nat×Bool)} (h:StepsR b rd st) (h2:∀q,(st' q).2=(st q).2) (h3:∀q,(st q).2.2=false→st' q=st q):StepsR b rd st' where
 some_ a x t ha hr:=by
  have:=h.some_ a x t ha hr;rw[h3 _ (by rw[this]),this]
 none_ a ha hr:=by rw[h2];exact h.none_ a ha hr
 bad a:=by rw[h2];exact h.bad a
 inb q hq:=by rw[h2];exact h.inb q hq
def valS (b:Byt) (q:Nat×Bool):Nat×(Nat×Bool):=(if okV (runR wordR 0 b q).1 then(runR wordR 0 b q).1 else 0,took (runR wordR 0 b q).2 0 (okV (runR wordR 0 b q).1))
theorem z0x (b:Byt):StepsR b valR (valS b):=by
 refine zbb (z0I (z0d b wordR 0) okV) (fun q=>rfl) fun q h=>?_
 unfold z0y took at h;unfold valS z0y;simp only at h⊢
 cases ho:okV (runR wordR 0 b q).1 with
 |true=>rfl
 |false=>rw[ho]at h;simp at h
def bnd0S (b:Byt) (q:Nat×Bool):Bnd×(Nat×Bool) :=
 if(runR byteR 0 b q).1=0 then((false,(valS b (runR byteR 0 b q).2).1,(valS b (valS b (runR byteR 0 b q).2).2).1),(valS b (valS b (runR byteR 0 b q).2).2).2)
 else if(runR byteR 0 b q).1=1 then((true,0,0),(runR byteR 0 b q).2) else((false,0,0),took (runR byteR 0 b q).2 0 false)
theorem z9U (b:Byt):StepsR b bnd0 (bnd0S b) where
 some_ a x t ha hr:=by
  cases hd:b.drop a with
  |nil=>rw[hd]at hr;cases hr
  |cons c u =>
   have h1:byteR (b.drop a)=some (c,u):=by rw[hd];rfl
   obtain⟨e1,e2,e3⟩:=ends_byte.drop ha h1;rw[hd]at hr;simp only[bnd0]at hr;unfold bnd0S;simp only[z0E h1];split at hr
   · rename_i hc;rw[if_pos hc]
     cases h2:seqR valR valR u with
     |none=>simp[h2]at hr
     |some p =>
      simp only[h2,Option.map_some,Option.some.injEq,Prod.mk.injEq]at hr;obtain⟨rfl,rfl⟩:=hr;have:=(z0u (z0x b) (z0x b) z6j).some_ (b.length-u.length) p.1 p.2 (by omega) (by rw[e1];exact h2)
      unfold seqSt at this;simp only[Prod.ext_iff]at this⊢;simp only[this,and_self]
   · rename_i hc;rw[if_neg hc];split at hr
     · rename_i hc;rw[if_pos hc];simp only[Option.some.injEq,Prod.mk.injEq]at hr;obtain⟨rfl,rfl⟩:=hr;rfl
     · cases hr
 none_ a ha hr:=by
  cases hd:b.drop a with
  |nil =>
   have h1:byteR (b.drop a)=none:=by rw[hd];rfl
   unfold bnd0S;simp only[z0T h1,if_true];exact z2y (z0x b).bad _ ((z0x b).bad a)
  |cons c u =>
   have h1:byteR (b.drop a)=some (c,u):=by rw[hd];rfl
   obtain⟨e1,e2,e3⟩:=ends_byte.drop ha h1;rw[hd]at hr;simp only[bnd0]at hr;unfold bnd0S;simp only[z0E h1];split at hr
   · rename_i hc;rw[if_pos hc]
     cases h2:seqR valR valR u with
     |some p=>simp[h2]at hr
     |none =>
      exact(z0u (z0x b) (z0x b) z6j).none_ (b.length-u.length) (by omega) (by rw[e1];exact h2)
   · rename_i hc;rw[if_neg hc];split at hr
     · cases hr
     · rename_i hc;rw[if_neg hc];rfl
 bad a:=by
  unfold bnd0S;simp only[z0z,if_true];exact z2y (z0x b).bad _ ((z0x b).bad a)
 inb q hq:=by
  have h1:=z0b byteR 0 b q hq;unfold bnd0S;split
  · exact(z0x b).inb _ ((z0x b).inb _ h1)
  · split
    · exact h1
    · exact z0W b _ _ h1
def bandS (b:Byt):Nat×Bool→Bnd×(Nat×Bool):=z0y (bnd0S b) bMay
theorem z9V (b:Byt):StepsR b bandR (bandS b):=z0I (z9U b) _
def ruS (b:Byt):Nat×Bool→RuM×(Nat×Bool) :=
 z0y (z1r (seqSt (runR listR [] b) (seqSt (runR listR [] b) (seqSt (runR bandR (false,0,0) b) (rowSt 4 b (runR (textR 12) ⟨#[]⟩ b))))) mkRu) ruIs
theorem zcC (b:Byt):StepsR b ruR (ruS b) :=
 z0I (z0F (z0u (z0d b listR []) (z0u (z0d b listR []) (z0u (z0d b bandR _) (z50 (z0d b (textR 12) _) (z1J 12) 4) ends_band) ends_list) ends_list) mkRu) ruIs
end Go.Proofs.YtmkmhhjkdaklbaaGreat
namespace Go.Proofs.YtmkmhhjkdaklbaaGreat
open Go Go.Ab
set_option maxRecDepth 100000
def c17:ACode :=
 (sq_ [pr_ 2 (.allocm [.nils,.nils,.pl (.bool false),.pl (.float .f64 0),.pl (.float .f64 0),.nils]),
 pr_ 3 (mi_ .i64 0),
 pr_ 4 mf_]
 (sq_ [mv_ 9 0,
 c1_ 10 54 9,
 mv_ 5 10]
 (sq_ [mv_ 11 5,
 cl_ 12 55 [(.tmp 11),(.func 56)],
 mv_ 13 5,
 cl_ 14 55 [(.tmp 13),(.func 56)],
 mv_ 15 5,
 cl_ 16 57 [(.tmp 15),(.func 58)],
 pr_ 17 (.build [.nils,.nils,.pl (.bool false),.pl (.float .f64 0),.pl (.float .f64 0),.nils] [(0,1,(.tmp 12)),(1,1,(.tmp 14)),(2,3,(.tmp 16))]),
 pr_ 6 (.allocm [.nils,.nils,.pl (.bool false),.pl (.float .f64 0),.pl (.float .f64 0),.nils]),
 st_ (so_ 6 6 17)]
 (.seq (sq_ [mv_ 18 5,
 cl_ 19 59 [(.tmp 18),(.const (.int .u64 4))],
 pr_ 20 (mi_ .u64 0)]
 (.block 0 (.loop [0,1,3,4,7,8,9,10,11,12,13,14,15,16,17,18,21,22,23,24,25,26,27,28,29,30,31,32,33,34,35,36,37,38,39,40,41,42,43] (sq_ [pr_ 21 (bt_ .lss 20 19)]
 (.seq (.cond (.tmp 21)
 .skip
 (.exit 0))
 (.seq (.block 1 (.draw [⟨pr_ 22 (fa_ 5 6),[],false,0,1⟩,
 ⟨pr_ 23 (lf_ 1 22),[0],false,0,1⟩,
 ⟨mv_ 24 5,[],false,0,0⟩,
 ⟨cl_ 25 60 [(.tmp 24),(.const (.int .i64 12))],[2],true,0,0⟩,
 ⟨pr_ 26 (.bsl false 1 false 1 [.pl (.string .empty)] [(0,1,(.tmp 25))]),[2,3],false,1,1⟩,
 ⟨pr_ 27 (.app 1 (.tmp 23) (.tmp 26)),[0,1,2,3,4],true,0,0⟩,
 ⟨pr_ 28 (fa_ 5 6),(List.range 6),false,2,2⟩,
 ⟨st_ (so_ 1 28 27),(List.range 7),true,0,0⟩]))
 (.ops [pr_ 29 (bk_ .add 20 .u64 1),
 mv_ 20 29])))))))
 (.seq (.ghost (.shutc 6 5 1) (.ops [mv_ 30 5,
 pr_ 31 (lt_ 6 6),
 c1_ 32 51 31,
 cl_ 33 61 [(.tmp 30),(.tmp 32)]]))
 (sq_ [mv_ 35 5,
 c1_ 36 62 35,
 mv_ 34 36,
 pr_ 37 (ex_ 0 34),
 pr_ 38 (ex_ 1 34),
 mv_ 7 37,
 mv_ 8 38]
 (.seq (sq_ [mv_ 39 8,
 pr_ 40 (no_ 39)]
 (.cond (.tmp 40)
 (sq_ [pr_ 41 (.build [.nils,.nils,.pl (.bool false),.pl (.float .f64 0),.pl (.float .f64 0),.nils] []),
 st_ (so_ 6 2 41),
 pr_ 3 (mi_ .i64 0),
 pr_ 4 mf_]
 .ret)
 .skip))
 (sq_ [pr_ 42 (lt_ 6 6),
 mv_ 43 7,
 st_ (so_ 6 2 42),
 mv_ 3 43,
 pr_ 4 mt_]
 .ret))))))))
def o17:List Tmp:=[2,6]
def r17:List RV:=[.cell 2 6 true,.tmp 3,.tmp 4]
theorem t17:Text Tryz.prog 17 o17 c17 r17 44:=.mk_ Tryz.f17 rfl
def c19:ACode :=
 (sq_ [pr_ 1 (.boxr (.tmp 0)),
 pr_ 2 (.mov (.const (.slice none 0 0)))]
 (.seq (sq_ [pr_ 6 (lt_ 6 1),
 c1_ 7 51 6,
 pr_ 8 (no_ 7)]
 (.cond (.tmp 8)
 (sq_ [pr_ 2 (.mov (.const (.slice none 0 0)))]
 (.ghost (.shut 2) .ret))
 .skip))
 (.seq (.draw [⟨pr_ 9 (fa_ 0 1),[],false,0,0⟩,
 ⟨pr_ 10 (lf_ 1 9),[0],false,0,0⟩,
 ⟨c1_ 11 69 10,[0,1],true,0,0⟩,
 ⟨pr_ 12 (fa_ 1 1),[],false,0,1⟩,
 ⟨pr_ 13 (lf_ 1 12),[3],false,0,1⟩,
 ⟨c1_ 14 69 13,[0,1,2,3,4],true,0,0⟩,
 ⟨pr_ 15 (fa_ 2 1),[],false,0,2⟩,
 ⟨pr_ 16 (lt_ 3 15),[6],false,0,2⟩,
 ⟨c1_ 17 70 16,(List.range 8),true,0,0⟩,
 ⟨pr_ 18 (fa_ 5 1),[],false,0,3⟩,
 ⟨pr_ 19 (lf_ 1 18),[9],false,0,3⟩,
 ⟨pr_ 20 (.lenv (.tmp 19)),[9,10],false,0,3⟩,
 ⟨pr_ 21 (.convi .u64 (.tmp 20)),[9,10,11],false,0,3⟩,
 ⟨c1_ 22 71 21,(List.range 13),true,0,0⟩,
 ⟨pr_ 23 (.bsl false 1 false 4 [.nils] [(0,1,(.tmp 11)),(1,1,(.tmp 14)),(2,1,(.tmp 17)),(3,1,(.tmp 22))]),(List.range 14),false,4,4⟩,
 ⟨c1_ 24 68 23,(List.range 15),true,0,0⟩,
 ⟨mv_ 3 24,(List.range 16),false,5,5⟩])
 (.seq (sq_ [pr_ 25 (fa_ 5 1),
 pr_ 26 (lf_ 1 25),
 pr_ 27 (.lenv (.tmp 26)),
 pr_ 28 (mi_ .i64 0)]
 (.block 0 (.loop [0,1,2,4,5,6,7,8,9,10,11,12,13,14,15,16,17,18,19,20,21,22,23,24,25,29,30,31,32,33,34,35,36,37] (sq_ [pr_ 29 (bt_ .lss 28 27)]
 (.seq (.cond (.tmp 29)
 .skip
 (.exit 0))
 (.seq (.block 1 (sq_ [pr_ 30 (.iadrs 1 (.tmp 26) (.tmp 28)),
 pr_ 31 (lf_ 1 30),
 mv_ 5 31]
 (.ops [mv_ 32 3,
 mv_ 33 5,
 c1_ 34 72 33,
 pr_ 35 (.app 1 (.tmp 32) (.tmp 34)),
 mv_ 3 35])))
 (.ops [pr_ 36 (bk_ .add 28 .i64 1),
 mv_ 28 36])))))))
 (sq_ [mv_ 37 3,
 mv_ 2 37]
 (.ghost (.shut 2) .ret))))))
def o19:List Tmp:=[]
def r19:List RV:=[.tmp 2]
theorem t19:Text Tryz.prog 19 o19 c19 r19 38:=.mk_ Tryz.f19 rfl
def c55:ACode :=
 (sq_ [pr_ 4 (.mov (.const (.slice none 0 0)))]
 (sq_ [mv_ 10 1,
 mv_ 11 0,
 c1_ 12 112 11,
 ⟨some 13,none,.call (.tmp 10) [(.tmp 12)]⟩,
 mv_ 9 13,
 pr_ 14 (ex_ 0 9),
 pr_ 15 (ex_ 1 9),
 pr_ 16 (ex_ 2 9),
 mv_ 5 14,
 mv_ 6 15,
 mv_ 7 16]
 (.seq (sq_ [mv_ 17 0,
 mv_ 18 6,
 mv_ 19 7,
 cl_ 20 113 [(.tmp 17),(.tmp 18),(.tmp 19)],
 pr_ 21 (no_ 20)]
 (.cond (.tmp 21)
 (sq_ [pr_ 8 (.mov (.const (.slice none 0 0)))]
 (sq_ [mv_ 22 8,
 mv_ 4 22]
 .ret))
 .skip))
 (sq_ [mv_ 23 5,
 mv_ 4 23]
 .ret))))
def o55:List Tmp:=[]
def r55:List RV:=[.tmp 4]
theorem t55:Text Tryz.prog 55 o55 c55 r55 24:=.mk_ Tryz.f55 rfl
def c57:ACode :=
 (sq_ [pr_ 4 (.allocm [.pl (.bool false),.pl (.float .f64 0),.pl (.float .f64 0)])]
 (sq_ [mv_ 10 1,
 mv_ 11 0,
 c1_ 12 112 11,
 ⟨some 13,none,.call (.tmp 10) [(.tmp 12)]⟩,
 mv_ 9 13,
 pr_ 14 (ex_ 0 9),
 pr_ 15 (ex_ 1 9),
 pr_ 16 (ex_ 2 9),
 ⟨some 5,none,.fresh 3 5 (.tmp 14)⟩,
 mv_ 6 15,
 mv_ 7 16]
 (.seq (sq_ [mv_ 17 0,
 mv_ 18 6,
 mv_ 19 7,
 cl_ 20 113 [(.tmp 17),(.tmp 18),(.tmp 19)],
 pr_ 21 (no_ 20)]
 (.cond (.tmp 21)
 (sq_ [pr_ 8 (.allocm [.pl (.bool false),.pl (.float .f64 0),.pl (.float .f64 0)])]
 (sq_ [pr_ 22 (lt_ 3 8),
 st_ (so_ 3 4 22)]
 .ret))
 .skip))
 (sq_ [pr_ 23 (lt_ 3 5),
 st_ (so_ 3 4 23)]
 .ret))))
def o57:List Tmp:=[4]
def r57:List RV:=[.cell 4 3 true]
theorem t57:Text Tryz.prog 57 o57 c57 r57 24:=.mk_ Tryz.f57 rfl
def c58:ACode :=
 (sq_ [pr_ 2 (.allocm [.pl (.bool false),.pl (.float .f64 0),.pl (.float .f64 0)]),
 pr_ 3 (mi_ .i64 0),
 pr_ 4 mf_]
 (sq_ [mv_ 9 0,
 c1_ 10 54 9,
 mv_ 5 10]
 (sq_ [pr_ 6 (.allocm [.pl (.bool false),.pl (.float .f64 0),.pl (.float .f64 0)])]
 (.seq (sq_ [mv_ 11 5,
 c1_ 12 83 11]
 (.block 0 (sq_ [pr_ 16 (bk_ .eql 12 .u8 0),
 mv_ 15 16]
 (.cond (.tmp 15)
 (.ops [mv_ 17 5,
 c1_ 18 114 17,
 mv_ 19 5,
 c1_ 20 114 19,
 pr_ 21 (fa_ 1 6),
 st_ (so_ 1 21 18),
 pr_ 22 (fa_ 2 6),
 st_ (so_ 1 22 20)])
 (sq_ [pr_ 24 (bk_ .eql 12 .u8 1),
 mv_ 23 24]
 (.cond (.tmp 23)
 (.ops [pr_ 25 (fa_ 0 6),
 st_ (.store 1 (.tmp 25) (.const (.bool true)))])
 (.ops [mv_ 13 5,
 cl_ 14 61 [(.tmp 13),(.const (.bool false))]])))))))
 (sq_ [mv_ 26 5,
 pr_ 27 (lt_ 3 6),
 c1_ 28 107 27,
 cl_ 29 61 [(.tmp 26),(.tmp 28)]]
 (sq_ [mv_ 31 5,
 c1_ 32 62 31,
 mv_ 30 32,
 pr_ 33 (ex_ 0 30),
 pr_ 34 (ex_ 1 30),
 mv_ 7 33,
 mv_ 8 34]
 (.seq (sq_ [mv_ 35 8,
 pr_ 36 (no_ 35)]
 (.cond (.tmp 36)
 (sq_ [pr_ 37 (.build [.pl (.bool false),.pl (.float .f64 0),.pl (.float .f64 0)] []),
 st_ (so_ 3 2 37),
 pr_ 3 (mi_ .i64 0),
 pr_ 4 mf_]
 .ret)
 .skip))
 (sq_ [pr_ 38 (lt_ 3 6),
 mv_ 39 7,
 st_ (so_ 3 2 38),
 mv_ 3 39,
 pr_ 4 mt_]
 .ret))))))))
def o58:List Tmp:=[2,6]
def r58:List RV:=[.cell 2 3 true,.tmp 3,.tmp 4]
theorem t58:Text Tryz.prog 58 o58 c58 r58 40:=.mk_ Tryz.f58 rfl
def c68:ACode :=
 (sq_ [pr_ 2 (.mov (.const (.slice none 0 0)))]
 (sq_ [pr_ 3 (mi_ .i64 0)]
 (.seq (sq_ [mv_ 9 0,
 pr_ 10 (.lenv (.tmp 9)),
 pr_ 11 (mi_ .i64 0)]
 (.block 0 (.loop [1,2,4,5,6,7,8,12,13,14,15,16,17,18,19,20,21,22,23,24,25,26,27,28,29,30,31,32,33,34,35] (sq_ [pr_ 12 (bt_ .lss 11 10)]
 (.seq (.cond (.tmp 12)
 .skip
 (.exit 0))
 (.seq (.block 1 (sq_ [pr_ 13 (.iadrs 1 (.tmp 9) (.tmp 11)),
 pr_ 14 (lf_ 1 13),
 mv_ 5 14]
 (sq_ [mv_ 15 3,
 mv_ 16 5,
 pr_ 17 (.lenv (.tmp 16)),
 pr_ 18 (bt_ .add 15 17),
 mv_ 3 18]
 (sq_ [mv_ 19 3,
 pr_ 20 (bk_ .lss 19 .i64 0)]
 (.cond (.tmp 20)
 (.ops [pr_ 21 (.bad),
 st_ (.bad)])
 .skip)))))
 (.ops [pr_ 22 (bk_ .add 11 .i64 1),
 mv_ 11 22])))))))
 (sq_ [mv_ 23 3,
 cl_ 24 122 [(.const (.slice none 0 0)),(.tmp 23)],
 mv_ 6 24]
 (.seq (sq_ [mv_ 25 0,
 pr_ 26 (.lenv (.tmp 25)),
 pr_ 27 (mi_ .i64 0)]
 (.block 2 (.loop [0,1,2,3,4,5,7,8,9,10,11,12,13,14,15,16,17,18,19,20,21,22,23,24,28,29,30,31,32,33,34,35] (sq_ [pr_ 28 (bt_ .lss 27 26)]
 (.seq (.cond (.tmp 28)
 .skip
 (.exit 2))
 (.seq (.block 3 (sq_ [pr_ 29 (.iadrs 1 (.tmp 25) (.tmp 27)),
 pr_ 30 (lf_ 1 29),
 mv_ 8 30]
 (.ops [mv_ 31 6,
 mv_ 32 8,
 pr_ 33 (.app 1 (.tmp 31) (.tmp 32)),
 mv_ 6 33])))
 (.ops [pr_ 34 (bk_ .add 27 .i64 1),
 mv_ 27 34])))))))
 (sq_ [mv_ 35 6,
 mv_ 2 35]
 .ret))))))
def o68:List Tmp:=[]
def r68:List RV:=[.tmp 2]
theorem t68:Text Tryz.prog 68 o68 c68 r68 36:=.mk_ Tryz.f68 rfl
def c70:ACode :=
 (sq_ [pr_ 1 (.boxr (.tmp 0)),
 pr_ 2 (.mov (.const (.slice none 0 0)))]
 (.seq (sq_ [pr_ 3 (fa_ 0 1),
 pr_ 4 (lf_ 1 3)]
 (.cond (.tmp 4)
 (sq_ [pr_ 5 (.bsl false 1 false 1 [.pl (.int .u8 0)] [(0,1,(.const (.int .u8 1)))]),
 mv_ 2 5]
 (.ghost (.shut 2) .ret))
 .skip))
 (.seq (.draw [⟨pr_ 6 (.bsl false 1 false 1 [.pl (.int .u8 0)] [(0,1,(.const (.int .u8 0)))]),[],false,0,4⟩,
 ⟨pr_ 7 (fa_ 1 1),[],false,0,0⟩,
 ⟨pr_ 8 (lf_ 1 7),[1],false,0,0⟩,
 ⟨c1_ 9 94 8,[1,2],true,0,0⟩,
 ⟨c1_ 10 93 9,[1,2,3],true,0,0⟩,
 ⟨pr_ 11 (fa_ 2 1),[],false,0,2⟩,
 ⟨pr_ 12 (lf_ 1 11),[5],false,0,2⟩,
 ⟨c1_ 13 94 12,[1,2,3,4,5,6],true,0,0⟩,
 ⟨c1_ 14 93 13,[1,2,3,4,5,6,7],true,0,0⟩,
 ⟨pr_ 15 (.bsl false 1 false 3 [.nils] [(0,1,(.tmp 6)),(1,1,(.tmp 10)),(2,1,(.tmp 14))]),(List.range 9),false,4,4⟩,
 ⟨c1_ 16 68 15,(List.range 10),true,0,0⟩,
 ⟨mv_ 2 16,(List.range 11),false,5,5⟩])
 (.ghost (.shut 2) .ret))))
def o70:List Tmp:=[]
def r70:List RV:=[.tmp 2]
theorem t70:Text Tryz.prog 70 o70 c70 r70 17:=.mk_ Tryz.f70 rfl
def c93:ACode :=
 (sq_ [pr_ 2 (.mov (.const (.slice none 0 0)))]
 (sq_ [pr_ 5 (.mks 1 false [.pl (.int .u8 0)] (.const (.int .i64 8)) (.const (.int .i64 8))),
 mv_ 3 5]
 (.seq (sq_ [mv_ 6 3,
 pr_ 7 (.lenv (.tmp 6)),
 pr_ 8 (mi_ .i64 0)]
 (.block 0 (.loop [1,2,4,5,6,9,10,11,12,13,14,15,16,17,18,19,20,21] (sq_ [pr_ 9 (bt_ .lss 8 7)]
 (.seq (.cond (.tmp 9)
 .skip
 (.exit 0))
 (.seq (.block 1 (sq_ [mv_ 10 8,
 mv_ 4 10]
 (.ops [mv_ 11 3,
 mv_ 12 4,
 mv_ 13 0,
 mv_ 14 4,
 pr_ 15 (.bin false .mul (.const (.int .i64 8)) (.tmp 14)),
 pr_ 16 (.bin false .sub (.const (.int .i64 56)) (.tmp 15)),
 pr_ 17 (bt_ .shr 13 16),
 pr_ 18 (.convi .u8 (.tmp 17)),
 pr_ 19 (.iadrs 1 (.tmp 11) (.tmp 12)),
 st_ (so_ 1 19 18)])))
 (.ops [pr_ 20 (bk_ .add 8 .i64 1),
 mv_ 8 20])))))))
 (sq_ [mv_ 21 3,
 mv_ 2 21]
 (.ghost (.shut 2) .ret)))))
def o93:List Tmp:=[]
def r93:List RV:=[.tmp 2]
theorem t93:Text Tryz.prog 93 o93 c93 r93 22:=.mk_ Tryz.f93 rfl
def c114:ACode :=
 (sq_ [pr_ 2 (.mov (.const (.float Go.FloatKind.f64 0)))]
 (sq_ [mv_ 6 0,
 c1_ 7 140 6,
 c1_ 8 139 7,
 mv_ 5 8,
 pr_ 9 (ex_ 0 5),
 pr_ 10 (ex_ 1 5),
 mv_ 3 9,
 mv_ 4 10]
 (sq_ [mv_ 11 0,
 mv_ 12 4,
 cl_ 13 61 [(.tmp 11),(.tmp 12)]]
 (sq_ [mv_ 14 3,
 mv_ 2 14]
 .ret))))
def o114:List Tmp:=[]
def r114:List RV:=[.tmp 2]
theorem t114:Text Tryz.prog 114 o114 c114 r114 15:=.mk_ Tryz.f114 rfl
def c122:ACode :=
 (sq_ [pr_ 4 (.mov (.const (.slice none 0 0)))]
 (.seq (sq_ [mv_ 5 1,
 pr_ 6 (bk_ .lss 5 .i64 0)]
 (.cond (.tmp 6)
 (.ops [pr_ 7 (.bad),
 st_ (.bad)])
 .skip))
 (.seq (sq_ [mv_ 8 1,
 mv_ 9 0,
 pr_ 10 (.capn (.tmp 9)),
 mv_ 11 0,
 pr_ 12 (.lenv (.tmp 11)),
 pr_ 13 (bt_ .sub 10 12),
 pr_ 14 (bt_ .sub 8 13),
 mv_ 1 14]
 (sq_ [mv_ 15 1,
 pr_ 16 (bk_ .gtr 15 .i64 0)]
 (.cond (.tmp 16)
 (.ops [mv_ 17 0,
 mv_ 18 0,
 pr_ 19 (.capn (.tmp 18)),
 pr_ 20 (.slco 1 (.tmp 17) none (some (.tmp 19))),
 mv_ 21 1,
 pr_ 22 (.appz 1 false [.pl (.int .u8 0)] (.tmp 20) (.tmp 21)),
 mv_ 23 0,
 pr_ 24 (.lenv (.tmp 23)),
 pr_ 25 (.slco 1 (.tmp 22) none (some (.tmp 24))),
 mv_ 0 25])
 .skip)))
 (sq_ [mv_ 26 0,
 mv_ 4 26]
 .ret))))
def o122:List Tmp:=[20,25]
def r122:List RV:=[.tmp 4]
theorem t122:Text Tryz.prog 122 o122 c122 r122 27:=.mk_ Tryz.f122 rfl
def c139:ACode :=
 (sq_ [pr_ 2 (.mov (.const (.float Go.FloatKind.f64 0))),
 pr_ 3 mf_]
 (sq_ [mv_ 5 0,
 c1_ 6 151 5,
 mv_ 4 6]
 (.seq (sq_ [mv_ 7 4,
 c1_ 8 94 7,
 mv_ 9 0,
 pr_ 10 (bt_ .neq 8 9)]
 (.cond (.tmp 10)
 (sq_ [pr_ 2 (.mov (.const (.float Go.FloatKind.f64 0))),
 pr_ 3 mf_]
 .ret)
 .skip))
 (sq_ [mv_ 11 4,
 mv_ 2 11,
 pr_ 3 mt_]
 .ret))))
def o139:List Tmp:=[]
def r139:List RV:=[.tmp 2,.tmp 3]
theorem t139:Text Tryz.prog 139 o139 c139 r139 12:=.mk_ Tryz.f139 rfl
def c140:ACode :=
 (sq_ [pr_ 2 (mi_ .u64 0)]
 (sq_ [mv_ 6 0,
 c1_ 7 112 6,
 c1_ 8 158 7,
 mv_ 5 8,
 pr_ 9 (ex_ 0 5),
 pr_ 10 (ex_ 1 5),
 mv_ 3 9,
 mv_ 4 10]
 (.seq (sq_ [mv_ 11 0,
 mv_ 12 4,
 cl_ 13 113 [(.tmp 11),(.const (.int .i64 8)),(.tmp 12)],
 pr_ 14 (no_ 13)]
 (.cond (.tmp 14)
 (sq_ [pr_ 2 (mi_ .u64 0)]
 .ret)
 .skip))
 (sq_ [mv_ 15 3,
 mv_ 2 15]
 .ret))))
def o140:List Tmp:=[]
def r140:List RV:=[.tmp 2]
theorem t140:Text Tryz.prog 140 o140 c140 r140 16:=.mk_ Tryz.f140 rfl
def c158:ACode :=
 (sq_ [pr_ 2 (mi_ .u64 0),
 pr_ 3 mf_]
 (.seq (sq_ [mv_ 7 0,
 pr_ 8 (.lenv (.tmp 7)),
 pr_ 9 (bk_ .lss 8 .i64 8)]
 (.cond (.tmp 9)
 (sq_ [pr_ 2 (mi_ .u64 0),
 pr_ 3 mf_]
 .ret)
 .skip))
 (sq_ [pr_ 4 (mi_ .u64 0)]
 (.seq (sq_ [mv_ 10 0,
 pr_ 11 (.slcv 1 (.tmp 10) none (some (.const (.int .i64 8)))),
 pr_ 12 (.lenv (.tmp 11)),
 pr_ 13 (mi_ .i64 0)]
 (.block 0 (.loop [0,1,2,3,5,6,7,8,9,10,14,15,16,17,18,19,20,21,22,23] (sq_ [pr_ 14 (bt_ .lss 13 12)]
 (.seq (.cond (.tmp 14)
 .skip
 (.exit 0))
 (.seq (.block 1 (sq_ [pr_ 15 (.iadrs 1 (.tmp 11) (.tmp 13)),
 pr_ 16 (lf_ 1 15),
 mv_ 6 16]
 (.ops [mv_ 17 4,
 pr_ 18 (bk_ .shl 17 .u64 8),
 mv_ 19 6,
 pr_ 20 (.convi .u64 (.tmp 19)),
 pr_ 21 (bt_ .or 18 20),
 mv_ 4 21])))
 (.ops [pr_ 22 (bk_ .add 13 .i64 1),
 mv_ 13 22])))))))
 (sq_ [mv_ 23 4,
 mv_ 2 23,
 pr_ 3 mt_]
 .ret)))))
def o158:List Tmp:=[]
def r158:List RV:=[.tmp 2,.tmp 3]
theorem t158:Text Tryz.prog 158 o158 c158 r158 24:=.mk_ Tryz.f158 rfl
end Go.Proofs.YtmkmhhjkdaklbaaGreat
namespace Go.Ab
open Go
section
variable {P:Program} {f:FuncId} {args:List AV} {σ:St}
theorem Ans.shutAt {sz n l:Nat} {xs:List AV} {ex:St} (h:Ans P f args σ (.osl l n) (σ++ex)) (hl:σ.length≤l) (hget:(σ++ex)[l]?=some (.row sz xs)) (hn:n=xs.length) (hb:Bel σ.length (.sl sz xs)):Ans P f args σ (.sl sz xs) σ:=by
 intro M ν w vs g hvs
 have hs:sealV (σ++ex) (.osl l n)=some (.sl sz xs,(σ++ex).set l .dead):=by
  simp only[sealV,hget,hn,if_true]
 have ht:((σ++ex).set l .dead).take σ.length=σ:=by
  rw[List.set_append_right _ _ hl,List.take_left]
 have key:∀v w',After M σ ν w (.osl l n) (σ++ex) v w'→After M σ ν w (.sl sz xs) σ v w':=by
  rintro v w' ⟨M',ν',g',l',r1⟩;obtain⟨M2,g2,l2,r2⟩:=z2Y g' hs r1;have hbo:∀o∈((σ++ex).set l .dead).take σ.length,BelO σ.length o:=by rw[ht];exact g.bel
  have g3:=g2.take hbo;have l3:=(l'.trans l2).take (m:=σ.length) (Nat.le_refl _);have r3:=r2.take hb;rw[ht]at g3 l3 r3;exact⟨M2,ν',g3,l3,r3⟩
 rcases h M ν w vs g hvs with⟨h1,h2⟩|⟨v,w',h1,h2⟩
 · exact .inl ⟨h1,h2.mono fun e w' ⟨v,he,h3⟩=>⟨v,he,key v w' h3⟩⟩
 · exact .inr ⟨v,w',h1,key v w' h2⟩
end
end Go.Ab
namespace Go.Proofs.YtmkmhhjkdaklbaaGreat
open Go Go.Ab Go.Cod
set_option maxRecDepth 100000
abbrev Zb:AV:=.pl (.int .u8 0)
abbrev bsv (bs:List Byt):List AV:=bs.map fun b=>.sl 1 (byv b)
theorem z45 (bs:List Byt):(bsv bs).length=bs.length:=List.length_map ..
theorem zbc (bs:List Byt) (i:Nat) (h:i<bs.length):(bsv bs)[i]?=some (.sl 1 (byv bs[i])):=by simp[h]
theorem z77 (bs:List Byt) (i:Nat) (h:i<bs.length):(bs.take (i+1)).flatten=(bs.take i).flatten++bs[i]:=by
 rw[List.take_succ_eq_append_getElem h,List.flatten_append];simp
theorem zbd (bs:List Byt) (i:Nat):((bs.take i).flatten).length≤bs.flatten.length:=by
 have:bs.flatten=(bs.take i).flatten++(bs.drop i).flatten:=by rw[←List.flatten_append,List.take_append_drop]
 rw[this,List.length_append];omega
section
variable (σ:St)
theorem zcD (n:Nat) (h:0<n) (hn:n≤1000000):Ans Tryz.prog 122 [.nils,I n] σ (.osl (σ.length+1) 0) (σ++[.dead,.row 1 []]):=by
 have d0:decide ((n:Int)<0)=false:=by simp
 have w1:IntKind.i64.wrap (n:Int)=n:=wrapI (by omega)
 have d1:decide ((0:Int)<n)=true:=by simp;omega
 have hz:((n:Int)=0)=False:=eq_false (by omega)
 have hp:((0:Int)<n)=True:=eq_true (by omega)
 have hle:((n:Int)≤4294967296)=True:=eq_true (by omega)
 have hc:(chunks 1 false n (z09 [Zb] n)).length=n:=z19 _ _ _ _;have z0:Int.toNat 0=0:=rfl;refine Ans.of_run t122 ?_;simp -implicitDefEqProofs only[c122,r122,go_sem,d0];have z0:Int.toNat 0=0:=rfl;have z1:Int.toNat ((n:Nat):Int)=n:=Int.toNat_natCast n;have w0:IntKind.i64.wrap 0=0:=rfl;simp -implicitDefEqProofs only[go_sem,d0,Int.sub_zero,w1,d1,w0,hz,hp,hle,z0,z1,g0,s0,hc,List.take_zero,List.drop_zero,Int.natCast_nonneg,Int.le_refl,Nat.sub_zero,List.length_append,List.length_cons,List.length_nil,List.append_assoc,List.cons_append,List.nil_append];exact Fini.ret rfl
theorem z5H (bs:List Byt) (hl:bs.length≤100) (h0:0<bs.flatten.length) (h1:bs.flatten.length≤1000000) :
  Ans Tryz.prog 68 [.sl 1 (bsv bs)] σ (.osl (σ.length+1) bs.flatten.length) (σ++[.dead,.row 1 (byv bs.flatten)]):=by
 refine Ans.of_run t68 ?_;simp -implicitDefEqProofs only[c68,r68,go_sem,z45];refine Go.Ab.L.count bs.length (fun i=>mkE 36 [(0,.sl 1 (bsv bs)),(3,I ((bs.take i).flatten.length:Nat)),(9,.sl 1 (bsv bs)),(10,I bs.length),(11,I i)]) (fun _=>σ) ?_ ?_ rfl rfl
 · intro i hi J hJ;have hf:=zbd bs (i+1);rw[z77 bs i hi]at hJ hf;have hx:=zbc bs i hi;rw[List.length_append]at hJ hf;generalize bs[i]=c at hJ hf hx;generalize (bs.take i).flatten.length=t at hJ hf⊢;have ha:IntKind.i64.wrap ((t:Int)+(c.length:Int))=((t+c.length:Nat):Int):=by rw[wrapN (by omega) (by omega)];omega
   have d0:decide (((t+c.length:Nat):Int)<0)=false:=by simp;omega
   have hin:=wrap_succ (i:=i) (by omega)
   simp -implicitDefEqProofs only[mkE,go_sem,z45,z0j hi,dec_lt hi,hx,z06,ha,d0,hin];exact hJ
 · intro J;have d0:decide ((bs.length:Int)<bs.length)=false:=by simp
   simp -implicitDefEqProofs only[mkE,go_sem,z45,d0,List.take_length];refine CO.intro (zcD σ bs.flatten.length h0 h1) ?_;simp -implicitDefEqProofs only[go_sem,z45];refine Go.Ab.L.count bs.length (fun i=>mkE 36 [(6,.osl (σ.length+1) (bs.take i).flatten.length),(25,.sl 1 (bsv bs)),(26,I bs.length),(27,I i)]) (fun i=>σ++[.dead,.row 1 (byv (bs.take i).flatten)]) ?_ ?_ rfl rfl
   · intro i hi J hJ;have hf:=zbd bs (i+1);rw[z77 bs i hi]at hJ hf;have hx:=zbc bs i hi;rw[List.length_append]at hJ hf;generalize bs[i]=c at hJ hf hx;generalize (bs.take i).flatten=t at hJ hf⊢;have hle:t.length+c.length≤4294967296:=by omega
     have hin:=wrap_succ (i:=i) (by omega)
     simp -implicitDefEqProofs only[mkE,go_sem,z45,z0j hi,dec_lt hi,hx,z06,z15,bc,hin,g1,s1,hle];simp only[z0Z]at hJ;exact hJ
   · intro J;simp -implicitDefEqProofs only[mkE,go_sem,z45,d0,List.take_length];exact Fini.ret rfl
theorem z78 (bs:List Byt) (hl:bs.length≤100) (h0:0<bs.flatten.length) (h1:bs.flatten.length≤1000000) :
  Ans Tryz.prog 68 [.sl 1 (bsv bs)] σ (.sl 1 (byv bs.flatten)) σ :=
 (z5H σ bs hl h0 h1).shutAt (by omega) (by rw[List.getElem?_append_right (by omega)];simp) (by rw[z06]) (z1x _ _)
end
end Go.Proofs.YtmkmhhjkdaklbaaGreat
