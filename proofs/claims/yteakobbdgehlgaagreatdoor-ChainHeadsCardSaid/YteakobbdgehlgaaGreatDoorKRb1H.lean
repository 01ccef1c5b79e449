/- Requests read whole, by the program: with a token, and without. No condition. -/
import Derived.Test.YteakobbdgehlgaaGreatDoorKRq5dH
import Derived.Test.YteakobbdgehlgaaGreatDoorKRq1H
import Derived.Test.YteakobbdgehlgaaGreatDoorKShA1H
import Derived.Test.YteakobbdgehlgaaGreatDoorKXMr2H
set_option linter.unusedSimpArgs false
set_option linter.unusedVariables false
set_option linter.unusedSectionVars false
namespace Go.Proofs.YteakobbdgehlgaaGreatDoor
open Go Go.Ab Go.Cod
set_option maxRecDepth 100000
theorem zeS (A:Nat×Bool→St) (n p:Nat) (b:Byt) (hn:∀q,(A q).length=n) (hg:∀q,(A q)[p]?=some (rob b q)) (hs:∀q q',(A q).set p (rob b q')=A q') (hb:b.length≤50000) (q:Nat×Bool) (hq:Inb b q) :
  Ans Tryz.prog 102 [.ptr p 0] (A q) (reV (bodyS b q).1) (A (bodyS b q).2):=by
 cases hc:runR byteR 0 b q with
 |mk c q1 =>
 have hm:=z9x (c.toNat:Int)
 cases hf:fOf (c.toNat:Int) with
 |mk f ok =>
 rw[hf]at hm;simp only[List.mem_cons,List.not_mem_nil,or_false]at hm;rcases hm with rfl|rfl|rfl|rfl|rfl|rfl|rfl|rfl|rfl
 · exact zhG A n p b hn hg hs hb q hq c q1 hc ok hf
 · exact zhH A n p b hn hg hs hb q hq c q1 hc ok hf
 · exact zhI A n p b hn hg hs hb q hq c q1 hc ok hf
 · exact zeO A n p b hn hg hs hb q hq c q1 hc ok hf
 · exact zeP A n p b hn hg hs hb q hq c q1 hc ok hf
 · exact zhJ A n p b hn hg hs hb q hq c q1 hc ok hf
 · exact zeQ A n p b hn hg hs hb q hq c q1 hc ok hf
 · exact zeR A n p b hn hg hs hb q hq c q1 hc ok hf
 · exact zgD A n p b hn hg hs hb q hq c q1 hc ok hf
def wholeO {α:Type} (o:Option (α×Byt)):Option α:=match o with
 |some (x,[])=>some x
 |_=>none
theorem z8v {α:Type} {b:Byt} {rd:Rd α} {st:Nat×Bool→α×(Nat×Bool)} (h:StepsR b rd st) (he:EndsR rd) :
  wholeO (rd b)=if !(st (0,false)).2.2&&decide ((st (0,false)).2.1=b.length) then some (st (0,false)).1 else none:=by
 cases hr:rd b with
 |none=>rw[h.top.2 hr];rfl
 |some p =>
  obtain⟨x,t⟩:=p;rw[h.top.1 x t hr];obtain⟨w,hw⟩:=he _ _ _ hr;have hl:b.length=w.length+t.length:=by rw[hw,List.length_append]
  cases t with
  |nil=>simp[wholeO]
  |cons c t =>
   have:¬(b.length-(c::t).length=b.length):=by simp only[List.length_cons]at hl⊢;omega
   simp only[wholeO,Bool.not_false,Bool.true_and,decide_eq_false this,Bool.false_eq_true,if_false]
abbrev noRe:ReM:=x0 0
def noReV:AV:=.agg [Sx ⟨#[]⟩,I 0,I 0,Sx ⟨#[]⟩,UN 0,UN 0,I 0,.nils,Bo false,Fl 0,Fl 0,.nils,.nils,Bo false,Fl 0,Fl 0,.nils,.nils,Fl 0]
theorem zeT:Sub noReV (reV noRe):=.agg (.cons (.refl _) (.cons (.refl _) (.cons (.refl _) (.cons (.refl _) (.cons (.refl _) (.cons (.refl _) (.cons (.refl _) (.cons (.nils 3) (.cons (.refl _) (.cons (.refl _) (.cons (.refl _) (.cons (.nils 3) (.cons (.nils 3) (.cons (.refl _) (.cons (.refl _) (.cons (.refl _) (.cons (.nils 1) (.cons (.nils 2) (.cons (.refl _) .nil)))))))))))))))))))
theorem z8w (n:Nat):Bel n noReV:=.agg _ fun i hi=>by
 have:∀y∈([Sx ⟨#[]⟩,I 0,I 0,Sx ⟨#[]⟩,UN 0,UN 0,I 0,.nils,Bo false,Fl 0,Fl 0,.nils,.nils,Bo false,Fl 0,Fl 0,.nils,.nils,Fl 0]:List AV),Bel n y:=by
  intro y hy;simp only[List.mem_cons,List.not_mem_nil,or_false]at hy;rcases hy with rfl|rfl|rfl|rfl|rfl|rfl|rfl|rfl|rfl|rfl|rfl|rfl|rfl|rfl|rfl|rfl|rfl|rfl|rfl
  all_goals first|exact .pl _|exact .nils
 exact this _ (List.getElem_mem hi)
theorem z9y (n:Nat) (r:ReM):Bel n (reV r):=.agg _ fun i hi=>by
 have:∀y∈reC r,Bel n y:=by
  intro y hy;unfold reC at hy;simp only[List.mem_cons,List.not_mem_nil,or_false]at hy;rcases hy with rfl|rfl|rfl|rfl|rfl|rfl|rfl|rfl|rfl|rfl|rfl|rfl|rfl|rfl|rfl|rfl|rfl|rfl|rfl
  all_goals first|exact .pl _|exact z0q _ _|exact z0G _ _|exact z0t _ _
 exact this _ (List.getElem_mem hi)
def z4k (o:Option ReM):AV:=match o with
 |some x=>.tup [reV x,Bo true]
 |none=>.tup [reV noRe,Bo false]
def zdk (o:Option ReM):AV:=match o with
 |some x=>.tup [reV x,Bo true]
 |none=>.tup [noReV,Bo false]
theorem zdl (o:Option ReM):Sub (zdk o) (z4k o):=by
 unfold zdk z4k
 cases o with
 |none=>exact .tup (.cons zeT (.refl _))
 |some x=>exact .refl _
theorem z64 {n:Nat} {x:AV} {c:Bool} (h:Bel n x):Bel n (.tup [x,Bo c]):=.tup _ fun j hj=>by
 have:∀y∈([x,Bo c]:List AV),Bel n y:=by
  intro y hy;simp only[List.mem_cons,List.not_mem_nil,or_false]at hy;rcases hy with rfl|rfl
  · exact h
  · exact .pl _
 exact this _ (List.getElem_mem hj)
def fitQ (b:Byt) (q:Nat×Bool) (x:ReM):Option ReM:=if !q.2&&decide (q.1=b.length) then some x else none
theorem zbw (n:Nat) (o:Option ReM):Bel n (z4k o):=by
 unfold z4k
 cases o with
 |none=>exact z64 (z9y _ _)
 |some x=>exact z64 (z9y _ _)
section
variable (σ:St)
theorem zdm (p:Nat) (b:Byt) (q:Nat×Bool) (x:ReM) (h:σ[p]?=some (rob b q)):Ans Tryz.prog 101 [reV x,.ptr p 0,.sl 1 (byv b)] σ (z4k (fitQ b q x)) σ:=by
 refine Ans.subR ?_ (zdl _);have hp:p<σ.length:=(List.getElem?_eq_some_iff.1 h).1;have hz:∀ob,(σ++[ob])[p]?=some (rob b q):=fun ob=>by rw[List.getElem?_append_left hp];exact h
 have h1:=z3p (σ++[B19]) p b q (hz _);have hbx:=z9y σ.length x;obtain⟨a,bad⟩:=q;refine Ans.of_run' t101 (fun hbel _=>?_)
 unfold zdk fitQ;unfold reV reC at hbx⊢
 cases bad with
 |true =>
  simp -implicitDefEqProofs only[c101,r101,go_sem,g0,s0];refine CO.intro h1 ?_;simp -implicitDefEqProofs only[go_sem,g0,s0];exact Fini.trim2 (σ':=σ) (ex:=[_]) (by simp -implicitDefEqProofs only[go_sem,resA,z01,rvA,oneOf,g0]<;>rfl) rfl (Nat.le_refl _) (z64 (z8w _)) hbel
 |false =>
  have e1:(((a:Nat):Int) != (b.length:Nat))= !decide (a=b.length):=by
   rw[bne];congr 1
   rw[Bool.eq_iff_iff];simp only[beq_iff_eq,decide_eq_true_eq];omega
  by_cases he:a=b.length
  · have e2:(((a:Nat):Int) != (b.length:Nat))=false:=by rw[e1,decide_eq_true he];rfl
    have e3:(!(a,false).2&&decide ((a,false).1=b.length))=true:=by simp[he]
    rw[if_pos e3];simp -implicitDefEqProofs only[c101,r101,go_sem,g0,s0];refine CO.intro h1 ?_;simp -implicitDefEqProofs only[go_sem,z05,e2,g0,s0];exact Fini.trim2 (σ':=σ) (ex:=[_]) (by simp -implicitDefEqProofs only[go_sem,resA,z01,rvA,oneOf,g0]<;>rfl) rfl (Nat.le_refl _) (z64 hbx) hbel
  · have e2:(((a:Nat):Int) != (b.length:Nat))=true:=by rw[e1,decide_eq_false he];rfl
    have e3:¬(!(a,false).2&&decide ((a,false).1=b.length))=true:=by simp[he]
    rw[if_neg e3];simp -implicitDefEqProofs only[c101,r101,go_sem,g0,s0];refine CO.intro h1 ?_;simp -implicitDefEqProofs only[go_sem,z05,e2,g0,s0];exact Fini.trim2 (σ':=σ) (ex:=[_]) (by simp -implicitDefEqProofs only[go_sem,resA,z01,rvA,oneOf,g0]<;>rfl) rfl (Nat.le_refl _) (z64 (z8w _)) hbel
theorem z8x (b:Byt) (hb:b.length≤50000):Ans Tryz.prog 75 [.sl 1 (byv b)] σ (z4k (wholeO (bodyR b))) σ:=by
 rw[z8v (zbv b) zdj];have h1:=zeS (fun q=>σ++[B19,rob b q]) (σ.length+2) (σ.length+1) b (fun q=>by simp) (fun q=>g1 _ _ _ _) (fun q q'=>s1 _ _ _ _ _) hb (0,false) (Inb0 b)
 generalize bodyS b (0,false)=w at h1⊢;obtain⟨x,q⟩:=w;simp only at h1⊢;have h2:=zdm (σ++[B19,rob b q]) (σ.length+1) b q x (g1 _ _ _ _);unfold fitQ at h2;generalize (if(!q.2&&decide (q.1=b.length))=true then some x else none)=o at h2⊢
 have hbo:=zbw σ.length o
 have key:∃(y:ReM) (c:Bool),z4k o=.tup [reV y,Bo c]:=by
  unfold z4k
  cases o with
  |none=>exact⟨_,_,rfl⟩
  |some y=>exact⟨_,_,rfl⟩
 obtain⟨y,c,hy⟩:=key;rw[hy]at h2 hbo⊢;refine Ans.of_run' t75 (fun hbel _=>?_)
 unfold reV reC at *;simp -implicitDefEqProofs only[c75,r75,go_sem];refine CO.intro (new_ans _ b) ?_;simp -implicitDefEqProofs only[go_sem,List.append_assoc,List.length_append];refine CO.intro h1 ?_;simp -implicitDefEqProofs only[go_sem];refine CO.intro h2 ?_;simp -implicitDefEqProofs only[go_sem,g0,s0];exact Fini.trim2 (σ':=σ) (ex:=[_,_]) (by simp -implicitDefEqProofs only[go_sem,resA,z01,rvA,oneOf,g0]<;>rfl) rfl (Nat.le_refl _) hbo hbel
end
def dTab:List ByteArray:=[⟨#[45]⟩,⟨#[73]⟩,⟨#[73,84]⟩,⟨#[73,84]⟩,⟨#[83,69,77,66]⟩,⟨#[73,83,69,77,66]⟩,⟨#[73]⟩,⟨#[90]⟩,⟨#[82]⟩,⟨#[73]⟩,⟨#[76,86]⟩,⟨#[73]⟩,⟨#[77]⟩,⟨#[45]⟩,⟨#[73]⟩,⟨#[45]⟩,⟨#[45]⟩]
def dOf (op:Int):ByteArray:=if 1≤op∧op≤17 then dTab.getD (op.toNat-1) ⟨#[]⟩ else⟨#[]⟩
theorem zfA {op:Int} (h:op<1∨17<op):dOf op=⟨#[]⟩:=by unfold dOf;rw[if_neg (by omega)]
def hasC (s:ByteArray) (c:Nat):Bool:=!((List.range s.size).all fun i=>!((byteAt s i:Int)==(c:Int)))
section
variable (σ:St)
theorem z0V (op:Int):Ans Tryz.prog 77 [I op] σ (Sx (dOf op)) σ:=by
 refine Ans.of_run t77 ?_;rcases ops17 op with rfl|rfl|rfl|rfl|rfl|rfl|rfl|rfl|rfl|rfl|rfl|rfl|rfl|rfl|rfl|rfl|rfl|h
 all_goals first
  |(rw[zfA h]
    simp -implicitDefEqProofs only[c77,r77,go_sem,neI (op:=op) (k:=1) (by omega),neI (op:=op) (k:=2) (by omega),neI (op:=op) (k:=3) (by omega),neI (op:=op) (k:=4) (by omega),neI (op:=op) (k:=5) (by omega),neI (op:=op) (k:=6) (by omega),neI (op:=op) (k:=7) (by omega),neI (op:=op) (k:=8) (by omega),neI (op:=op) (k:=9) (by omega),neI (op:=op) (k:=10) (by omega),neI (op:=op) (k:=11) (by omega),neI (op:=op) (k:=12) (by omega),neI (op:=op) (k:=13) (by omega),neI (op:=op) (k:=14) (by omega),neI (op:=op) (k:=15) (by omega),neI (op:=op) (k:=16) (by omega),neI (op:=op) (k:=17) (by omega)]
    exact Fini.ret rfl)
  |(simp -implicitDefEqProofs only[c77,r77,go_sem]
    exact Fini.ret rfl)
theorem z2e (s:ByteArray):Ans Tryz.prog 104 [Sx s] σ (Bo (tokB s)) σ:=by
 have d1:decide ((4:Int)≤(s.size:Nat))=decide (4≤s.size):=intle 4 s.size;have d2:decide (((s.size:Nat):Int)≤16)=decide (s.size≤16):=intle s.size 16;refine Ans.of_run t104 ?_;unfold tokB
 cases h:decide (4≤s.size) with
 |false =>
  simp -implicitDefEqProofs only[c104,r104,go_sem,d1,h];exact Fini.ret rfl
 |true =>
  simp -implicitDefEqProofs only[c104,r104,go_sem,d1,d2,h];exact Fini.ret rfl
theorem z1j (x:Bnd):Ans Tryz.prog 106 [bandV x] σ (Bo (noBd x)) σ:=by
 obtain⟨a,lo,hi⟩:=x;refine Ans.of_run t106 ?_;unfold bandV noBd;simp only
 cases a with
 |true =>
  simp -implicitDefEqProofs only[c106,r106,go_sem];exact Fini.ret rfl
 |false =>
  simp -implicitDefEqProofs only[c106,r106,go_sem];refine CO.intro (z0O σ lo) ?_;unfold zF
  cases h:(((bitsF lo:Nat):Int)==0) with
  |false =>
   simp -implicitDefEqProofs only[go_sem,h];exact Fini.ret rfl
  |true =>
   simp -implicitDefEqProofs only[go_sem,h];refine CO.intro (z0O σ hi) ?_;simp -implicitDefEqProofs only[go_sem];exact Fini.ret rfl
theorem z1u (r:RuM):Ans Tryz.prog 109 [ruV r] σ (Bo (noRl r)) σ:=by
 have hb:=z1j σ (r.any,r.lo,r.hi)
 have e:noRl r=(emI r.src.length&&(emI r.tgt.length&&(noBd (r.any,r.lo,r.hi)&&emI r.eq.length))):=by
  unfold noRl;cases emI r.src.length<;>cases emI r.tgt.length<;>cases emI r.eq.length<;>cases noBd (r.any,r.lo,r.hi)<;>rfl
 rw[e];refine Ans.of_run t109 ?_;unfold ruV emI;unfold bandV at hb
 cases h1:(((r.src.length:Nat):Int)==0) with
 |false =>
  simp -implicitDefEqProofs only[c109,r109,go_sem,z0r,h1];exact Fini.ret rfl
 |true =>
 cases h2:(((r.tgt.length:Nat):Int)==0) with
 |false =>
  simp -implicitDefEqProofs only[c109,r109,go_sem,z0r,h1,h2];exact Fini.ret rfl
 |true =>
  simp -implicitDefEqProofs only[c109,r109,go_sem,z0r,z0L,h1,h2];refine CO.intro hb ?_
  cases noBd (r.any,r.lo,r.hi) with
  |false =>
   simp -implicitDefEqProofs only[go_sem];exact Fini.ret rfl
  |true =>
   simp -implicitDefEqProofs only[go_sem,z0L];exact Fini.ret rfl
theorem z2f (s:ByteArray) (c:Nat) (hs:s.size≤100000):Ans Tryz.prog 103 [Sx s,.pl (.int .u8 c)] σ (Bo (hasC s c)) σ:=by
 refine Ans.of_run t103 ?_;simp -implicitDefEqProofs only[c103,r103,go_sem];unfold hasC;refine Go.Ab.L.scan s.size (fun i=>!((byteAt s i:Int)==(c:Int))) (fun i=>mkE 17 [(0,Sx s),(1,.pl (.int .u8 c)),(5,I i)]) (fun _=>σ) ?_ ?_ rfl rfl
 · intro i hi hp J hJ;have hlt:((i:Int)<s.size)=True:=by simp;omega
   have hin:=wrap_succ (i:=i) (by omega)
   have hF:(!((byteAt s i:Int)==(c:Int)))=false→((List.range s.size).all fun i=>!((byteAt s i:Int)==(c:Int)))=false:=fun h=>List.all_eq_false.2 ⟨i,List.mem_range.2 hi,by rw[h];decide⟩
   cases h:((byteAt s i:Int)==(c:Int)) with
   |true =>
    rw[hF (by rw[h];rfl)]
    simp -implicitDefEqProofs only[mkE,go_sem,hlt,dec_lt hi,z06,h];exact Fini.ret rfl
   |false =>
    rw[h]at hJ;have hgo:=hJ rfl;simp -implicitDefEqProofs only[mkE,go_sem,hlt,dec_lt hi,z06,h,hin];exact hgo
 · intro hp J;have hd:decide ((s.size:Int)<s.size)=false:=by simp
   simp -implicitDefEqProofs only[mkE,go_sem,hd];refine Fini.ret' rfl (z15 ?_);rw[List.all_eq_true.2 fun i hi=>hp i (List.mem_range.1 hi)];rfl
end
section
variable (σ:St)
theorem zeU (v:ByteArray):Ans Tryz.prog 135 [Sx v] σ (Bo (valB v)) σ:=by
 have d1:decide ((1:Int)≤(v.size:Nat))=decide (1≤v.size):=intle 1 v.size;have d2:decide (((v.size:Nat):Int)≤24)=decide (v.size≤24):=intle v.size 24;refine Ans.of_run t135 ?_;unfold valB
 cases h:decide (1≤v.size) with
 |false =>
  simp -implicitDefEqProofs only[c135,r135,go_sem,d1,h];exact Fini.ret rfl
 |true =>
  simp -implicitDefEqProofs only[c135,r135,go_sem,d1,d2,h];exact Fini.ret rfl
theorem z21 (L:List Lab) (hs:∀x∈L,x.1.size≤100000):Ans Tryz.prog 110 [.sl 2 (lvs L)] σ (Bo (setB L)) σ:=by
 have e1:decide ((L.length:Int)<1)= !decide (1≤L.length):=by
  by_cases h:1≤L.length
  · rw[decide_eq_true h,decide_eq_false (by omega)];rfl
  · rw[decide_eq_false h,decide_eq_true (by omega)];rfl
 have e2:decide ((6:Int)<L.length)= !decide (L.length≤6):=by
  by_cases h:L.length≤6
  · rw[decide_eq_true h,decide_eq_false (by omega)];rfl
  · rw[decide_eq_false h,decide_eq_true (by omega)];rfl
 refine Ans.of_run t110 ?_;unfold setB
 cases h1:decide (1≤L.length) with
 |false =>
  simp -implicitDefEqProofs only[c110,r110,go_sem,z0g,e1,h1];exact Fini.ret rfl
 |true =>
 cases h2:decide (L.length≤6) with
 |false =>
  simp -implicitDefEqProofs only[c110,r110,go_sem,z0g,e1,e2,h1,h2];exact Fini.ret rfl
 |true =>
 have hl6:L.length≤6:=of_decide_eq_true h2;simp -implicitDefEqProofs only[c110,r110,go_sem,z0g,e1,e2,h1,h2];refine Go.Ab.L.scan L.length (labOk L) (fun i=>mkE 52 [(0,.sl 2 (lvs L)),(3,I i)]) (fun _=>σ) ?_ ?_ rfl rfl
 · intro i hi hp J hJ;have hx:=lvs_D L i hi;have hF:labOk L i=false→(List.range L.length).all (labOk L)=false:=fun h=>List.all_eq_false.2 ⟨i,List.mem_range.2 hi,by rw[h];decide⟩
   have hin:=wrap_succ (i:=i) (by omega)
   have d0:decide ((0:Int)<i)=decide (0<i):=by rw[Bool.eq_iff_iff];simp
   have hO:labOk L i=(nameB (L.getD i noLb).1&&(valB (L.getD i noLb).2&& !(decide (0<i)&&leS (L.getD i noLb).1 (L.getD (i-1) noLb).1))):=rfl
   have hsz:(L.getD i noLb).1.size≤100000:=by
    rw[List.getD_eq_getElem?_getD,List.getElem?_eq_getElem hi];exact hs _ (List.getElem_mem hi)
   rw[hO]at hJ hF;generalize L.getD i noLb=x at hJ hF hx hsz;obtain⟨nm,v⟩:=x;simp only at hJ hF hx hsz;have n1:=fun s=>z5Q s nm hsz
   have n2:=fun s=>zeU s v
   simp -implicitDefEqProofs only[mkE,go_sem,z00,z0g,z0b hi,dec_lt hi,hx]
   first|refine CD.intro (n1 _) ?_|refine CS.intro n1 ?_
   cases hb1:nameB nm with
   |false =>
    rw[hb1]at hF;rw[hF rfl];simp -implicitDefEqProofs only[go_sem,z00];exact Fini.ret rfl
   |true =>
    rw[hb1]at hF hJ;simp -implicitDefEqProofs only[go_sem,z00,z0g,z0b hi,hx]
    first|refine CD.intro (n2 _) ?_|refine CS.intro n2 ?_
    cases hb2:valB v with
    |false =>
     rw[hb2]at hF;rw[hF rfl];simp -implicitDefEqProofs only[go_sem,z00];exact Fini.ret rfl
    |true =>
     rw[hb2]at hF hJ;by_cases hz:i=0
     · subst hz;have hgo:=hJ rfl;simp -implicitDefEqProofs only[go_sem,z00,d0,hin];exact hgo
     · have hpos:decide (0<i)=true:=decide_eq_true (by omega)
       have hx1:=lvs_D L (i-1) (by omega)
       have w1:IntKind.i64.wrap ((i:Int)-1)=((i-1:Nat):Int):=by rw[wrapN (by omega) (by omega)];omega
       have hlt1:(((i-1:Nat):Int)<L.length)=True:=by simp;omega
       rw[hpos]at hJ hF;generalize L.getD (i-1) noLb=x1 at hJ hF hx1;obtain⟨nm1,v1⟩:=x1;simp only at hJ hF hx1;have hle:(Op.bytesLess nm.toList nm1.toList||nm.toList==nm1.toList)=leS nm nm1:=rfl;simp -implicitDefEqProofs only[go_sem,z00,d0,hpos,w1,z0g,z0b hi,hx,hlt1,hx1,hle]
       cases h7:leS nm nm1 with
       |true =>
        rw[h7]at hF;rw[hF rfl];simp -implicitDefEqProofs only[go_sem];exact Fini.ret rfl
       |false =>
        rw[h7]at hJ;have hgo:=hJ rfl;simp -implicitDefEqProofs only[go_sem,hin];exact hgo
 · intro hp J;have hd:decide ((L.length:Int)<L.length)=false:=by simp
   simp -implicitDefEqProofs only[mkE,go_sem,z0g,hd];refine Fini.ret' rfl (z15 ?_);exact(List.all_eq_true.2 fun i hi=>hp i (List.mem_range.1 hi)).symm
end
structure ReSm (r:ReM):Prop where
 mt:∀x∈r.mt,x.2.1.size≤100000
 ru:RSm r.ru
 ls:∀x∈r.ls,x.1.size≤100000
def docB (r:ReM) (s:ByteArray):Bool :=
 (hasC s 73||r.id==0)&&(decide (0≤r.id)&&(decide (r.id≤2147483647)&&((!hasC s 84||tokB r.txt)&&((hasC s 84||emS r.txt)&&((hasC s 83||emU r.st)&&((hasC s 83||emU r.en)&&(clkB r.st&&(clkB r.en&&((hasC s 90||r.sta==0)&&(decide (0≤r.sta)&&(decide (r.sta≤3)&&((hasC s 77||emI r.mt.length)&&((!hasC s 83|| !emI r.mt.length)&&(listB r.mt&&((hasC s 66||noBd (r.any,r.lo,r.hi))&&(mayB r.any r.lo r.hi&&((!hasC s 82||ruIs r.ru)&&((hasC s 82||noRl r.ru)&&(if hasC s 76 then setB r.ls else emI r.ls.length&&zF r.val)))))))))))))))))))
theorem ne_of {x:Int} {v:Bool} (h:(x==0)=v):(x != 0)= !v:=by rw[bne,h]
theorem lt_of {x:Int} {v:Bool} (h:decide (0≤x)=v):decide (x<0)= !v:=by
 rw[←h,Bool.eq_iff_iff];simp
theorem gt_of {x c:Int} {v:Bool} (h:decide (x≤c)=v):decide (c<x)= !v:=by
 rw[←h,Bool.eq_iff_iff];simp
abbrev S0:ByteArray:=⟨#[45]⟩
theorem hc_0:hasC S0 73=false∧hasC S0 84=false∧hasC S0 83=false∧hasC S0 90=false∧hasC S0 77=false∧hasC S0 66=false∧hasC S0 82=false∧hasC S0 76=false:=by decide +kernel
theorem hn_0:(S0.toList==(⟨#[]⟩:ByteArray).toList)=false:=by decide +kernel
abbrev S1:ByteArray:=⟨#[73]⟩
theorem hc_1:hasC S1 73=true∧hasC S1 84=false∧hasC S1 83=false∧hasC S1 90=false∧hasC S1 77=false∧hasC S1 66=false∧hasC S1 82=false∧hasC S1 76=false:=by decide +kernel
theorem hn_1:(S1.toList==(⟨#[]⟩:ByteArray).toList)=false:=by decide +kernel
abbrev S3:ByteArray:=⟨#[73,84]⟩
theorem hc_3:hasC S3 73=true∧hasC S3 84=true∧hasC S3 83=false∧hasC S3 90=false∧hasC S3 77=false∧hasC S3 66=false∧hasC S3 82=false∧hasC S3 76=false:=by decide +kernel
theorem hn_3:(S3.toList==(⟨#[]⟩:ByteArray).toList)=false:=by decide +kernel
abbrev S116:ByteArray:=⟨#[83,69,77,66]⟩
theorem zdn:hasC S116 73=false∧hasC S116 84=false∧hasC S116 83=true∧hasC S116 90=false∧hasC S116 77=true∧hasC S116 66=true∧hasC S116 82=false∧hasC S116 76=false:=by decide +kernel
theorem zhK:(S116.toList==(⟨#[]⟩:ByteArray).toList)=false:=by decide +kernel
abbrev S117:ByteArray:=⟨#[73,83,69,77,66]⟩
theorem zdo:hasC S117 73=true∧hasC S117 84=false∧hasC S117 83=true∧hasC S117 90=false∧hasC S117 77=true∧hasC S117 66=true∧hasC S117 82=false∧hasC S117 76=false:=by decide +kernel
theorem zhL:(S117.toList==(⟨#[]⟩:ByteArray).toList)=false:=by decide +kernel
abbrev S8:ByteArray:=⟨#[90]⟩
theorem hc_8:hasC S8 73=false∧hasC S8 84=false∧hasC S8 83=false∧hasC S8 90=true∧hasC S8 77=false∧hasC S8 66=false∧hasC S8 82=false∧hasC S8 76=false:=by decide +kernel
theorem hn_8:(S8.toList==(⟨#[]⟩:ByteArray).toList)=false:=by decide +kernel
abbrev S128:ByteArray:=⟨#[82]⟩
theorem zdp:hasC S128 73=false∧hasC S128 84=false∧hasC S128 83=false∧hasC S128 90=false∧hasC S128 77=false∧hasC S128 66=false∧hasC S128 82=true∧hasC S128 76=false:=by decide +kernel
theorem zhM:(S128.toList==(⟨#[]⟩:ByteArray).toList)=false:=by decide +kernel
abbrev S768:ByteArray:=⟨#[76,86]⟩
theorem zdq:hasC S768 73=false∧hasC S768 84=false∧hasC S768 83=false∧hasC S768 90=false∧hasC S768 77=false∧hasC S768 66=false∧hasC S768 82=false∧hasC S768 76=true:=by decide +kernel
theorem zhN:(S768.toList==(⟨#[]⟩:ByteArray).toList)=false:=by decide +kernel
abbrev S16:ByteArray:=⟨#[77]⟩
theorem hc_16:hasC S16 73=false∧hasC S16 84=false∧hasC S16 83=false∧hasC S16 90=false∧hasC S16 77=true∧hasC S16 66=false∧hasC S16 82=false∧hasC S16 76=false:=by decide +kernel
theorem hn_16:(S16.toList==(⟨#[]⟩:ByteArray).toList)=false:=by decide +kernel
attribute [go_sem] Bool.not_false Bool.not_true hn_0 hn_1 hn_3 zhK zhL hn_8 zhM zhN hn_16
section
variable (σ:St)
set_option maxHeartbeats 8000000 in
theorem z58 (r:ReM) (hr:ReSm r) (hd:dOf r.op=S0):Ans Tryz.prog 76 [reV r] σ (Bo (docB r S0)) σ:=by
 obtain⟨tok,op,id,txt,st,en,sta,mt,any,lo,hi,⟨src,tgt,ra,rl,rh,eq⟩,ls,val⟩:=r;obtain⟨hm,hru,hls⟩:=hr;simp only at hm hru hls hd;have k1:=z0V σ op;rw[hd]at k1;have ii:=fun c h=>z2f σ S0 c h
 have i73:=ii 73 (by decide)
 have i84:=ii 84 (by decide)
 have i83:=ii 83 (by decide)
 have i90:=ii 90 (by decide)
 have i77:=ii 77 (by decide)
 have i66:=ii 66 (by decide)
 have i82:=ii 82 (by decide)
 have i76:=ii 76 (by decide)
 simp only[hc_0]at i73 i84 i83 i90 i77 i66 i82 i76;have b0:=z2e σ txt;have b1:=z1e σ mt hm;have b2:=z1j σ (any,lo,hi);have b3:=z1Z σ any lo hi;have b4:=z1D σ ⟨src,tgt,ra,rl,rh,eq⟩ hru;have b5:=z1u σ ⟨src,tgt,ra,rl,rh,eq⟩;have b6:=z21 σ ls hls;have b7:=z0O σ val;unfold bandV at b2;unfold ruV at b4 b5;unfold docB;simp only[hc_0,Bool.true_or,Bool.false_or,Bool.not_true,Bool.not_false,Bool.true_and,if_true,Bool.false_eq_true,if_false];refine Ans.of_run t76 ?_;unfold reV reC;simp -implicitDefEqProofs only[c76,r76,go_sem];refine CO.intro k1 ?_;simp -implicitDefEqProofs only[go_sem];refine CO.intro i73 ?_
 cases h0:(id==0) with
 |false =>
  have fh00:=ne_of h0;simp -implicitDefEqProofs only[go_sem,h0,fh00];exact Fini.ret rfl
 |true =>
 have fh00:=ne_of h0
 cases h1:(decide (0≤id)) with
 |false =>
  have fh10:=lt_of h1;simp -implicitDefEqProofs only[go_sem,h0,fh00,h1,fh10];exact Fini.ret rfl
 |true =>
 have fh10:=lt_of h1
 cases h2:(decide (id≤2147483647)) with
 |false =>
  have fh20:=gt_of h2;simp -implicitDefEqProofs only[go_sem,h0,fh00,h1,fh10,h2,fh20];exact Fini.ret rfl
 |true =>
 have fh20:=gt_of h2;simp -implicitDefEqProofs only[go_sem,h0,fh00,h1,fh10,h2,fh20];refine CO.intro i84 ?_;simp -implicitDefEqProofs only[go_sem];refine CO.intro i84 ?_;unfold emS
 cases h3:(txt.toList==(⟨#[]⟩:ByteArray).toList) with
 |false =>
  simp -implicitDefEqProofs only[go_sem,h3];exact Fini.ret rfl
 |true =>
 simp -implicitDefEqProofs only[go_sem,h3];refine CO.intro i83 ?_;unfold emU
 cases h4:(((st:Nat):Int)==0) with
 |false =>
  have fh40:=ne_of h4;simp -implicitDefEqProofs only[go_sem,h4,fh40];exact Fini.ret rfl
 |true =>
 have fh40:=ne_of h4
 cases h5:(((en:Nat):Int)==0) with
 |false =>
  have fh50:=ne_of h5;simp -implicitDefEqProofs only[go_sem,h4,fh40,h5,fh50];exact Fini.ret rfl
 |true =>
 have fh50:=ne_of h5;unfold clkB
 cases h6:(decide (((st:Nat):Int)≤1099511627776)) with
 |false =>
  have fh60:=gt_of h6;simp -implicitDefEqProofs only[go_sem,h4,fh40,h5,fh50,h6,fh60];exact Fini.ret rfl
 |true =>
 have fh60:=gt_of h6
 cases h7:(decide (((en:Nat):Int)≤1099511627776)) with
 |false =>
  have fh70:=gt_of h7;simp -implicitDefEqProofs only[go_sem,h4,fh40,h5,fh50,h6,fh60,h7,fh70];exact Fini.ret rfl
 |true =>
 have fh70:=gt_of h7;simp -implicitDefEqProofs only[go_sem,h4,fh40,h5,fh50,h6,fh60,h7,fh70];refine CO.intro i90 ?_
 cases h8:(sta==0) with
 |false =>
  have fh80:=ne_of h8;simp -implicitDefEqProofs only[go_sem,h8,fh80];exact Fini.ret rfl
 |true =>
 have fh80:=ne_of h8
 cases h9:(decide (0≤sta)) with
 |false =>
  have fh90:=lt_of h9;simp -implicitDefEqProofs only[go_sem,h8,fh80,h9,fh90];exact Fini.ret rfl
 |true =>
 have fh90:=lt_of h9
 cases h10:(decide (sta≤3)) with
 |false =>
  have fh100:=gt_of h10;simp -implicitDefEqProofs only[go_sem,h8,fh80,h9,fh90,h10,fh100];exact Fini.ret rfl
 |true =>
 have fh100:=gt_of h10;simp -implicitDefEqProofs only[go_sem,h8,fh80,h9,fh90,h10,fh100];refine CO.intro i77 ?_;have hl:=z4P mt.length
 cases hm0:(emI mt.length) with
 |false =>
  rw[hm0]at hl;simp -implicitDefEqProofs only[go_sem,hl];exact Fini.ret rfl
 |true =>
 rw[hm0]at hl;simp -implicitDefEqProofs only[go_sem,hl];refine CO.intro i83 ?_;simp -implicitDefEqProofs only[go_sem];refine CO.intro b1 ?_
 cases h11:(listB mt) with
 |false =>
  simp -implicitDefEqProofs only[go_sem];exact Fini.ret rfl
 |true =>
 simp -implicitDefEqProofs only[go_sem];refine CO.intro i66 ?_;simp -implicitDefEqProofs only[go_sem];refine CO.intro b2 ?_
 cases h12:(noBd (any,lo,hi)) with
 |false =>
  simp -implicitDefEqProofs only[go_sem];exact Fini.ret rfl
 |true =>
 simp -implicitDefEqProofs only[go_sem];refine CO.intro b3 ?_
 cases h13:(mayB any lo hi) with
 |false =>
  simp -implicitDefEqProofs only[go_sem];exact Fini.ret rfl
 |true =>
 simp -implicitDefEqProofs only[go_sem];refine CO.intro i82 ?_;simp -implicitDefEqProofs only[go_sem];refine CO.intro i82 ?_;simp -implicitDefEqProofs only[go_sem];refine CO.intro b5 ?_
 cases h14:(noRl ⟨src,tgt,ra,rl,rh,eq⟩) with
 |false =>
  simp -implicitDefEqProofs only[go_sem];exact Fini.ret rfl
 |true =>
 simp -implicitDefEqProofs only[go_sem];refine CO.intro i76 ?_;unfold emI zF
 cases h15:(((ls.length:Nat):Int)==0) with
 |false =>
  simp -implicitDefEqProofs only[go_sem,h15];exact Fini.ret rfl
 |true =>
 simp -implicitDefEqProofs only[go_sem,h15];refine CO.intro b7 ?_;simp -implicitDefEqProofs only[go_sem];exact Fini.ret rfl
set_option maxHeartbeats 8000000 in
theorem z4l (r:ReM) (hr:ReSm r) (hd:dOf r.op=S1):Ans Tryz.prog 76 [reV r] σ (Bo (docB r S1)) σ:=by
 obtain⟨tok,op,id,txt,st,en,sta,mt,any,lo,hi,⟨src,tgt,ra,rl,rh,eq⟩,ls,val⟩:=r;obtain⟨hm,hru,hls⟩:=hr;simp only at hm hru hls hd;have k1:=z0V σ op;rw[hd]at k1;have ii:=fun c h=>z2f σ S1 c h
 have i73:=ii 73 (by decide)
 have i84:=ii 84 (by decide)
 have i83:=ii 83 (by decide)
 have i90:=ii 90 (by decide)
 have i77:=ii 77 (by decide)
 have i66:=ii 66 (by decide)
 have i82:=ii 82 (by decide)
 have i76:=ii 76 (by decide)
 simp only[hc_1]at i73 i84 i83 i90 i77 i66 i82 i76;have b0:=z2e σ txt;have b1:=z1e σ mt hm;have b2:=z1j σ (any,lo,hi);have b3:=z1Z σ any lo hi;have b4:=z1D σ ⟨src,tgt,ra,rl,rh,eq⟩ hru;have b5:=z1u σ ⟨src,tgt,ra,rl,rh,eq⟩;have b6:=z21 σ ls hls;have b7:=z0O σ val;unfold bandV at b2;unfold ruV at b4 b5;unfold docB;simp only[hc_1,Bool.true_or,Bool.false_or,Bool.not_true,Bool.not_false,Bool.true_and,if_true,Bool.false_eq_true,if_false];refine Ans.of_run t76 ?_;unfold reV reC;simp -implicitDefEqProofs only[c76,r76,go_sem];refine CO.intro k1 ?_;simp -implicitDefEqProofs only[go_sem];refine CO.intro i73 ?_
 cases h0:(decide (0≤id)) with
 |false =>
  have fh00:=lt_of h0;simp -implicitDefEqProofs only[go_sem,h0,fh00];exact Fini.ret rfl
 |true =>
 have fh00:=lt_of h0
 cases h1:(decide (id≤2147483647)) with
 |false =>
  have fh10:=gt_of h1;simp -implicitDefEqProofs only[go_sem,h0,fh00,h1,fh10];exact Fini.ret rfl
 |true =>
 have fh10:=gt_of h1;simp -implicitDefEqProofs only[go_sem,h0,fh00,h1,fh10];refine CO.intro i84 ?_;simp -implicitDefEqProofs only[go_sem];refine CO.intro i84 ?_;unfold emS
 cases h2:(txt.toList==(⟨#[]⟩:ByteArray).toList) with
 |false =>
  simp -implicitDefEqProofs only[go_sem,h2];exact Fini.ret rfl
 |true =>
 simp -implicitDefEqProofs only[go_sem,h2];refine CO.intro i83 ?_;unfold emU
 cases h3:(((st:Nat):Int)==0) with
 |false =>
  have fh30:=ne_of h3;simp -implicitDefEqProofs only[go_sem,h3,fh30];exact Fini.ret rfl
 |true =>
 have fh30:=ne_of h3
 cases h4:(((en:Nat):Int)==0) with
 |false =>
  have fh40:=ne_of h4;simp -implicitDefEqProofs only[go_sem,h3,fh30,h4,fh40];exact Fini.ret rfl
 |true =>
 have fh40:=ne_of h4;unfold clkB
 cases h5:(decide (((st:Nat):Int)≤1099511627776)) with
 |false =>
  have fh50:=gt_of h5;simp -implicitDefEqProofs only[go_sem,h3,fh30,h4,fh40,h5,fh50];exact Fini.ret rfl
 |true =>
 have fh50:=gt_of h5
 cases h6:(decide (((en:Nat):Int)≤1099511627776)) with
 |false =>
  have fh60:=gt_of h6;simp -implicitDefEqProofs only[go_sem,h3,fh30,h4,fh40,h5,fh50,h6,fh60];exact Fini.ret rfl
 |true =>
 have fh60:=gt_of h6;simp -implicitDefEqProofs only[go_sem,h3,fh30,h4,fh40,h5,fh50,h6,fh60];refine CO.intro i90 ?_
 cases h7:(sta==0) with
 |false =>
  have fh70:=ne_of h7;simp -implicitDefEqProofs only[go_sem,h7,fh70];exact Fini.ret rfl
 |true =>
 have fh70:=ne_of h7
 cases h8:(decide (0≤sta)) with
 |false =>
  have fh80:=lt_of h8;simp -implicitDefEqProofs only[go_sem,h7,fh70,h8,fh80];exact Fini.ret rfl
 |true =>
 have fh80:=lt_of h8
 cases h9:(decide (sta≤3)) with
 |false =>
  have fh90:=gt_of h9;simp -implicitDefEqProofs only[go_sem,h7,fh70,h8,fh80,h9,fh90];exact Fini.ret rfl
 |true =>
 have fh90:=gt_of h9;simp -implicitDefEqProofs only[go_sem,h7,fh70,h8,fh80,h9,fh90];refine CO.intro i77 ?_;have hl:=z4P mt.length
 cases hm0:(emI mt.length) with
 |false =>
  rw[hm0]at hl;simp -implicitDefEqProofs only[go_sem,hl];exact Fini.ret rfl
 |true =>
 rw[hm0]at hl;simp -implicitDefEqProofs only[go_sem,hl];refine CO.intro i83 ?_;simp -implicitDefEqProofs only[go_sem];refine CO.intro b1 ?_
 cases h10:(listB mt) with
 |false =>
  simp -implicitDefEqProofs only[go_sem];exact Fini.ret rfl
 |true =>
 simp -implicitDefEqProofs only[go_sem];refine CO.intro i66 ?_;simp -implicitDefEqProofs only[go_sem];refine CO.intro b2 ?_
 cases h11:(noBd (any,lo,hi)) with
 |false =>
  simp -implicitDefEqProofs only[go_sem];exact Fini.ret rfl
 |true =>
 simp -implicitDefEqProofs only[go_sem];refine CO.intro b3 ?_
 cases h12:(mayB any lo hi) with
 |false =>
  simp -implicitDefEqProofs only[go_sem];exact Fini.ret rfl
 |true =>
 simp -implicitDefEqProofs only[go_sem];refine CO.intro i82 ?_;simp -implicitDefEqProofs only[go_sem];refine CO.intro i82 ?_;simp -implicitDefEqProofs only[go_sem];refine CO.intro b5 ?_
 cases h13:(noRl ⟨src,tgt,ra,rl,rh,eq⟩) with
 |false =>
  simp -implicitDefEqProofs only[go_sem];exact Fini.ret rfl
 |true =>
 simp -implicitDefEqProofs only[go_sem];refine CO.intro i76 ?_;unfold emI zF
 cases h14:(((ls.length:Nat):Int)==0) with
 |false =>
  simp -implicitDefEqProofs only[go_sem,h14];exact Fini.ret rfl
 |true =>
 simp -implicitDefEqProofs only[go_sem,h14];refine CO.intro b7 ?_;simp -implicitDefEqProofs only[go_sem];exact Fini.ret rfl
set_option maxHeartbeats 8000000 in
theorem zaC (r:ReM) (hr:ReSm r) (hd:dOf r.op=S3):Ans Tryz.prog 76 [reV r] σ (Bo (docB r S3)) σ:=by
 obtain⟨tok,op,id,txt,st,en,sta,mt,any,lo,hi,⟨src,tgt,ra,rl,rh,eq⟩,ls,val⟩:=r;obtain⟨hm,hru,hls⟩:=hr;simp only at hm hru hls hd;have k1:=z0V σ op;rw[hd]at k1;have ii:=fun c h=>z2f σ S3 c h
 have i73:=ii 73 (by decide)
 have i84:=ii 84 (by decide)
 have i83:=ii 83 (by decide)
 have i90:=ii 90 (by decide)
 have i77:=ii 77 (by decide)
 have i66:=ii 66 (by decide)
 have i82:=ii 82 (by decide)
 have i76:=ii 76 (by decide)
 simp only[hc_3]at i73 i84 i83 i90 i77 i66 i82 i76;have b0:=z2e σ txt;have b1:=z1e σ mt hm;have b2:=z1j σ (any,lo,hi);have b3:=z1Z σ any lo hi;have b4:=z1D σ ⟨src,tgt,ra,rl,rh,eq⟩ hru;have b5:=z1u σ ⟨src,tgt,ra,rl,rh,eq⟩;have b6:=z21 σ ls hls;have b7:=z0O σ val;unfold bandV at b2;unfold ruV at b4 b5;unfold docB;simp only[hc_3,Bool.true_or,Bool.false_or,Bool.not_true,Bool.not_false,Bool.true_and,if_true,Bool.false_eq_true,if_false];refine Ans.of_run t76 ?_;unfold reV reC;simp -implicitDefEqProofs only[c76,r76,go_sem];refine CO.intro k1 ?_;simp -implicitDefEqProofs only[go_sem];refine CO.intro i73 ?_
 cases h0:(decide (0≤id)) with
 |false =>
  have fh00:=lt_of h0;simp -implicitDefEqProofs only[go_sem,h0,fh00];exact Fini.ret rfl
 |true =>
 have fh00:=lt_of h0
 cases h1:(decide (id≤2147483647)) with
 |false =>
  have fh10:=gt_of h1;simp -implicitDefEqProofs only[go_sem,h0,fh00,h1,fh10];exact Fini.ret rfl
 |true =>
 have fh10:=gt_of h1;simp -implicitDefEqProofs only[go_sem,h0,fh00,h1,fh10];refine CO.intro i84 ?_;simp -implicitDefEqProofs only[go_sem];refine CO.intro b0 ?_
 cases h2:(tokB txt) with
 |false =>
  simp -implicitDefEqProofs only[go_sem];exact Fini.ret rfl
 |true =>
 simp -implicitDefEqProofs only[go_sem];refine CO.intro i84 ?_;simp -implicitDefEqProofs only[go_sem];refine CO.intro i83 ?_;unfold emU
 cases h3:(((st:Nat):Int)==0) with
 |false =>
  have fh30:=ne_of h3;simp -implicitDefEqProofs only[go_sem,h3,fh30];exact Fini.ret rfl
 |true =>
 have fh30:=ne_of h3
 cases h4:(((en:Nat):Int)==0) with
 |false =>
  have fh40:=ne_of h4;simp -implicitDefEqProofs only[go_sem,h3,fh30,h4,fh40];exact Fini.ret rfl
 |true =>
 have fh40:=ne_of h4;unfold clkB
 cases h5:(decide (((st:Nat):Int)≤1099511627776)) with
 |false =>
  have fh50:=gt_of h5;simp -implicitDefEqProofs only[go_sem,h3,fh30,h4,fh40,h5,fh50];exact Fini.ret rfl
 |true =>
 have fh50:=gt_of h5
 cases h6:(decide (((en:Nat):Int)≤1099511627776)) with
 |false =>
  have fh60:=gt_of h6;simp -implicitDefEqProofs only[go_sem,h3,fh30,h4,fh40,h5,fh50,h6,fh60];exact Fini.ret rfl
 |true =>
 have fh60:=gt_of h6;simp -implicitDefEqProofs only[go_sem,h3,fh30,h4,fh40,h5,fh50,h6,fh60];refine CO.intro i90 ?_
 cases h7:(sta==0) with
 |false =>
  have fh70:=ne_of h7;simp -implicitDefEqProofs only[go_sem,h7,fh70];exact Fini.ret rfl
 |true =>
 have fh70:=ne_of h7
 cases h8:(decide (0≤sta)) with
 |false =>
  have fh80:=lt_of h8;simp -implicitDefEqProofs only[go_sem,h7,fh70,h8,fh80];exact Fini.ret rfl
 |true =>
 have fh80:=lt_of h8
 cases h9:(decide (sta≤3)) with
 |false =>
  have fh90:=gt_of h9;simp -implicitDefEqProofs only[go_sem,h7,fh70,h8,fh80,h9,fh90];exact Fini.ret rfl
 |true =>
 have fh90:=gt_of h9;simp -implicitDefEqProofs only[go_sem,h7,fh70,h8,fh80,h9,fh90];refine CO.intro i77 ?_;have hl:=z4P mt.length
 cases hm0:(emI mt.length) with
 |false =>
  rw[hm0]at hl;simp -implicitDefEqProofs only[go_sem,hl];exact Fini.ret rfl
 |true =>
 rw[hm0]at hl;simp -implicitDefEqProofs only[go_sem,hl];refine CO.intro i83 ?_;simp -implicitDefEqProofs only[go_sem];refine CO.intro b1 ?_
 cases h10:(listB mt) with
 |false =>
  simp -implicitDefEqProofs only[go_sem];exact Fini.ret rfl
 |true =>
 simp -implicitDefEqProofs only[go_sem];refine CO.intro i66 ?_;simp -implicitDefEqProofs only[go_sem];refine CO.intro b2 ?_
 cases h11:(noBd (any,lo,hi)) with
 |false =>
  simp -implicitDefEqProofs only[go_sem];exact Fini.ret rfl
 |true =>
 simp -implicitDefEqProofs only[go_sem];refine CO.intro b3 ?_
 cases h12:(mayB any lo hi) with
 |false =>
  simp -implicitDefEqProofs only[go_sem];exact Fini.ret rfl
 |true =>
 simp -implicitDefEqProofs only[go_sem];refine CO.intro i82 ?_;simp -implicitDefEqProofs only[go_sem];refine CO.intro i82 ?_;simp -implicitDefEqProofs only[go_sem];refine CO.intro b5 ?_
 cases h13:(noRl ⟨src,tgt,ra,rl,rh,eq⟩) with
 |false =>
  simp -implicitDefEqProofs only[go_sem];exact Fini.ret rfl
 |true =>
 simp -implicitDefEqProofs only[go_sem];refine CO.intro i76 ?_;unfold emI zF
 cases h14:(((ls.length:Nat):Int)==0) with
 |false =>
  simp -implicitDefEqProofs only[go_sem,h14];exact Fini.ret rfl
 |true =>
 simp -implicitDefEqProofs only[go_sem,h14];refine CO.intro b7 ?_;simp -implicitDefEqProofs only[go_sem];exact Fini.ret rfl
end
section
variable (σ:St)
set_option maxHeartbeats 8000000 in
theorem zbx (r:ReM) (hr:ReSm r) (hd:dOf r.op=S116):Ans Tryz.prog 76 [reV r] σ (Bo (docB r S116)) σ:=by
 obtain⟨tok,op,id,txt,st,en,sta,mt,any,lo,hi,⟨src,tgt,ra,rl,rh,eq⟩,ls,val⟩:=r;obtain⟨hm,hru,hls⟩:=hr;simp only at hm hru hls hd;have k1:=z0V σ op;rw[hd]at k1;have ii:=fun c h=>z2f σ S116 c h
 have i73:=ii 73 (by decide)
 have i84:=ii 84 (by decide)
 have i83:=ii 83 (by decide)
 have i90:=ii 90 (by decide)
 have i77:=ii 77 (by decide)
 have i66:=ii 66 (by decide)
 have i82:=ii 82 (by decide)
 have i76:=ii 76 (by decide)
 simp only[zdn]at i73 i84 i83 i90 i77 i66 i82 i76;have b0:=z2e σ txt;have b1:=z1e σ mt hm;have b2:=z1j σ (any,lo,hi);have b3:=z1Z σ any lo hi;have b4:=z1D σ ⟨src,tgt,ra,rl,rh,eq⟩ hru;have b5:=z1u σ ⟨src,tgt,ra,rl,rh,eq⟩;have b6:=z21 σ ls hls;have b7:=z0O σ val;unfold bandV at b2;unfold ruV at b4 b5;unfold docB;simp only[zdn,Bool.true_or,Bool.false_or,Bool.not_true,Bool.not_false,Bool.true_and,if_true,Bool.false_eq_true,if_false];refine Ans.of_run t76 ?_;unfold reV reC;simp -implicitDefEqProofs only[c76,r76,go_sem];refine CO.intro k1 ?_;simp -implicitDefEqProofs only[go_sem];refine CO.intro i73 ?_
 cases h0:(id==0) with
 |false =>
  have fh00:=ne_of h0;simp -implicitDefEqProofs only[go_sem,h0,fh00];exact Fini.ret rfl
 |true =>
 have fh00:=ne_of h0
 cases h1:(decide (0≤id)) with
 |false =>
  have fh10:=lt_of h1;simp -implicitDefEqProofs only[go_sem,h0,fh00,h1,fh10];exact Fini.ret rfl
 |true =>
 have fh10:=lt_of h1
 cases h2:(decide (id≤2147483647)) with
 |false =>
  have fh20:=gt_of h2;simp -implicitDefEqProofs only[go_sem,h0,fh00,h1,fh10,h2,fh20];exact Fini.ret rfl
 |true =>
 have fh20:=gt_of h2;simp -implicitDefEqProofs only[go_sem,h0,fh00,h1,fh10,h2,fh20];refine CO.intro i84 ?_;simp -implicitDefEqProofs only[go_sem];refine CO.intro i84 ?_;unfold emS
 cases h3:(txt.toList==(⟨#[]⟩:ByteArray).toList) with
 |false =>
  simp -implicitDefEqProofs only[go_sem,h3];exact Fini.ret rfl
 |true =>
 simp -implicitDefEqProofs only[go_sem,h3];refine CO.intro i83 ?_;unfold clkB
 cases h4:(decide (((st:Nat):Int)≤1099511627776)) with
 |false =>
  have fh40:=gt_of h4;simp -implicitDefEqProofs only[go_sem,h4,fh40];exact Fini.ret rfl
 |true =>
 have fh40:=gt_of h4
 cases h5:(decide (((en:Nat):Int)≤1099511627776)) with
 |false =>
  have fh50:=gt_of h5;simp -implicitDefEqProofs only[go_sem,h4,fh40,h5,fh50];exact Fini.ret rfl
 |true =>
 have fh50:=gt_of h5;simp -implicitDefEqProofs only[go_sem,h4,fh40,h5,fh50];refine CO.intro i90 ?_
 cases h6:(sta==0) with
 |false =>
  have fh60:=ne_of h6;simp -implicitDefEqProofs only[go_sem,h6,fh60];exact Fini.ret rfl
 |true =>
 have fh60:=ne_of h6
 cases h7:(decide (0≤sta)) with
 |false =>
  have fh70:=lt_of h7;simp -implicitDefEqProofs only[go_sem,h6,fh60,h7,fh70];exact Fini.ret rfl
 |true =>
 have fh70:=lt_of h7
 cases h8:(decide (sta≤3)) with
 |false =>
  have fh80:=gt_of h8;simp -implicitDefEqProofs only[go_sem,h6,fh60,h7,fh70,h8,fh80];exact Fini.ret rfl
 |true =>
 have fh80:=gt_of h8;simp -implicitDefEqProofs only[go_sem,h6,fh60,h7,fh70,h8,fh80];refine CO.intro i77 ?_;simp -implicitDefEqProofs only[go_sem];refine CO.intro i83 ?_;have hl:(((mt.length:Nat):Int)==0)= !(!emI mt.length):=by rw[Bool.not_not];rfl
 cases hm0:(!emI mt.length) with
 |false =>
  rw[hm0]at hl;simp -implicitDefEqProofs only[go_sem,hl];exact Fini.ret rfl
 |true =>
 rw[hm0]at hl;simp -implicitDefEqProofs only[go_sem,hl];refine CO.intro b1 ?_
 cases h9:(listB mt) with
 |false =>
  simp -implicitDefEqProofs only[go_sem];exact Fini.ret rfl
 |true =>
 simp -implicitDefEqProofs only[go_sem];refine CO.intro i66 ?_;simp -implicitDefEqProofs only[go_sem];refine CO.intro b3 ?_
 cases h10:(mayB any lo hi) with
 |false =>
  simp -implicitDefEqProofs only[go_sem];exact Fini.ret rfl
 |true =>
 simp -implicitDefEqProofs only[go_sem];refine CO.intro i82 ?_;simp -implicitDefEqProofs only[go_sem];refine CO.intro i82 ?_;simp -implicitDefEqProofs only[go_sem];refine CO.intro b5 ?_
 cases h11:(noRl ⟨src,tgt,ra,rl,rh,eq⟩) with
 |false =>
  simp -implicitDefEqProofs only[go_sem];exact Fini.ret rfl
 |true =>
 simp -implicitDefEqProofs only[go_sem];refine CO.intro i76 ?_;unfold emI zF
 cases h12:(((ls.length:Nat):Int)==0) with
 |false =>
  simp -implicitDefEqProofs only[go_sem,h12];exact Fini.ret rfl
 |true =>
 simp -implicitDefEqProofs only[go_sem,h12];refine CO.intro b7 ?_;simp -implicitDefEqProofs only[go_sem];exact Fini.ret rfl
set_option maxHeartbeats 8000000 in
theorem zby (r:ReM) (hr:ReSm r) (hd:dOf r.op=S117):Ans Tryz.prog 76 [reV r] σ (Bo (docB r S117)) σ:=by
 obtain⟨tok,op,id,txt,st,en,sta,mt,any,lo,hi,⟨src,tgt,ra,rl,rh,eq⟩,ls,val⟩:=r;obtain⟨hm,hru,hls⟩:=hr;simp only at hm hru hls hd;have k1:=z0V σ op;rw[hd]at k1;have ii:=fun c h=>z2f σ S117 c h
 have i73:=ii 73 (by decide)
 have i84:=ii 84 (by decide)
 have i83:=ii 83 (by decide)
 have i90:=ii 90 (by decide)
 have i77:=ii 77 (by decide)
 have i66:=ii 66 (by decide)
 have i82:=ii 82 (by decide)
 have i76:=ii 76 (by decide)
 simp only[zdo]at i73 i84 i83 i90 i77 i66 i82 i76;have b0:=z2e σ txt;have b1:=z1e σ mt hm;have b2:=z1j σ (any,lo,hi);have b3:=z1Z σ any lo hi;have b4:=z1D σ ⟨src,tgt,ra,rl,rh,eq⟩ hru;have b5:=z1u σ ⟨src,tgt,ra,rl,rh,eq⟩;have b6:=z21 σ ls hls;have b7:=z0O σ val;unfold bandV at b2;unfold ruV at b4 b5;unfold docB;simp only[zdo,Bool.true_or,Bool.false_or,Bool.not_true,Bool.not_false,Bool.true_and,if_true,Bool.false_eq_true,if_false];refine Ans.of_run t76 ?_;unfold reV reC;simp -implicitDefEqProofs only[c76,r76,go_sem];refine CO.intro k1 ?_;simp -implicitDefEqProofs only[go_sem];refine CO.intro i73 ?_
 cases h0:(decide (0≤id)) with
 |false =>
  have fh00:=lt_of h0;simp -implicitDefEqProofs only[go_sem,h0,fh00];exact Fini.ret rfl
 |true =>
 have fh00:=lt_of h0
 cases h1:(decide (id≤2147483647)) with
 |false =>
  have fh10:=gt_of h1;simp -implicitDefEqProofs only[go_sem,h0,fh00,h1,fh10];exact Fini.ret rfl
 |true =>
 have fh10:=gt_of h1;simp -implicitDefEqProofs only[go_sem,h0,fh00,h1,fh10];refine CO.intro i84 ?_;simp -implicitDefEqProofs only[go_sem];refine CO.intro i84 ?_;unfold emS
 cases h2:(txt.toList==(⟨#[]⟩:ByteArray).toList) with
 |false =>
  simp -implicitDefEqProofs only[go_sem,h2];exact Fini.ret rfl
 |true =>
 simp -implicitDefEqProofs only[go_sem,h2];refine CO.intro i83 ?_;unfold clkB
 cases h3:(decide (((st:Nat):Int)≤1099511627776)) with
 |false =>
  have fh30:=gt_of h3;simp -implicitDefEqProofs only[go_sem,h3,fh30];exact Fini.ret rfl
 |true =>
 have fh30:=gt_of h3
 cases h4:(decide (((en:Nat):Int)≤1099511627776)) with
 |false =>
  have fh40:=gt_of h4;simp -implicitDefEqProofs only[go_sem,h3,fh30,h4,fh40];exact Fini.ret rfl
 |true =>
 have fh40:=gt_of h4;simp -implicitDefEqProofs only[go_sem,h3,fh30,h4,fh40];refine CO.intro i90 ?_
 cases h5:(sta==0) with
 |false =>
  have fh50:=ne_of h5;simp -implicitDefEqProofs only[go_sem,h5,fh50];exact Fini.ret rfl
 |true =>
 have fh50:=ne_of h5
 cases h6:(decide (0≤sta)) with
 |false =>
  have fh60:=lt_of h6;simp -implicitDefEqProofs only[go_sem,h5,fh50,h6,fh60];exact Fini.ret rfl
 |true =>
 have fh60:=lt_of h6
 cases h7:(decide (sta≤3)) with
 |false =>
  have fh70:=gt_of h7;simp -implicitDefEqProofs only[go_sem,h5,fh50,h6,fh60,h7,fh70];exact Fini.ret rfl
 |true =>
 have fh70:=gt_of h7;simp -implicitDefEqProofs only[go_sem,h5,fh50,h6,fh60,h7,fh70];refine CO.intro i77 ?_;simp -implicitDefEqProofs only[go_sem];refine CO.intro i83 ?_;have hl:(((mt.length:Nat):Int)==0)= !(!emI mt.length):=by rw[Bool.not_not];rfl
 cases hm0:(!emI mt.length) with
 |false =>
  rw[hm0]at hl;simp -implicitDefEqProofs only[go_sem,hl];exact Fini.ret rfl
 |true =>
 rw[hm0]at hl;simp -implicitDefEqProofs only[go_sem,hl];refine CO.intro b1 ?_
 cases h8:(listB mt) with
 |false =>
  simp -implicitDefEqProofs only[go_sem];exact Fini.ret rfl
 |true =>
 simp -implicitDefEqProofs only[go_sem];refine CO.intro i66 ?_;simp -implicitDefEqProofs only[go_sem];refine CO.intro b3 ?_
 cases h9:(mayB any lo hi) with
 |false =>
  simp -implicitDefEqProofs only[go_sem];exact Fini.ret rfl
 |true =>
 simp -implicitDefEqProofs only[go_sem];refine CO.intro i82 ?_;simp -implicitDefEqProofs only[go_sem];refine CO.intro i82 ?_;simp -implicitDefEqProofs only[go_sem];refine CO.intro b5 ?_
 cases h10:(noRl ⟨src,tgt,ra,rl,rh,eq⟩) with
 |false =>
  simp -implicitDefEqProofs only[go_sem];exact Fini.ret rfl
 |true =>
 simp -implicitDefEqProofs only[go_sem];refine CO.intro i76 ?_;unfold emI zF
 cases h11:(((ls.length:Nat):Int)==0) with
 |false =>
  simp -implicitDefEqProofs only[go_sem,h11];exact Fini.ret rfl
 |true =>
 simp -implicitDefEqProofs only[go_sem,h11];refine CO.intro b7 ?_;simp -implicitDefEqProofs only[go_sem];exact Fini.ret rfl
end
section
variable (σ:St)
set_option maxHeartbeats 8000000 in
theorem zeV (r:ReM) (hr:ReSm r) (hd:dOf r.op=S8):Ans Tryz.prog 76 [reV r] σ (Bo (docB r S8)) σ:=by
 obtain⟨tok,op,id,txt,st,en,sta,mt,any,lo,hi,⟨src,tgt,ra,rl,rh,eq⟩,ls,val⟩:=r;obtain⟨hm,hru,hls⟩:=hr;simp only at hm hru hls hd;have k1:=z0V σ op;rw[hd]at k1;have ii:=fun c h=>z2f σ S8 c h
 have i73:=ii 73 (by decide)
 have i84:=ii 84 (by decide)
 have i83:=ii 83 (by decide)
 have i90:=ii 90 (by decide)
 have i77:=ii 77 (by decide)
 have i66:=ii 66 (by decide)
 have i82:=ii 82 (by decide)
 have i76:=ii 76 (by decide)
 simp only[hc_8]at i73 i84 i83 i90 i77 i66 i82 i76;have b0:=z2e σ txt;have b1:=z1e σ mt hm;have b2:=z1j σ (any,lo,hi);have b3:=z1Z σ any lo hi;have b4:=z1D σ ⟨src,tgt,ra,rl,rh,eq⟩ hru;have b5:=z1u σ ⟨src,tgt,ra,rl,rh,eq⟩;have b6:=z21 σ ls hls;have b7:=z0O σ val;unfold bandV at b2;unfold ruV at b4 b5;unfold docB;simp only[hc_8,Bool.true_or,Bool.false_or,Bool.not_true,Bool.not_false,Bool.true_and,if_true,Bool.false_eq_true,if_false];refine Ans.of_run t76 ?_;unfold reV reC;simp -implicitDefEqProofs only[c76,r76,go_sem];refine CO.intro k1 ?_;simp -implicitDefEqProofs only[go_sem];refine CO.intro i73 ?_
 cases h0:(id==0) with
 |false =>
  have fh00:=ne_of h0;simp -implicitDefEqProofs only[go_sem,h0,fh00];exact Fini.ret rfl
 |true =>
 have fh00:=ne_of h0
 cases h1:(decide (0≤id)) with
 |false =>
  have fh10:=lt_of h1;simp -implicitDefEqProofs only[go_sem,h0,fh00,h1,fh10];exact Fini.ret rfl
 |true =>
 have fh10:=lt_of h1
 cases h2:(decide (id≤2147483647)) with
 |false =>
  have fh20:=gt_of h2;simp -implicitDefEqProofs only[go_sem,h0,fh00,h1,fh10,h2,fh20];exact Fini.ret rfl
 |true =>
 have fh20:=gt_of h2;simp -implicitDefEqProofs only[go_sem,h0,fh00,h1,fh10,h2,fh20];refine CO.intro i84 ?_;simp -implicitDefEqProofs only[go_sem];refine CO.intro i84 ?_;unfold emS
 cases h3:(txt.toList==(⟨#[]⟩:ByteArray).toList) with
 |false =>
  simp -implicitDefEqProofs only[go_sem,h3];exact Fini.ret rfl
 |true =>
 simp -implicitDefEqProofs only[go_sem,h3];refine CO.intro i83 ?_;unfold emU
 cases h4:(((st:Nat):Int)==0) with
 |false =>
  have fh40:=ne_of h4;simp -implicitDefEqProofs only[go_sem,h4,fh40];exact Fini.ret rfl
 |true =>
 have fh40:=ne_of h4
 cases h5:(((en:Nat):Int)==0) with
 |false =>
  have fh50:=ne_of h5;simp -implicitDefEqProofs only[go_sem,h4,fh40,h5,fh50];exact Fini.ret rfl
 |true =>
 have fh50:=ne_of h5;unfold clkB
 cases h6:(decide (((st:Nat):Int)≤1099511627776)) with
 |false =>
  have fh60:=gt_of h6;simp -implicitDefEqProofs only[go_sem,h4,fh40,h5,fh50,h6,fh60];exact Fini.ret rfl
 |true =>
 have fh60:=gt_of h6
 cases h7:(decide (((en:Nat):Int)≤1099511627776)) with
 |false =>
  have fh70:=gt_of h7;simp -implicitDefEqProofs only[go_sem,h4,fh40,h5,fh50,h6,fh60,h7,fh70];exact Fini.ret rfl
 |true =>
 have fh70:=gt_of h7;simp -implicitDefEqProofs only[go_sem,h4,fh40,h5,fh50,h6,fh60,h7,fh70];refine CO.intro i90 ?_
 cases h8:(decide (0≤sta)) with
 |false =>
  have fh80:=lt_of h8;simp -implicitDefEqProofs only[go_sem,h8,fh80];exact Fini.ret rfl
 |true =>
 have fh80:=lt_of h8
 cases h9:(decide (sta≤3)) with
 |false =>
  have fh90:=gt_of h9;simp -implicitDefEqProofs only[go_sem,h8,fh80,h9,fh90];exact Fini.ret rfl
 |true =>
 have fh90:=gt_of h9;simp -implicitDefEqProofs only[go_sem,h8,fh80,h9,fh90];refine CO.intro i77 ?_;have hl:=z4P mt.length
 cases hm0:(emI mt.length) with
 |false =>
  rw[hm0]at hl;simp -implicitDefEqProofs only[go_sem,hl];exact Fini.ret rfl
 |true =>
 rw[hm0]at hl;simp -implicitDefEqProofs only[go_sem,hl];refine CO.intro i83 ?_;simp -implicitDefEqProofs only[go_sem];refine CO.intro b1 ?_
 cases h10:(listB mt) with
 |false =>
  simp -implicitDefEqProofs only[go_sem];exact Fini.ret rfl
 |true =>
 simp -implicitDefEqProofs only[go_sem];refine CO.intro i66 ?_;simp -implicitDefEqProofs only[go_sem];refine CO.intro b2 ?_
 cases h11:(noBd (any,lo,hi)) with
 |false =>
  simp -implicitDefEqProofs only[go_sem];exact Fini.ret rfl
 |true =>
 simp -implicitDefEqProofs only[go_sem];refine CO.intro b3 ?_
 cases h12:(mayB any lo hi) with
 |false =>
  simp -implicitDefEqProofs only[go_sem];exact Fini.ret rfl
 |true =>
 simp -implicitDefEqProofs only[go_sem];refine CO.intro i82 ?_;simp -implicitDefEqProofs only[go_sem];refine CO.intro i82 ?_;simp -implicitDefEqProofs only[go_sem];refine CO.intro b5 ?_
 cases h13:(noRl ⟨src,tgt,ra,rl,rh,eq⟩) with
 |false =>
  simp -implicitDefEqProofs only[go_sem];exact Fini.ret rfl
 |true =>
 simp -implicitDefEqProofs only[go_sem];refine CO.intro i76 ?_;unfold emI zF
 cases h14:(((ls.length:Nat):Int)==0) with
 |false =>
  simp -implicitDefEqProofs only[go_sem,h14];exact Fini.ret rfl
 |true =>
 simp -implicitDefEqProofs only[go_sem,h14];refine CO.intro b7 ?_;simp -implicitDefEqProofs only[go_sem];exact Fini.ret rfl
set_option maxHeartbeats 8000000 in
theorem zbz (r:ReM) (hr:ReSm r) (hd:dOf r.op=S128):Ans Tryz.prog 76 [reV r] σ (Bo (docB r S128)) σ:=by
 obtain⟨tok,op,id,txt,st,en,sta,mt,any,lo,hi,⟨src,tgt,ra,rl,rh,eq⟩,ls,val⟩:=r;obtain⟨hm,hru,hls⟩:=hr;simp only at hm hru hls hd;have k1:=z0V σ op;rw[hd]at k1;have ii:=fun c h=>z2f σ S128 c h
 have i73:=ii 73 (by decide)
 have i84:=ii 84 (by decide)
 have i83:=ii 83 (by decide)
 have i90:=ii 90 (by decide)
 have i77:=ii 77 (by decide)
 have i66:=ii 66 (by decide)
 have i82:=ii 82 (by decide)
 have i76:=ii 76 (by decide)
 simp only[zdp]at i73 i84 i83 i90 i77 i66 i82 i76;have b0:=z2e σ txt;have b1:=z1e σ mt hm;have b2:=z1j σ (any,lo,hi);have b3:=z1Z σ any lo hi;have b4:=z1D σ ⟨src,tgt,ra,rl,rh,eq⟩ hru;have b5:=z1u σ ⟨src,tgt,ra,rl,rh,eq⟩;have b6:=z21 σ ls hls;have b7:=z0O σ val;unfold bandV at b2;unfold ruV at b4 b5;unfold docB;simp only[zdp,Bool.true_or,Bool.false_or,Bool.not_true,Bool.not_false,Bool.true_and,if_true,Bool.false_eq_true,if_false];refine Ans.of_run t76 ?_;unfold reV reC;simp -implicitDefEqProofs only[c76,r76,go_sem];refine CO.intro k1 ?_;simp -implicitDefEqProofs only[go_sem];refine CO.intro i73 ?_
 cases h0:(id==0) with
 |false =>
  have fh00:=ne_of h0;simp -implicitDefEqProofs only[go_sem,h0,fh00];exact Fini.ret rfl
 |true =>
 have fh00:=ne_of h0
 cases h1:(decide (0≤id)) with
 |false =>
  have fh10:=lt_of h1;simp -implicitDefEqProofs only[go_sem,h0,fh00,h1,fh10];exact Fini.ret rfl
 |true =>
 have fh10:=lt_of h1
 cases h2:(decide (id≤2147483647)) with
 |false =>
  have fh20:=gt_of h2;simp -implicitDefEqProofs only[go_sem,h0,fh00,h1,fh10,h2,fh20];exact Fini.ret rfl
 |true =>
 have fh20:=gt_of h2;simp -implicitDefEqProofs only[go_sem,h0,fh00,h1,fh10,h2,fh20];refine CO.intro i84 ?_;simp -implicitDefEqProofs only[go_sem];refine CO.intro i84 ?_;unfold emS
 cases h3:(txt.toList==(⟨#[]⟩:ByteArray).toList) with
 |false =>
  simp -implicitDefEqProofs only[go_sem,h3];exact Fini.ret rfl
 |true =>
 simp -implicitDefEqProofs only[go_sem,h3];refine CO.intro i83 ?_;unfold emU
 cases h4:(((st:Nat):Int)==0) with
 |false =>
  have fh40:=ne_of h4;simp -implicitDefEqProofs only[go_sem,h4,fh40];exact Fini.ret rfl
 |true =>
 have fh40:=ne_of h4
 cases h5:(((en:Nat):Int)==0) with
 |false =>
  have fh50:=ne_of h5;simp -implicitDefEqProofs only[go_sem,h4,fh40,h5,fh50];exact Fini.ret rfl
 |true =>
 have fh50:=ne_of h5;unfold clkB
 cases h6:(decide (((st:Nat):Int)≤1099511627776)) with
 |false =>
  have fh60:=gt_of h6;simp -implicitDefEqProofs only[go_sem,h4,fh40,h5,fh50,h6,fh60];exact Fini.ret rfl
 |true =>
 have fh60:=gt_of h6
 cases h7:(decide (((en:Nat):Int)≤1099511627776)) with
 |false =>
  have fh70:=gt_of h7;simp -implicitDefEqProofs only[go_sem,h4,fh40,h5,fh50,h6,fh60,h7,fh70];exact Fini.ret rfl
 |true =>
 have fh70:=gt_of h7;simp -implicitDefEqProofs only[go_sem,h4,fh40,h5,fh50,h6,fh60,h7,fh70];refine CO.intro i90 ?_
 cases h8:(sta==0) with
 |false =>
  have fh80:=ne_of h8;simp -implicitDefEqProofs only[go_sem,h8,fh80];exact Fini.ret rfl
 |true =>
 have fh80:=ne_of h8
 cases h9:(decide (0≤sta)) with
 |false =>
  have fh90:=lt_of h9;simp -implicitDefEqProofs only[go_sem,h8,fh80,h9,fh90];exact Fini.ret rfl
 |true =>
 have fh90:=lt_of h9
 cases h10:(decide (sta≤3)) with
 |false =>
  have fh100:=gt_of h10;simp -implicitDefEqProofs only[go_sem,h8,fh80,h9,fh90,h10,fh100];exact Fini.ret rfl
 |true =>
 have fh100:=gt_of h10;simp -implicitDefEqProofs only[go_sem,h8,fh80,h9,fh90,h10,fh100];refine CO.intro i77 ?_;have hl:=z4P mt.length
 cases hm0:(emI mt.length) with
 |false =>
  rw[hm0]at hl;simp -implicitDefEqProofs only[go_sem,hl];exact Fini.ret rfl
 |true =>
 rw[hm0]at hl;simp -implicitDefEqProofs only[go_sem,hl];refine CO.intro i83 ?_;simp -implicitDefEqProofs only[go_sem];refine CO.intro b1 ?_
 cases h11:(listB mt) with
 |false =>
  simp -implicitDefEqProofs only[go_sem];exact Fini.ret rfl
 |true =>
 simp -implicitDefEqProofs only[go_sem];refine CO.intro i66 ?_;simp -implicitDefEqProofs only[go_sem];refine CO.intro b2 ?_
 cases h12:(noBd (any,lo,hi)) with
 |false =>
  simp -implicitDefEqProofs only[go_sem];exact Fini.ret rfl
 |true =>
 simp -implicitDefEqProofs only[go_sem];refine CO.intro b3 ?_
 cases h13:(mayB any lo hi) with
 |false =>
  simp -implicitDefEqProofs only[go_sem];exact Fini.ret rfl
 |true =>
 simp -implicitDefEqProofs only[go_sem];refine CO.intro i82 ?_;simp -implicitDefEqProofs only[go_sem];refine CO.intro b4 ?_
 cases h14:(ruIs ⟨src,tgt,ra,rl,rh,eq⟩) with
 |false =>
  simp -implicitDefEqProofs only[go_sem];exact Fini.ret rfl
 |true =>
 simp -implicitDefEqProofs only[go_sem];refine CO.intro i82 ?_;simp -implicitDefEqProofs only[go_sem];refine CO.intro i76 ?_;unfold emI zF
 cases h15:(((ls.length:Nat):Int)==0) with
 |false =>
  simp -implicitDefEqProofs only[go_sem,h15];exact Fini.ret rfl
 |true =>
 simp -implicitDefEqProofs only[go_sem,h15];refine CO.intro b7 ?_;simp -implicitDefEqProofs only[go_sem];exact Fini.ret rfl
end
section
variable (σ:St)
set_option maxHeartbeats 8000000 in
theorem zbA (r:ReM) (hr:ReSm r) (hd:dOf r.op=S768):Ans Tryz.prog 76 [reV r] σ (Bo (docB r S768)) σ:=by
 obtain⟨tok,op,id,txt,st,en,sta,mt,any,lo,hi,⟨src,tgt,ra,rl,rh,eq⟩,ls,val⟩:=r;obtain⟨hm,hru,hls⟩:=hr;simp only at hm hru hls hd;have k1:=z0V σ op;rw[hd]at k1;have ii:=fun c h=>z2f σ S768 c h
 have i73:=ii 73 (by decide)
 have i84:=ii 84 (by decide)
 have i83:=ii 83 (by decide)
 have i90:=ii 90 (by decide)
 have i77:=ii 77 (by decide)
 have i66:=ii 66 (by decide)
 have i82:=ii 82 (by decide)
 have i76:=ii 76 (by decide)
 simp only[zdq]at i73 i84 i83 i90 i77 i66 i82 i76;have b0:=z2e σ txt;have b1:=z1e σ mt hm;have b2:=z1j σ (any,lo,hi);have b3:=z1Z σ any lo hi;have b4:=z1D σ ⟨src,tgt,ra,rl,rh,eq⟩ hru;have b5:=z1u σ ⟨src,tgt,ra,rl,rh,eq⟩;have b6:=z21 σ ls hls;have b7:=z0O σ val;unfold bandV at b2;unfold ruV at b4 b5;unfold docB;simp only[zdq,Bool.true_or,Bool.false_or,Bool.not_true,Bool.not_false,Bool.true_and,if_true,Bool.false_eq_true,if_false];refine Ans.of_run t76 ?_;unfold reV reC;simp -implicitDefEqProofs only[c76,r76,go_sem];refine CO.intro k1 ?_;simp -implicitDefEqProofs only[go_sem];refine CO.intro i73 ?_
 cases h0:(id==0) with
 |false =>
  have fh00:=ne_of h0;simp -implicitDefEqProofs only[go_sem,h0,fh00];exact Fini.ret rfl
 |true =>
 have fh00:=ne_of h0
 cases h1:(decide (0≤id)) with
 |false =>
  have fh10:=lt_of h1;simp -implicitDefEqProofs only[go_sem,h0,fh00,h1,fh10];exact Fini.ret rfl
 |true =>
 have fh10:=lt_of h1
 cases h2:(decide (id≤2147483647)) with
 |false =>
  have fh20:=gt_of h2;simp -implicitDefEqProofs only[go_sem,h0,fh00,h1,fh10,h2,fh20];exact Fini.ret rfl
 |true =>
 have fh20:=gt_of h2;simp -implicitDefEqProofs only[go_sem,h0,fh00,h1,fh10,h2,fh20];refine CO.intro i84 ?_;simp -implicitDefEqProofs only[go_sem];refine CO.intro i84 ?_;unfold emS
 cases h3:(txt.toList==(⟨#[]⟩:ByteArray).toList) with
 |false =>
  simp -implicitDefEqProofs only[go_sem,h3];exact Fini.ret rfl
 |true =>
 simp -implicitDefEqProofs only[go_sem,h3];refine CO.intro i83 ?_;unfold emU
 cases h4:(((st:Nat):Int)==0) with
 |false =>
  have fh40:=ne_of h4;simp -implicitDefEqProofs only[go_sem,h4,fh40];exact Fini.ret rfl
 |true =>
 have fh40:=ne_of h4
 cases h5:(((en:Nat):Int)==0) with
 |false =>
  have fh50:=ne_of h5;simp -implicitDefEqProofs only[go_sem,h4,fh40,h5,fh50];exact Fini.ret rfl
 |true =>
 have fh50:=ne_of h5;unfold clkB
 cases h6:(decide (((st:Nat):Int)≤1099511627776)) with
 |false =>
  have fh60:=gt_of h6;simp -implicitDefEqProofs only[go_sem,h4,fh40,h5,fh50,h6,fh60];exact Fini.ret rfl
 |true =>
 have fh60:=gt_of h6
 cases h7:(decide (((en:Nat):Int)≤1099511627776)) with
 |false =>
  have fh70:=gt_of h7;simp -implicitDefEqProofs only[go_sem,h4,fh40,h5,fh50,h6,fh60,h7,fh70];exact Fini.ret rfl
 |true =>
 have fh70:=gt_of h7;simp -implicitDefEqProofs only[go_sem,h4,fh40,h5,fh50,h6,fh60,h7,fh70];refine CO.intro i90 ?_
 cases h8:(sta==0) with
 |false =>
  have fh80:=ne_of h8;simp -implicitDefEqProofs only[go_sem,h8,fh80];exact Fini.ret rfl
 |true =>
 have fh80:=ne_of h8
 cases h9:(decide (0≤sta)) with
 |false =>
  have fh90:=lt_of h9;simp -implicitDefEqProofs only[go_sem,h8,fh80,h9,fh90];exact Fini.ret rfl
 |true =>
 have fh90:=lt_of h9
 cases h10:(decide (sta≤3)) with
 |false =>
  have fh100:=gt_of h10;simp -implicitDefEqProofs only[go_sem,h8,fh80,h9,fh90,h10,fh100];exact Fini.ret rfl
 |true =>
 have fh100:=gt_of h10;simp -implicitDefEqProofs only[go_sem,h8,fh80,h9,fh90,h10,fh100];refine CO.intro i77 ?_;have hl:=z4P mt.length
 cases hm0:(emI mt.length) with
 |false =>
  rw[hm0]at hl;simp -implicitDefEqProofs only[go_sem,hl];exact Fini.ret rfl
 |true =>
 rw[hm0]at hl;simp -implicitDefEqProofs only[go_sem,hl];refine CO.intro i83 ?_;simp -implicitDefEqProofs only[go_sem];refine CO.intro b1 ?_
 cases h11:(listB mt) with
 |false =>
  simp -implicitDefEqProofs only[go_sem];exact Fini.ret rfl
 |true =>
 simp -implicitDefEqProofs only[go_sem];refine CO.intro i66 ?_;simp -implicitDefEqProofs only[go_sem];refine CO.intro b2 ?_
 cases h12:(noBd (any,lo,hi)) with
 |false =>
  simp -implicitDefEqProofs only[go_sem];exact Fini.ret rfl
 |true =>
 simp -implicitDefEqProofs only[go_sem];refine CO.intro b3 ?_
 cases h13:(mayB any lo hi) with
 |false =>
  simp -implicitDefEqProofs only[go_sem];exact Fini.ret rfl
 |true =>
 simp -implicitDefEqProofs only[go_sem];refine CO.intro i82 ?_;simp -implicitDefEqProofs only[go_sem];refine CO.intro i82 ?_;simp -implicitDefEqProofs only[go_sem];refine CO.intro b5 ?_
 cases h14:(noRl ⟨src,tgt,ra,rl,rh,eq⟩) with
 |false =>
  simp -implicitDefEqProofs only[go_sem];exact Fini.ret rfl
 |true =>
 simp -implicitDefEqProofs only[go_sem];refine CO.intro i76 ?_;simp -implicitDefEqProofs only[go_sem];refine CO.intro b6 ?_;simp -implicitDefEqProofs only[go_sem];exact Fini.ret rfl
set_option maxHeartbeats 8000000 in
theorem zdr (r:ReM) (hr:ReSm r) (hd:dOf r.op=S16):Ans Tryz.prog 76 [reV r] σ (Bo (docB r S16)) σ:=by
 obtain⟨tok,op,id,txt,st,en,sta,mt,any,lo,hi,⟨src,tgt,ra,rl,rh,eq⟩,ls,val⟩:=r;obtain⟨hm,hru,hls⟩:=hr;simp only at hm hru hls hd;have k1:=z0V σ op;rw[hd]at k1;have ii:=fun c h=>z2f σ S16 c h
 have i73:=ii 73 (by decide)
 have i84:=ii 84 (by decide)
 have i83:=ii 83 (by decide)
 have i90:=ii 90 (by decide)
 have i77:=ii 77 (by decide)
 have i66:=ii 66 (by decide)
 have i82:=ii 82 (by decide)
 have i76:=ii 76 (by decide)
 simp only[hc_16]at i73 i84 i83 i90 i77 i66 i82 i76;have b0:=z2e σ txt;have b1:=z1e σ mt hm;have b2:=z1j σ (any,lo,hi);have b3:=z1Z σ any lo hi;have b4:=z1D σ ⟨src,tgt,ra,rl,rh,eq⟩ hru;have b5:=z1u σ ⟨src,tgt,ra,rl,rh,eq⟩;have b6:=z21 σ ls hls;have b7:=z0O σ val;unfold bandV at b2;unfold ruV at b4 b5;unfold docB;simp only[hc_16,Bool.true_or,Bool.false_or,Bool.not_true,Bool.not_false,Bool.true_and,if_true,Bool.false_eq_true,if_false];refine Ans.of_run t76 ?_;unfold reV reC;simp -implicitDefEqProofs only[c76,r76,go_sem];refine CO.intro k1 ?_;simp -implicitDefEqProofs only[go_sem];refine CO.intro i73 ?_
 cases h0:(id==0) with
 |false =>
  have fh00:=ne_of h0;simp -implicitDefEqProofs only[go_sem,h0,fh00];exact Fini.ret rfl
 |true =>
 have fh00:=ne_of h0
 cases h1:(decide (0≤id)) with
 |false =>
  have fh10:=lt_of h1;simp -implicitDefEqProofs only[go_sem,h0,fh00,h1,fh10];exact Fini.ret rfl
 |true =>
 have fh10:=lt_of h1
 cases h2:(decide (id≤2147483647)) with
 |false =>
  have fh20:=gt_of h2;simp -implicitDefEqProofs only[go_sem,h0,fh00,h1,fh10,h2,fh20];exact Fini.ret rfl
 |true =>
 have fh20:=gt_of h2;simp -implicitDefEqProofs only[go_sem,h0,fh00,h1,fh10,h2,fh20];refine CO.intro i84 ?_;simp -implicitDefEqProofs only[go_sem];refine CO.intro i84 ?_;unfold emS
 cases h3:(txt.toList==(⟨#[]⟩:ByteArray).toList) with
 |false =>
  simp -implicitDefEqProofs only[go_sem,h3];exact Fini.ret rfl
 |true =>
 simp -implicitDefEqProofs only[go_sem,h3];refine CO.intro i83 ?_;unfold emU
 cases h4:(((st:Nat):Int)==0) with
 |false =>
  have fh40:=ne_of h4;simp -implicitDefEqProofs only[go_sem,h4,fh40];exact Fini.ret rfl
 |true =>
 have fh40:=ne_of h4
 cases h5:(((en:Nat):Int)==0) with
 |false =>
  have fh50:=ne_of h5;simp -implicitDefEqProofs only[go_sem,h4,fh40,h5,fh50];exact Fini.ret rfl
 |true =>
 have fh50:=ne_of h5;unfold clkB
 cases h6:(decide (((st:Nat):Int)≤1099511627776)) with
 |false =>
  have fh60:=gt_of h6;simp -implicitDefEqProofs only[go_sem,h4,fh40,h5,fh50,h6,fh60];exact Fini.ret rfl
 |true =>
 have fh60:=gt_of h6
 cases h7:(decide (((en:Nat):Int)≤1099511627776)) with
 |false =>
  have fh70:=gt_of h7;simp -implicitDefEqProofs only[go_sem,h4,fh40,h5,fh50,h6,fh60,h7,fh70];exact Fini.ret rfl
 |true =>
 have fh70:=gt_of h7;simp -implicitDefEqProofs only[go_sem,h4,fh40,h5,fh50,h6,fh60,h7,fh70];refine CO.intro i90 ?_
 cases h8:(sta==0) with
 |false =>
  have fh80:=ne_of h8;simp -implicitDefEqProofs only[go_sem,h8,fh80];exact Fini.ret rfl
 |true =>
 have fh80:=ne_of h8
 cases h9:(decide (0≤sta)) with
 |false =>
  have fh90:=lt_of h9;simp -implicitDefEqProofs only[go_sem,h8,fh80,h9,fh90];exact Fini.ret rfl
 |true =>
 have fh90:=lt_of h9
 cases h10:(decide (sta≤3)) with
 |false =>
  have fh100:=gt_of h10;simp -implicitDefEqProofs only[go_sem,h8,fh80,h9,fh90,h10,fh100];exact Fini.ret rfl
 |true =>
 have fh100:=gt_of h10;simp -implicitDefEqProofs only[go_sem,h8,fh80,h9,fh90,h10,fh100];refine CO.intro i77 ?_;simp -implicitDefEqProofs only[go_sem];refine CO.intro i83 ?_;simp -implicitDefEqProofs only[go_sem];refine CO.intro b1 ?_
 cases h11:(listB mt) with
 |false =>
  simp -implicitDefEqProofs only[go_sem];exact Fini.ret rfl
 |true =>
 simp -implicitDefEqProofs only[go_sem];refine CO.intro i66 ?_;simp -implicitDefEqProofs only[go_sem];refine CO.intro b2 ?_
 cases h12:(noBd (any,lo,hi)) with
 |false =>
  simp -implicitDefEqProofs only[go_sem];exact Fini.ret rfl
 |true =>
 simp -implicitDefEqProofs only[go_sem];refine CO.intro b3 ?_
 cases h13:(mayB any lo hi) with
 |false =>
  simp -implicitDefEqProofs only[go_sem];exact Fini.ret rfl
 |true =>
 simp -implicitDefEqProofs only[go_sem];refine CO.intro i82 ?_;simp -implicitDefEqProofs only[go_sem];refine CO.intro i82 ?_;simp -implicitDefEqProofs only[go_sem];refine CO.intro b5 ?_
 cases h14:(noRl ⟨src,tgt,ra,rl,rh,eq⟩) with
 |false =>
  simp -implicitDefEqProofs only[go_sem];exact Fini.ret rfl
 |true =>
 simp -implicitDefEqProofs only[go_sem];refine CO.intro i76 ?_;unfold emI zF
 cases h15:(((ls.length:Nat):Int)==0) with
 |false =>
  simp -implicitDefEqProofs only[go_sem,h15];exact Fini.ret rfl
 |true =>
 simp -implicitDefEqProofs only[go_sem,h15];refine CO.intro b7 ?_;simp -implicitDefEqProofs only[go_sem];exact Fini.ret rfl
end
theorem z2g (x:Bnd) (h:noBd x=true):mayB x.1 x.2.1 x.2.2=true:=by
 obtain⟨a,lo,hi⟩:=x;unfold noBd zF at h;simp only[Bool.and_eq_true,Bool.not_eq_true',beq_iff_eq]at h;obtain⟨rfl,h1,h2⟩:=h;have e1:=z2V (Int.ofNat.inj h1);have e2:=z2V (Int.ofNat.inj h2);subst e1 e2
 decide +kernel
theorem z59 (r:ReM):(zeroB r 0&&z0i r 0)=docB r S0:=by
 have hb:=z2g (r.any,r.lo,r.hi);unfold zeroB z0i docB idR staR;simp only[hs_0,hc_0,Bool.true_or,Bool.false_or,Bool.not_true,Bool.not_false,Bool.true_and,if_true,Bool.false_eq_true,if_false,Bool.and_assoc];rw[Bool.eq_iff_iff];simp only[Bool.and_eq_true];simp only at hb;constructor
 · intro h;simp only[h,hb,and_self,true_and,and_true]
 · intro h;simp only[h,hb,and_self,true_and,and_true]
theorem z4m (r:ReM):(zeroB r 1&&z0i r 1)=docB r S1:=by
 have hb:=z2g (r.any,r.lo,r.hi);unfold zeroB z0i docB idR staR;simp only[hs_1,hc_1,Bool.true_or,Bool.false_or,Bool.not_true,Bool.not_false,Bool.true_and,if_true,Bool.false_eq_true,if_false,Bool.and_assoc];rw[Bool.eq_iff_iff];simp only[Bool.and_eq_true];simp only at hb;constructor
 · intro h;simp only[h,hb,and_self,true_and,and_true]
 · intro h;simp only[h,hb,and_self,true_and,and_true]
theorem zaD (r:ReM):(zeroB r 3&&z0i r 3)=docB r S3:=by
 have hb:=z2g (r.any,r.lo,r.hi);unfold zeroB z0i docB idR staR;simp only[hs_3,hc_3,Bool.true_or,Bool.false_or,Bool.not_true,Bool.not_false,Bool.true_and,if_true,Bool.false_eq_true,if_false,Bool.and_assoc];rw[Bool.eq_iff_iff];simp only[Bool.and_eq_true];simp only at hb;constructor
 · intro h;simp only[h,hb,and_self,true_and,and_true]
 · intro h;simp only[h,hb,and_self,true_and,and_true]
theorem zbB (r:ReM):(zeroB r 116&&z0i r 116)=docB r S116:=by
 have hb:=z2g (r.any,r.lo,r.hi);unfold zeroB z0i docB idR staR;simp only[z8q,zdn,Bool.true_or,Bool.false_or,Bool.not_true,Bool.not_false,Bool.true_and,if_true,Bool.false_eq_true,if_false,Bool.and_assoc];rw[Bool.eq_iff_iff];simp only[Bool.and_eq_true];simp only at hb;constructor
 · intro h;simp only[h,hb,and_self,true_and,and_true]
 · intro h;simp only[h,hb,and_self,true_and,and_true]
theorem zbC (r:ReM):(zeroB r 117&&z0i r 117)=docB r S117:=by
 have hb:=z2g (r.any,r.lo,r.hi);unfold zeroB z0i docB idR staR;simp only[z8r,zdo,Bool.true_or,Bool.false_or,Bool.not_true,Bool.not_false,Bool.true_and,if_true,Bool.false_eq_true,if_false,Bool.and_assoc];rw[Bool.eq_iff_iff];simp only[Bool.and_eq_true];simp only at hb;constructor
 · intro h;simp only[h,hb,and_self,true_and,and_true]
 · intro h;simp only[h,hb,and_self,true_and,and_true]
theorem zeW (r:ReM):(zeroB r 8&&z0i r 8)=docB r S8:=by
 have hb:=z2g (r.any,r.lo,r.hi);unfold zeroB z0i docB idR staR;simp only[hs_8,hc_8,Bool.true_or,Bool.false_or,Bool.not_true,Bool.not_false,Bool.true_and,if_true,Bool.false_eq_true,if_false,Bool.and_assoc];rw[Bool.eq_iff_iff];simp only[Bool.and_eq_true];simp only at hb;constructor
 · intro h;simp only[h,hb,and_self,true_and,and_true]
 · intro h;simp only[h,hb,and_self,true_and,and_true]
theorem zbD (r:ReM):(zeroB r 128&&z0i r 128)=docB r S128:=by
 have hb:=z2g (r.any,r.lo,r.hi);unfold zeroB z0i docB idR staR;simp only[z8s,zdp,Bool.true_or,Bool.false_or,Bool.not_true,Bool.not_false,Bool.true_and,if_true,Bool.false_eq_true,if_false,Bool.and_assoc];rw[Bool.eq_iff_iff];simp only[Bool.and_eq_true];simp only at hb;constructor
 · intro h;simp only[h,hb,and_self,true_and,and_true]
 · intro h;simp only[h,hb,and_self,true_and,and_true]
theorem zbE (r:ReM):(zeroB r 768&&z0i r 768)=docB r S768:=by
 have hb:=z2g (r.any,r.lo,r.hi);unfold zeroB z0i docB idR staR;simp only[z8t,zdq,Bool.true_or,Bool.false_or,Bool.not_true,Bool.not_false,Bool.true_and,if_true,Bool.false_eq_true,if_false,Bool.and_assoc];rw[Bool.eq_iff_iff];simp only[Bool.and_eq_true];simp only at hb;constructor
 · intro h;simp only[h,hb,and_self,true_and,and_true]
 · intro h;simp only[h,hb,and_self,true_and,and_true]
theorem zds (r:ReM):(zeroB r 16&&z0i r 16)=docB r S16:=by
 have hb:=z2g (r.any,r.lo,r.hi);unfold zeroB z0i docB idR staR;simp only[hs_16,hc_16,Bool.true_or,Bool.false_or,Bool.not_true,Bool.not_false,Bool.true_and,if_true,Bool.false_eq_true,if_false,Bool.and_assoc];rw[Bool.eq_iff_iff];simp only[Bool.and_eq_true];simp only at hb;constructor
 · intro h;simp only[h,hb,and_self,true_and,and_true]
 · intro h;simp only[h,hb,and_self,true_and,and_true]
section
variable (σ:St)
theorem zdt (r:ReM) (hd:dOf r.op=⟨#[]⟩):Ans Tryz.prog 76 [reV r] σ (Bo false) σ:=by
 have k1:=z0V σ r.op;rw[hd]at k1;have hn:((⟨#[]⟩:ByteArray).toList==(⟨#[]⟩:ByteArray).toList)=true:=by decide +kernel
 refine Ans.of_run t76 ?_;unfold reV reC;simp -implicitDefEqProofs only[c76,r76,go_sem];refine CO.intro k1 ?_;simp -implicitDefEqProofs only[go_sem,hn];exact Fini.ret rfl
theorem zbF (r:ReM) (hr:ReSm r):Ans Tryz.prog 76 [reV r] σ (Bo (mayR r)) σ:=by
 unfold mayR;rcases ops17 r.op with h|h|h|h|h|h|h|h|h|h|h|h|h|h|h|h|h|h
 · have e:fOf r.op=(0,true):=by rw[h];rfl
   rw[e];simp only[Bool.true_and];rw[z59];exact z58 σ r hr (by rw[h];rfl)
 · have e:fOf r.op=(1,true):=by rw[h];rfl
   rw[e];simp only[Bool.true_and];rw[z4m];exact z4l σ r hr (by rw[h];rfl)
 · have e:fOf r.op=(3,true):=by rw[h];rfl
   rw[e];simp only[Bool.true_and];rw[zaD];exact zaC σ r hr (by rw[h];rfl)
 · have e:fOf r.op=(3,true):=by rw[h];rfl
   rw[e];simp only[Bool.true_and];rw[zaD];exact zaC σ r hr (by rw[h];rfl)
 · have e:fOf r.op=(116,true):=by rw[h];rfl
   rw[e];simp only[Bool.true_and];rw[zbB];exact zbx σ r hr (by rw[h];rfl)
 · have e:fOf r.op=(117,true):=by rw[h];rfl
   rw[e];simp only[Bool.true_and];rw[zbC];exact zby σ r hr (by rw[h];rfl)
 · have e:fOf r.op=(1,true):=by rw[h];rfl
   rw[e];simp only[Bool.true_and];rw[z4m];exact z4l σ r hr (by rw[h];rfl)
 · have e:fOf r.op=(8,true):=by rw[h];rfl
   rw[e];simp only[Bool.true_and];rw[zeW];exact zeV σ r hr (by rw[h];rfl)
 · have e:fOf r.op=(128,true):=by rw[h];rfl
   rw[e];simp only[Bool.true_and];rw[zbD];exact zbz σ r hr (by rw[h];rfl)
 · have e:fOf r.op=(1,true):=by rw[h];rfl
   rw[e];simp only[Bool.true_and];rw[z4m];exact z4l σ r hr (by rw[h];rfl)
 · have e:fOf r.op=(768,true):=by rw[h];rfl
   rw[e];simp only[Bool.true_and];rw[zbE];exact zbA σ r hr (by rw[h];rfl)
 · have e:fOf r.op=(1,true):=by rw[h];rfl
   rw[e];simp only[Bool.true_and];rw[z4m];exact z4l σ r hr (by rw[h];rfl)
 · have e:fOf r.op=(16,true):=by rw[h];rfl
   rw[e];simp only[Bool.true_and];rw[zds];exact zdr σ r hr (by rw[h];rfl)
 · have e:fOf r.op=(0,true):=by rw[h];rfl
   rw[e];simp only[Bool.true_and];rw[z59];exact z58 σ r hr (by rw[h];rfl)
 · have e:fOf r.op=(1,true):=by rw[h];rfl
   rw[e];simp only[Bool.true_and];rw[z4m];exact z4l σ r hr (by rw[h];rfl)
 · have e:fOf r.op=(0,true):=by rw[h];rfl
   rw[e];simp only[Bool.true_and];rw[z59];exact z58 σ r hr (by rw[h];rfl)
 · have e:fOf r.op=(0,true):=by rw[h];rfl
   rw[e];simp only[Bool.true_and];rw[z59];exact z58 σ r hr (by rw[h];rfl)
 · rw[zdc h];exact zdt σ r (zfA h)
end
section
variable (σ:St)
theorem z7q (n:Nat) (hn:n<18446744073709551616):Ans Tryz.prog 52 [UN n] σ (.sl 1 (byv (putN n))) σ:=(z55 σ n hn).shut (by rw[z05]) (z1x _ _)
theorem z8y (r:RuM) (hr:RSm r):Ans Tryz.prog 80 [ruV r] σ (.sl 1 (byv (z1O r))) σ:=by
 have hi:=fun s=>z1D s r hr
 unfold z1O
 cases hR:ruIs r with
 |false =>
  have:Ans Tryz.prog 80 [ruV r] σ .nils σ:=by
   refine Ans.of_run t80 ?_;unfold ruV at hi⊢;simp -implicitDefEqProofs only[c80,r80,go_sem];refine CO.intro (hi _) ?_;rw[hR];simp -implicitDefEqProofs only[go_sem];exact Fini.ret rfl
  exact this.subR (.nils 1)
 |true =>
  obtain⟨h1,h2,h3,h4,h5⟩:=z1Y hR;have hpl:=z56 hR;have m1:=fun s=>z6F s r.src hr.src h1
  have m2:=fun s=>z6G s r.tgt hr.tgt
  have e2:z3k r.tgt=putL r.tgt:=by unfold z3k;rw[h2];rfl
  rw[e2]at m2;have b1:=fun s=>z3F s (r.any,r.lo,r.hi)
  unfold bandV at b1;have n1:=fun s=>z7q s r.eq.length (by omega)
  have hw:=z1v (n:=r.eq.length) (by omega)
  have hl0:=z8l hR
  have e3:byv (putL r.src)++byv (putL r.tgt)++byv (putBd (r.any,r.lo,r.hi))++byv (putN r.eq.length)=byv (preR r 0):=by
   rw[z5Y,headR];simp only[z0p,List.append_assoc]
  have e4:(putL r.src).length+(putL r.tgt).length+(putBd (r.any,r.lo,r.hi)).length+(putN r.eq.length).length=(preR r 0).length:=by
   rw[z5Y,headR];simp only[List.length_append];omega
  have hp0:=hpl 0 (Nat.zero_le _);rw[←e4]at hp0;have q1:(putL r.src).length+(putL r.tgt).length≤4294967296:=by omega
  have q2:(putL r.src).length+(putL r.tgt).length+(putBd (r.any,r.lo,r.hi)).length≤4294967296:=by omega
  have q3:(putL r.src).length+(putL r.tgt).length+(putBd (r.any,r.lo,r.hi)).length+(putN r.eq.length).length≤4294967296:=by omega
  refine Ans.of_run' t80 (fun hbel _=>?_)
  unfold ruV at hi⊢;simp -implicitDefEqProofs only[c80,r80,go_sem];refine CO.intro (hi _) ?_;rw[hR];simp -implicitDefEqProofs only[go_sem];refine CD.intro (m1 _) ?_;simp -implicitDefEqProofs only[go_sem];refine CD.intro (m2 _) ?_;simp -implicitDefEqProofs only[go_sem,g0,s0,z05,z0A,bc,q1,List.length_append];refine CD.intro (b1 _) ?_;simp -implicitDefEqProofs only[go_sem,g0,s0,z05,z0A,bc,q1,q2,z0L,hw,List.length_append];refine CO.intro (n1 _) ?_;simp -implicitDefEqProofs only[go_sem,g0,s0,z05,z0A,bc,q1,q2,q3,z0L,hw,List.length_append];refine Go.Ab.L.count r.eq.length (fun i=>mkE 42 [(1,.rp [.sl 3 (mvs3 r.src),.sl 3 (mvs3 r.tgt),Bo r.any,Fl r.lo,Fl r.hi,.sl 1 (txs r.eq)]),(3,.osl σ.length (preR r i).length),(4,I i)]) (fun i=>σ++[.row 1 (byv (preR r i))]) ?_ ?_ (by rw[←e4];rfl) (by rw[←e3])
  · intro i hi J hJ;have hx:=zcM r.eq i hi;have hs:=h5 r.eq[i] (List.getElem_mem hi);have hp:=hpl (i+1) (by omega)
    rw[z8k r i hi]at hJ hp;generalize r.eq[i]=s at hx hs hJ hp;generalize preR r i=pre at hJ hp⊢;have hin:=wrap_succ (i:=i) (by omega)
    rw[List.length_append]at hp hJ;have l1:pre.length+(txtB s).length≤4294967296:=by omega
    simp -implicitDefEqProofs only[mkE,go_sem,z0L,z0b hi,dec_lt hi,hx];refine CO.intro (z1G _ s (by omega)) ?_
    simp -implicitDefEqProofs only[go_sem,g0,s0,z05,z0A,bc,l1,hin];simp only[z0p]at hJ;exact hJ
  · intro J;have d0:decide ((r.eq.length:Int)<r.eq.length)=false:=by simp
    simp -implicitDefEqProofs only[mkE,go_sem,z0L,d0,g0,s0,z05,z7l];exact Fini.trim2 (σ':=σ) (ex:=[_]) rfl rfl (Nat.le_refl _) (z1x _ _) hbel
end
end Go.Proofs.YteakobbdgehlgaaGreatDoor
namespace Go.Ab
open Go
theorem L.step {P:Program} {n0:Nat} {clr:List Tmp} {x:ACode} {k:List Fr} {B:Bs} {env:Env} {σ:St}
  (h:∀J:Env→St→Prop,(∀env σ,L P n0 clr x k B env σ→J env σ)→R P n0 x (.loop J clr::k) B env σ):L P n0 clr x k B env σ:=by
 unfold L;intro I hI;refine hI _ _ (h I fun env' σ' hl=>?_)
 unfold L at hl;exact hl I hI
end Go.Ab
namespace Go.Proofs.YteakobbdgehlgaaGreatDoor
open Go Go.Ab Go.Cod
set_option maxRecDepth 100000
section
variable (σ:St) (p:Nat) (b:Byt) (hb:b.length≤50000)
include hb in
end
end Go.Proofs.YteakobbdgehlgaaGreatDoor
namespace Go.Proofs.YteakobbdgehlgaaGreatDoor
open Go Go.Ab Go.Cod
set_option maxRecDepth 100000
theorem sz_0:((S0.size:Nat):Int)=1:=rfl
theorem ds_0:(S0.toList==(⟨#[45]⟩:ByteArray).toList)=true:=by decide +kernel
theorem sz_1:((S1.size:Nat):Int)=1:=rfl
theorem ds_1:(S1.toList==(⟨#[45]⟩:ByteArray).toList)=false:=by decide +kernel
theorem sz_3:((S3.size:Nat):Int)=2:=rfl
theorem ds_3:(S3.toList==(⟨#[45]⟩:ByteArray).toList)=false:=by decide +kernel
theorem zhO:((S116.size:Nat):Int)=4:=rfl
theorem zhP:(S116.toList==(⟨#[45]⟩:ByteArray).toList)=false:=by decide +kernel
theorem zhQ:((S117.size:Nat):Int)=5:=rfl
theorem zhR:(S117.toList==(⟨#[45]⟩:ByteArray).toList)=false:=by decide +kernel
theorem sz_8:((S8.size:Nat):Int)=1:=rfl
theorem ds_8:(S8.toList==(⟨#[45]⟩:ByteArray).toList)=false:=by decide +kernel
theorem zhS:((S128.size:Nat):Int)=1:=rfl
theorem zhT:(S128.toList==(⟨#[45]⟩:ByteArray).toList)=false:=by decide +kernel
theorem zhU:((S768.size:Nat):Int)=2:=rfl
theorem zhV:(S768.toList==(⟨#[45]⟩:ByteArray).toList)=false:=by decide +kernel
theorem sz_16:((S16.size:Nat):Int)=1:=rfl
theorem ds_16:(S16.toList==(⟨#[45]⟩:ByteArray).toList)=false:=by decide +kernel
theorem wk0:IntKind.i64.wrap 0=0:=rfl
theorem zk0:Int.toNat 0=0:=rfl
theorem wk1:IntKind.i64.wrap 1=1:=rfl
theorem zk1:Int.toNat 1=1:=rfl
theorem wk2:IntKind.i64.wrap 2=2:=rfl
theorem zk2:Int.toNat 2=2:=rfl
theorem wk3:IntKind.i64.wrap 3=3:=rfl
theorem zk3:Int.toNat 3=3:=rfl
theorem wk4:IntKind.i64.wrap 4=4:=rfl
theorem zk4:Int.toNat 4=4:=rfl
theorem wk5:IntKind.i64.wrap 5=5:=rfl
theorem zk5:Int.toNat 5=5:=rfl
attribute [go_sem] wk0 wk1 wk2 wk3 wk4 wk5 zk0 zk1 zk2 zk3 zk4 zk5 z05 z4X z4Y z06 g0 g1 s0 s1 Int.le_refl sz_0 ds_0 sz_1 ds_1 sz_3 ds_3 zhO zhP zhQ zhR sz_8 ds_8 zhS zhT zhU zhV sz_16 ds_16
structure RcM where
 ix:Int
 ck:Nat
 bd:Byt
 cd:Int
def rcC (r:RcM):List AV:=[I r.ix,UN r.ck,.sl 1 (byv r.bd),I r.cd]
def rcV (r:RcM):AV:=.agg (rcC r)
def cdB (c:Int):Bool:=c==0||(decide (4≤c)&&decide (c≤10))
def bdB (b:Byt):Bool:=(wholeO (bodyR b)).isSome
def rcIs (r:RcM):Bool:=decide (0≤r.ix)&&(decide (r.ix≤2147483647)&&(decide ((r.ck:Int)≤1099511627776)&&(bdB r.bd&&cdB r.cd)))
theorem z9z (o:Option ReM):∃x,z4k o=.tup [reV x,Bo o.isSome]:=by
 cases o with
 |none=>exact⟨noRe,rfl⟩
 |some x=>exact⟨x,rfl⟩
theorem zaE {r:RcM} (h:rcIs r=true):0≤r.ix∧r.ix≤2147483647∧r.ck≤1099511627776∧0≤r.cd∧r.cd≤10:=by
 unfold rcIs cdB at h;simp only[Bool.and_eq_true,Bool.or_eq_true,decide_eq_true_eq,beq_iff_eq]at h;omega
section
variable (σ:St)
theorem z5a (r:RcM) (hb:r.bd.length≤50000):Ans Tryz.prog 45 [rcV r] σ (Bo (rcIs r)) σ:=by
 obtain⟨ix,ck,bd,cd⟩:=r;have k1:=z8x σ bd hb;obtain⟨x,hx⟩:=z9z (wholeO (bodyR bd));rw[hx]at k1;unfold rcV rcC rcIs bdB cdB;refine Ans.of_run t45 ?_;unfold reV reC at k1;generalize (wholeO (bodyR bd)).isSome=ok at k1⊢;simp only
 cases h0:decide (0≤ix) with
 |false =>
  have e0:=lt_of h0;simp -implicitDefEqProofs only[c45,r45,go_sem,e0];exact Fini.ret rfl
 |true =>
 have e0:=lt_of h0
 cases h1:decide (ix≤2147483647) with
 |false =>
  have e1:=gt_of h1;simp -implicitDefEqProofs only[c45,r45,go_sem,e0,e1];exact Fini.ret rfl
 |true =>
 have e1:=gt_of h1
 cases h2:decide ((ck:Int)≤1099511627776) with
 |false =>
  have e2:=gt_of h2;simp -implicitDefEqProofs only[c45,r45,go_sem,e0,e1,e2];exact Fini.ret rfl
 |true =>
 have e2:=gt_of h2;simp -implicitDefEqProofs only[c45,r45,go_sem,e0,e1,e2];refine CO.intro k1 ?_
 cases ok with
 |false =>
  simp -implicitDefEqProofs only[go_sem];exact Fini.ret rfl
 |true =>
 cases h3:(cd==0) with
 |true =>
  simp -implicitDefEqProofs only[go_sem,h3];exact Fini.ret rfl
 |false =>
 cases h4:decide (4≤cd) with
 |false =>
  simp -implicitDefEqProofs only[go_sem,h3,h4];exact Fini.ret rfl
 |true =>
 simp -implicitDefEqProofs only[go_sem,h3,h4];exact Fini.ret rfl
end
def cdC (c:Int):UInt8:=c.toNat.toUInt8
def putRc (r:RcM):Byt:=putN r.ix.toNat++(putN r.ck++(txtB ⟨r.bd.toArray⟩++[cdC r.cd]))
def z0B (r:RcM):Byt:=if rcIs r then putRc r else[]
theorem zeX {c:Int} (h:0≤c) (h1:c≤10):IntKind.u8.wrap c=(((cdC c).toNat:Nat):Int):=by
 obtain⟨n,rfl⟩:=Int.eq_ofNat_of_zero_le h;have:n<11:=by omega
 match n,this with
 |0,_|1,_|2,_|3,_|4,_|5,_|6,_|7,_|8,_|9,_|10,_=>rfl
theorem z3g (b:Byt):(⟨b.toArray⟩:ByteArray).size=b.length:=by simp[ByteArray.size]
theorem zeY (b:Byt):(⟨b.toArray⟩:ByteArray).data.toList=b:=by simp
section
variable (σ:St)
theorem z3h (r:RcM) (hb:r.bd.length≤50000):Ans Tryz.prog 30 [rcV r] σ (.sl 1 (byv (z0B r))) σ:=by
 have hi:=fun s=>z5a s r hb
 unfold z0B
 cases hR:rcIs r with
 |false =>
  have:Ans Tryz.prog 30 [rcV r] σ .nils σ:=by
   refine Ans.of_run t30 ?_;unfold rcV rcC at hi⊢;simp -implicitDefEqProofs only[c30,r30,go_sem];refine CO.intro (hi _) ?_;rw[hR];simp -implicitDefEqProofs only[go_sem];exact Fini.ret rfl
  exact this.subR (.nils 1)
 |true =>
  obtain⟨a1,a2,a3,a4,a5⟩:=zaE hR;obtain⟨ix,ck,bd,cd⟩:=r;simp only at a1 a2 a3 a4 a5 hb;have n1:=fun s=>zfz s ix.toNat (by omega)
  have n2:=fun s=>zfz s ck (by omega)
  have n3:=fun s=>z5t s ⟨bd.toArray⟩ (by rw[z3g];omega)
  have w1:IntKind.u64.wrap ix=((ix.toNat:Nat):Int):=by
   rw[show ix=((ix.toNat:Nat):Int) from by omega,z1v (by omega)];rfl
  have w2:=zeX a4 a5;have l1:=z0v (n:=ix.toNat) (by omega)
  have l2:=z0v (n:=ck) (by omega)
  have l3:(txtB ⟨bd.toArray⟩).length≤60000:=by
   have:=z0v (n:=bd.length) (by omega)
   unfold txtB;rw[List.length_append,zeY,z3g];omega
  have hc:=fun s=>zcT s [putN ix.toNat,putN ck,txtB ⟨bd.toArray⟩,[cdC cd]] (by simp) (by simp;omega) (by
   simp only[List.flatten_cons,List.flatten_nil,List.append_nil,List.length_append,List.length_singleton];omega)
  have e3:([putN ix.toNat,putN ck,txtB ⟨bd.toArray⟩,[cdC cd]]:List Byt).flatten=putRc ⟨ix,ck,bd,cd⟩:=by simp[putRc]
  rw[e3]at hc;refine Ans.of_run t30 ?_;unfold rcV rcC at hi⊢;simp -implicitDefEqProofs only[c30,r30,go_sem];refine CO.intro (hi _) ?_;rw[hR];simp -implicitDefEqProofs only[go_sem,w1];refine CD.intro (n1 _) ?_;simp -implicitDefEqProofs only[go_sem];refine CD.intro (n2 _) ?_;simp -implicitDefEqProofs only[go_sem,z0A,bc,z24,z1R,AV.isStr];refine CD.intro (n3 _) ?_;simp -implicitDefEqProofs only[go_sem,w2];refine CD.intro (hc _) ?_;simp -implicitDefEqProofs only[go_sem];exact Fini.ret rfl
end
theorem bel_rcV (n:Nat) (r:RcM):Bel n (rcV r):=.agg _ fun i hi=>by
 have:∀y∈rcC r,Bel n y:=by
  intro y hy;unfold rcC at hy;simp only[List.mem_cons,List.not_mem_nil,or_false]at hy;rcases hy with rfl|rfl|rfl|rfl
  all_goals first|exact .pl _|exact z1x _ _
 exact this _ (List.getElem_mem hi)
section
variable (σ:St)
end
def preS (L:List Lab) (i:Nat):Byt:=putN L.length++z16 putLb (L.take i)
theorem z8z (L:List Lab) (i:Nat) (h:i<L.length):preS L (i+1)=preS L i++(txtB L[i].1++txtB L[i].2):=by
 unfold preS z16;rw[List.take_succ_eq_append_getElem h,List.flatMap_append,List.append_assoc];simp[putLb]
theorem zaF (L:List Lab):preS L L.length=z62 L:=by unfold preS z62 z2k;rw[List.take_length]
theorem z8A (L:List Lab):preS L 0=putN L.length:=by unfold preS z16;simp
theorem z7r {L:List Lab} (h:setB L=true):∀i,i≤L.length→(preS L i).length≤10+60*i
 |0,_=>by rw[z8A];have:=z0v (n:=L.length) (by have:=(z4D h).1;omega);omega
 |i+1,hi=>by
  have ih:=z7r h i (by omega)
  have hx:=(z4D h).2 L[i] (List.getElem_mem (by omega))
  have h1:=z1N L[i].1 (by omega)
  have h2:=z1N L[i].2 (by omega)
  rw[z8z L i (by omega),List.length_append,List.length_append]
  omega
def z3l (L:List Lab):Byt:=if setB L then z62 L else[]
section
variable (σ:St)
theorem z9A (L:List Lab) (hL:∀x∈L,x.1.size≤100000):Ans Tryz.prog 81 [.sl 2 (lvs L)] σ (.sl 1 (byv (z3l L))) σ:=by
 have hi:=fun s=>z21 s L hL
 unfold z3l
 cases hR:setB L with
 |false =>
  have:Ans Tryz.prog 81 [.sl 2 (lvs L)] σ .nils σ:=by
   refine Ans.of_run t81 ?_;simp -implicitDefEqProofs only[c81,r81,go_sem];refine CO.intro (hi _) ?_;rw[hR];simp -implicitDefEqProofs only[go_sem];exact Fini.ret rfl
  exact this.subR (.nils 1)
 |true =>
  obtain⟨h1,h2⟩:=z4D hR;have hpl:=z7r hR;have n1:=fun s=>z55 s L.length (by omega)
  rw[←z8A]at n1;have hw:=z1v (n:=L.length) (by omega)
  refine Ans.of_run' t81 (fun hbel _=>?_)
  simp -implicitDefEqProofs only[c81,r81,go_sem];refine CO.intro (hi _) ?_;rw[hR];simp -implicitDefEqProofs only[go_sem,z0g,hw];refine CO.intro (n1 _) ?_;simp -implicitDefEqProofs only[go_sem,z0g];refine Go.Ab.L.count L.length (fun i=>mkE 34 [(0,.sl 2 (lvs L)),(3,.osl σ.length (preS L i).length),(4,I i)]) (fun i=>σ++[.row 1 (byv (preS L i))]) ?_ ?_ rfl rfl
  · intro i hi J hJ;have hx:=lvs_D L i hi;rw[List.getD_eq_getElem?_getD,List.getElem?_eq_getElem hi,Option.getD_some]at hx;have hs:=h2 L[i] (List.getElem_mem hi);have hp:=hpl (i+1) (by omega)
    rw[z8z L i hi]at hJ hp;generalize L[i]=s at hx hs hJ hp;generalize preS L i=pre at hJ hp⊢;have hin:=wrap_succ (i:=i) (by omega)
    rw[List.length_append,List.length_append]at hp hJ;have l1:pre.length+(txtB s.1).length≤4294967296:=by omega
    have l2:pre.length+(txtB s.1).length+(txtB s.2).length≤4294967296:=by omega
    simp -implicitDefEqProofs only[mkE,go_sem,z0g,z0b hi,dec_lt hi,hx];refine CD.intro (z1G _ s.1 (by omega)) ?_
    simp -implicitDefEqProofs only[go_sem,g0,s0,z05,z0A,bc,l1,z0g,z0b hi,hx];refine CD.intro (z1G _ s.2 (by omega)) ?_
    simp -implicitDefEqProofs only[go_sem,g0,s0,z05,z0A,bc,l1,l2,hin,List.length_append];simp only[z0p,List.append_assoc,Nat.add_assoc]at hJ⊢;exact hJ
  · intro J;have d0:decide ((L.length:Int)<L.length)=false:=by simp
    simp -implicitDefEqProofs only[mkE,go_sem,z0g,d0,g0,s0,z05,zaF];exact Fini.trim2 (σ':=σ) (ex:=[_]) rfl rfl (Nat.le_refl _) (z1x _ _) hbel
end
end Go.Proofs.YteakobbdgehlgaaGreatDoor
