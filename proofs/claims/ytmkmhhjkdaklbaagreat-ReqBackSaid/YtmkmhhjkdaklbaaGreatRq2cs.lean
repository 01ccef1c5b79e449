/- Label sets read out of bytes, by the program. No condition. -/
import Derived.Test.YtmkmhhjkdaklbaaGreatRl1s
import Derived.Test.YtmkmhhjkdaklbaaGreatRows
import Derived.Test.YtmkmhhjkdaklbaaGreatXVi2s
import Derived.Test.YtmkmhhjkdaklbaaGreatAbArgs
import Derived.Test.YtmkmhhjkdaklbaaGreatCod2s
import Derived.Test.YtmkmhhjkdaklbaaGreatRc3s
import Derived.Test.YtmkmhhjkdaklbaaGreatXPPar6s
import Derived.Test.YtmkmhhjkdaklbaaGreatAbTrees
import Derived.Test.YtmkmhhjkdaklbaaGreatProg
import Derived.Test.YtmkmhhjkdaklbaaGreatAbSteps
import Derived.Test.YtmkmhhjkdaklbaaGreatXDr3s
set_option linter.unusedSimpArgs false
set_option linter.unusedVariables false
set_option linter.unusedSectionVars false
namespace Go.Proofs.YtmkmhhjkdaklbaaGreat
open Go Go.Ab Go.Cod
set_option maxRecDepth 100000
def labR:Rd Lab:=seqR (textR 12) (textR 24)
def setR:Rd (List Lab):=onlyR (rowR 6 labR) setB
def putLb (x:Lab):Byt:=txtB x.1++txtB x.2
def z3e (L:List Lab):Byt:=z1T putLb L
theorem lab_fits:Fits labR putLb (fun x=>x.1.size≤12∧x.2.size≤24):=z0G (z1I (by decide)) (z1I (by decide))
theorem zcF:EndsR labR:=lab_fits.ends
theorem z46 {L:List Lab} (h:setB L=true):L.length≤6∧∀x∈L,x.1.size≤12∧x.2.size≤24:=by
 unfold setB at h;simp only[Bool.and_eq_true,decide_eq_true_eq]at h;refine⟨h.2.1,fun x hx=>?_⟩
 obtain⟨i,hi,rfl⟩:=List.getElem_of_mem hx;have h2:=List.all_eq_true.1 h.2.2 i (List.mem_range.2 hi);unfold labOk valB at h2;simp only[Bool.and_eq_true,decide_eq_true_eq]at h2;have e:L.getD i noLb=L[i]:=by rw[List.getD_eq_getElem?_getD,List.getElem?_eq_getElem hi];rfl
 rw[e]at h2;exact⟨z5G h2.1,h2.2.1.2⟩
theorem set_fits:Fits setR z3e (fun L=>setB L=true) :=
 (z2n (z68 (by decide) lab_fits) setB).weaken fun L=>⟨fun h=>h.2,fun h=>⟨z46 h,h⟩⟩
theorem ends_set:EndsR setR:=set_fits.ends
def labS (b:Byt):Nat×Bool→Lab×(Nat×Bool):=seqSt (runR (textR 12) ⟨#[]⟩ b) (runR (textR 24) ⟨#[]⟩ b)
theorem z58 (b:Byt):StepsR b labR (labS b):=z0u (z0d b _ _) (z0d b _ _) (z1J 12)
def setS (b:Byt):Nat×Bool→List Lab×(Nat×Bool):=z0y (rowSt 6 b (labS b)) setB
theorem zbk (b:Byt):StepsR b setR (setS b):=z0I (z50 (z58 b) zcF 6) _
theorem zbl (L:List Lab) (x:Lab):lvs L++[lv x]=lvs (L++[x]):=by simp[lvs]
abbrev lsV (L:List Lab):AV:=.sl 2 (lvs L)
theorem z9W (σ:St) (b:Byt) (hb:b.length≤50000):Ans Tryz.prog 138 [.sl 1 (byv b)] σ (readV (setR b) b lsV .nils) σ:=by
 have hS:=(zbk b).top;refine Ans.of_run' t138 (fun hbel _=>?_)
 simp -implicitDefEqProofs only[c138,r138,go_sem];refine CO.intro (z42 σ b) ?_;simp -implicitDefEqProofs only[go_sem,List.append_assoc,List.length_append];generalize hq1:runR (numR 6) 0 b (0,false)=q1;have hin0:Inb b (0,false):=Nat.zero_le _;have hn:=z2b (σ++[rob b (0,false),.row 2 []]) σ.length b (0,false) 6 (by decide) (g0 _ _ _) hin0 hb
 rw[hq1,s0]at hn;refine CO.intro hn ?_;have hn5:q1.1≤6:=by rw[←hq1];exact z2c b _
 have hin1:Inb b q1.2:=by rw[←hq1];exact z0b _ _ _ _ hin0
 simp -implicitDefEqProofs only[go_sem];refine Go.Ab.L.count q1.1 (fun i=>mkE 37 [(5,.ptr σ.length 0),(6,.osl (σ.length+1) i),(12,UN q1.1),(13,UN i)]) (fun i=>σ++[rob b (itSt (labS b) q1.2 i).2,.row 2 (lvs (itSt (labS b) q1.2 i).1)]) ?_ ?_ rfl rfl
 · intro i hi J hJ;have hitI:=z1O (z58 b).inb q1.2 hin1 i;have hlen:=z2z (labS b) q1.2 i;simp only[itSt]at hJ;generalize itSt (labS b) q1.2 i=c at hJ hitI hlen⊢;obtain⟨l,q⟩:=c;simp only at hJ hitI hlen⊢;have d0:decide ((i:Int)<q1.1)=true:=dec_lt hi;have w0:=z1N (n:=i+1) (by omega)
   have e0:((i:Int)+1)=((i+1:Nat):Int):=rfl;unfold labS seqSt at hJ;simp only at hJ;simp -implicitDefEqProofs only[mkE,go_sem,d0];have h2:=z2B (σ++[rob b q,.row 2 (lvs l)]) σ.length b q 12 (by decide) (g0 _ _ _) hitI hb
   have hi3:=z0b (textR 12) ⟨#[]⟩ b q hitI;generalize runR (textR 12) ⟨#[]⟩ b q=r2 at h2 hi3 hJ;rw[s0]at h2;refine CO.intro h2 ?_;have h3:=z2B (σ++[rob b r2.2,.row 2 (lvs l)]) σ.length b r2.2 24 (by decide) (g0 _ _ _) hi3 hb
   generalize runR (textR 24) ⟨#[]⟩ b r2.2=r3 at h3 hJ;rw[s0]at h3;simp -implicitDefEqProofs only[go_sem];refine CO.intro h3 ?_;have hl:(lvs l).length=i:=by rw[z0g,hlen]
   have hle:i+1≤4294967296:=by omega
   have hsn:=zbl l (r2.1,r3.1);simp -implicitDefEqProofs only[go_sem,g1,s1,hl,hle,List.length_singleton,e0,w0];rw[←hsn]at hJ;exact hJ
 · intro J;have hitI:=z1O (z58 b).inb q1.2 hin1 q1.1;have hlen:=z2z (labS b) q1.2 q1.1
   have hL:setS b (0,false)=((itSt (labS b) q1.2 q1.1).1,took (itSt (labS b) q1.2 q1.1).2 0 (setB (itSt (labS b) q1.2 q1.1).1)):=by
    unfold setS z0y rowSt;rw[hq1]
   rw[hL]at hS;generalize itSt (labS b) q1.2 q1.1=c at hS hitI hlen⊢;obtain⟨l,q⟩:=c;simp only at hS hitI hlen⊢;have hl:(lvs l).length=q1.1:=by rw[z0g,hlen]
   have d0:decide ((q1.1:Int)<q1.1)=false:=by simp
   simp -implicitDefEqProofs only[mkE,go_sem,d0,g1,s1,hl];refine CO.intro (z1u _ l) ?_;have h2:=z08 (σ++[rob b q,.dead]) σ.length b q (setB l) (g0 _ _ _) hitI hb;rw[s0]at h2;simp -implicitDefEqProofs only[go_sem];refine CO.intro h2 ?_;have h3:=z2U (σ++[rob b (took q 0 (setB l)),.dead]) σ.length b (took q 0 (setB l)) (g0 _ _ _);simp -implicitDefEqProofs only[go_sem];refine CO.intro h3 ?_;have hbm:Bel σ.length (.sl 2 (lvs l)):=z0k _ _
   cases hr:setR b with
   |none =>
    have hb2:=hS.2 hr;rw[hb2];simp -implicitDefEqProofs only[go_sem];exact Fini.trim2 (σ':=σ) rfl rfl (Nat.le_refl _) (by unfold readV;exact z16 .nils) hbel
   |some p =>
    obtain⟨M,t⟩:=p;have hb2:=hS.1 M t hr;simp only[Prod.mk.injEq]at hb2;obtain⟨rfl,hb2⟩:=hb2;rw[hb2];simp -implicitDefEqProofs only[go_sem];refine Fini.trim2 (σ':=σ) rfl rfl (Nat.le_refl _) ?_ hbel;unfold readV;exact z16 hbm
theorem z7f (σ:St) (b:Byt) (hb:b.length≤50000):Ans Tryz.prog 138 [.sl 1 (byv b)] σ (readV (setR b) b lsV (lsV [])) σ:=by
 refine(z9W σ b hb).subR ?_;unfold readV
 cases setR b with
 |none=>exact .tup (.cons (.nils 2) (.refl _))
 |some p=>exact .refl _
end Go.Proofs.YtmkmhhjkdaklbaaGreat
namespace Go.Ab
open Go Go.ChangeShapes Go.WideShapes
theorem Reads.weak {P:Program} {t:TypeId} {f:Nat} {Q Q':List AV→Prop} (h:Reads P t f Q) (hq:∀xs,Q xs→∃ys,Q' ys∧Subs xs ys):Reads P t f Q':=by
 intro H enc W cs x hx;obtain⟨xs,h1,h2⟩:=h H enc W cs x hx;obtain⟨ys,h3,h4⟩:=hq xs h2;exact⟨ys,h4.reps h1,h3⟩
def zeV:List AV→Prop:=fun xs=>∃n:Nat,xs=[.pl (.float .f64 n)]
theorem Reads.float {P:Program} {t:TypeId} (ht:P.underlying t=some (.float .f64)) (f:Nat):Reads P t f zeV:=by
 intro H enc W cs x h
 have:∃n,cs=[.float .f64 n]:=by
  cases f with
  |zero=>simp[DataW.trod]at h
  |succ n =>
   unfold DataW.trod at h;rw[ht]at h;split at h<;>simp_all
 obtain⟨n,rfl⟩:=this;exact⟨_,z2x (.pl _),n,rfl⟩
def QSl (sz:Nat) (ag:Bool) (Q:List AV→Prop):List AV→Prop:=fun xs=>∃ys:List (List AV),(∀y∈ys,Q y)∧ys.length≤maxLen∧xs=[.sl sz (ys.map (wrapC ag))]
theorem QSlice.weak {sz:Nat} {ag:Bool} {Q:List AV→Prop} (xs:List AV) (h:QSlice sz ag Q xs):∃ys,QSl sz ag Q ys∧Subs xs ys:=by
 rcases h with rfl|⟨ys,h1,h2,rfl⟩
 · exact⟨_,⟨[],by simp,by simp,rfl⟩,.cons (.nils sz) .nil⟩
 · exact⟨_,⟨ys,h1,h2,rfl⟩,Subs.refl _⟩
end Go.Ab
namespace Go.Proofs.YtmkmhhjkdaklbaaGreat
open Go Go.Ab Go.ChangeShapes Go.WideShapes Go.ChangeAt Go.RowKit
set_option maxRecDepth 100000
def QMat:List AV→Prop:=fun xs=>∃d:Int×Int×Int,xs=[I d.1,I d.2.1,I d.2.2]
theorem zbm (f:Nat):Reads Tryz.prog 146 f QMat:=by
 cases f with
 |zero=>exact Reads.zero
 |succ f =>
  have h:=Reads.struct (P:=Tryz.prog) (t:=146) (f:=f) (Qs:=[QInt .i64,QInt .i64,QInt .i64]) Tryz.underlying146 (by kernel_rfl) rfl (by
   intro p hp;simp only[List.zip_cons_cons,List.zip_nil_right,List.mem_cons,List.not_mem_nil,or_false]at hp;rcases hp with rfl|rfl|rfl
   · exact Reads.int Tryz.underlying3 f
   · exact Reads.int Tryz.underlying3 f
   · exact Reads.int Tryz.underlying3 f)
  refine h.mono fun xs hq=>?_
  obtain⟨_,b,rfl,⟨k,_,rfl⟩,_,d,rfl,⟨n,_,rfl⟩,_,_,rfl,⟨v,_,rfl⟩,rfl⟩:=hq;exact⟨(k,n,v),rfl⟩
theorem z9g:∀{ys:List (List AV)},(∀y∈ys,QMat y)→∃ds:List (Int×Int×Int),ds.length=ys.length∧ys.map (wrapC true)=ds.map dv
 |[],_=>⟨[],rfl,rfl⟩
 |y::ys,h=>by
  obtain⟨d,rfl⟩:=h y List.mem_cons_self;obtain⟨ds,hl,hns⟩:=z9g fun y hy=>h y (List.mem_cons_of_mem _ hy)
  exact⟨d::ds,by simp[hl],by rw[List.map_cons,hns];rfl⟩
theorem zbn:∀{ys:List (List AV)},(∀y∈ys,QInt .i64 y)→∃ns:List Int,ys.map (wrapC false)=ns.map I
 |[],_=>⟨[],rfl⟩
 |y::ys,h=>by
  obtain⟨n,_,rfl⟩:=h y List.mem_cons_self;obtain⟨ns,hns⟩:=zbn fun y hy=>h y (List.mem_cons_of_mem _ hy)
  exact⟨n::ns,by rw[List.map_cons,hns];rfl⟩
def QMats:List AV→Prop:=fun xs=>∃ds:List (Int×Int×Int),ds.length≤9223372036854775807∧xs=[.sl 3 (ds.map dv)]
def QInts:List AV→Prop:=fun xs=>∃ns:List Int,xs=[.sl 1 (ns.map I)]
theorem z47 (f:Nat):Reads Tryz.prog 37 f QMats:=by
 cases f with
 |zero=>exact Reads.zero
 |succ f =>
  refine((Reads.slice (sz:=3) true Tryz.underlying37 (by kernel_rfl) (by decide) (zbm f) (fun _ _ _=>rfl)).weak QSlice.weak).mono fun xs hq=>?_
  obtain⟨ys,h1,h2,rfl⟩:=hq;obtain⟨ds,hl,e⟩:=z9g h1;have hml:maxLen=9223372036854775807:=by decide
  exact⟨ds,by omega,by rw[e]⟩
theorem z5J (f:Nat):Reads Tryz.prog 40 f QInts:=by
 cases f with
 |zero=>exact Reads.zero
 |succ f =>
  refine((Reads.slice (sz:=1) false Tryz.underlying40 (by kernel_rfl) (by decide) (Reads.int Tryz.underlying3 f) (fun y hy _=>by obtain⟨n,_,rfl⟩:=hy;rfl)).weak QSlice.weak).mono fun xs hq=>?_
  obtain⟨ys,h1,h2,rfl⟩:=hq;obtain⟨ds,e⟩:=zbn h1;exact⟨ds,by rw[e]⟩
structure RuD where
 ds:List (Int×Int×Int)
 es:List (Int×Int×Int)
 sel:Int
 lo:Nat
 hi:Nat
 ns:List Int
 hd:ds.length≤9223372036854775807
 he:es.length≤9223372036854775807
def duC (d:RuD):List AV:=[.sl 3 (d.ds.map dv),.sl 3 (d.es.map dv),I d.sel,Fl d.lo,Fl d.hi,.sl 1 (d.ns.map I)]
def duV (d:RuD):AV:=.agg (duC d)
section
variable {H:Type} {enc:TypeId×Value→H} {W:World} {base:Nat} {v:Value} {d:DataW H} {ps:List MemPlace}
theorem ze1 (hv:Value.okWide Tryz.prog W .any base 3 v) (h:DataW.Trod enc Tryz.prog W 0 (fun _=>true) true 3 v d ps):∃n:Int,Rep noM noR W (I n) v:=by
 obtain⟨n,rfl⟩:=okWide_int Tryz.underlying3 hv;obtain⟨x,hx,m,hm,e⟩:=Reads.arg (P:=Tryz.prog) (t:=3) (fun f=>Reads.int Tryz.underlying3 f) rfl h
 simp only[List.cons.injEq,and_true]at e;subst e;exact⟨m,hx⟩
end
end Go.Proofs.YtmkmhhjkdaklbaaGreat
namespace Go.Proofs.YtmkmhhjkdaklbaaGreat
open Go Go.Ab Go.Cod
set_option maxRecDepth 100000
def z2d (d:RuD):RuM:=⟨mustL true (z0m d.ds []),mustL true (z0m d.es []),(z0v d.sel d.lo d.hi).1,(z0v d.sel d.lo d.hi).2.1,(z0v d.sel d.lo d.hi).2.2,z3u d.ns⟩
theorem zcG (σ:St) (d:RuD):Ans Tryz.prog 22 [duV d] σ (ruV (z2d d)) σ :=
 zdZ σ d.ds d.es d.sel d.lo d.hi d.ns (z0v d.sel d.lo d.hi) _ _ (fun σ=>z2T σ true d.ds d.hd) (fun σ=>z2T σ true d.es d.he)
  (fun n=>z3s n _) (fun n=>z3s n _) (fun σ=>z6g σ _ _ _)
def subsL:List ByteArray→List (List ByteArray)
 |[]=>[[]]
 |x::xs=>subsL xs++(subsL xs).map fun l=>x::l
theorem z59:∀{l r:List ByteArray},l.Sublist r→l∈subsL r
 |_,_,.slnil=>by simp[subsL]
 |l,x::r,.cons _ h=>List.mem_append_left _ (z59 h)
 |x::l,_::r,.cons_cons _ h=>List.mem_append_right _ (List.mem_map.2 ⟨l,z59 h,rfl⟩)
theorem z6q (ns:List Int):∀(r e:List ByteArray),∃l,eqGo ns r e=e++l∧l.Sublist r
 |[],e=>⟨[],by simp[eqGo],.slnil⟩
 |s::r,e=>by
  rw[eqGo];split
  · cases hasN (ns.take 9) s with
    |true =>
     obtain⟨l,h1,h2⟩:=z6q ns r (e++[s]);exact⟨s::l,by rw[if_pos rfl,h1];simp,.cons_cons _ h2⟩
    |false =>
     obtain⟨l,h1,h2⟩:=z6q ns r e;exact⟨l,by rw[if_neg Bool.false_ne_true,h1],.cons _ h2⟩
  · exact⟨[],by simp,List.nil_sublist _⟩
theorem z9h (ns:List Int):∀(r e:List ByteArray),e.length≤4→(eqGo ns r e).length≤4
 |[],e,h=>by simpa[eqGo] using h
 |s::r,e,h=>by
  rw[eqGo];split
  · refine z9h ns r _ ?_;split
    · simp;omega
    · omega
  · exact h
theorem subs_ok:∀l∈subsL nm5,l.length≤4→eqB l=true:=by decide +kernel
theorem z8h (ns:List Int):(z3u ns).Sublist nm5:=by
 obtain⟨l,h1,h2⟩:=z6q ns nm5 [];unfold z3u;rw[h1];exact h2
theorem z8i (ns:List Int):(z3u ns).length≤4:=z9h ns nm5 [] (by simp)
theorem ze2 {e:List ByteArray} (ns:List Int) (h:e.Sublist (z3u ns)):eqB e=true :=
 subs_ok e (z59 (h.trans (z8h ns))) (by have:=h.length_le;have:=z8i ns;omega)
end Go.Proofs.YtmkmhhjkdaklbaaGreat
namespace Go.Proofs.YtmkmhhjkdaklbaaGreat
open Go Go.Ab Go.Cod Go.ChangeShapes Go.WideShapes Go.ChangeAt Go.RowKit
set_option maxRecDepth 100000
def eqMt (x y:Mtr):Bool:=x.1==y.1&&(x.2.1.toList==y.2.1.toList&&(x.2.2.toList==y.2.2.toList&&true))
def sameM (A B:List Mtr):Bool:=decide (A.length=B.length)&&(List.range A.length).all fun i=>eqMt (A.getD i noM3) (B.getD i noM3)
theorem zbo (x:Mtr):eqMt x x=true:=by simp[eqMt]
theorem z5K (A:List Mtr):sameM A A=true:=by simp[sameM,zbo]
theorem z5a (σ:St) (A B:List Mtr) (hA:A.length≤1000):Ans Tryz.prog 77 [.sl 3 (mvs3 A),.sl 3 (mvs3 B)] σ (Bo (sameM A B)) σ:=by
 refine Ans.of_run t77 ?_
 have e0:((A.length:Int) != B.length)= !decide (A.length=B.length):=by
  rw[Bool.eq_iff_iff];simp only[bne_iff_ne,Bool.not_eq_true',decide_eq_false_iff_not];omega
 unfold sameM;by_cases hl:A.length=B.length
 · rw[decide_eq_true hl,Bool.true_and];rw[decide_eq_true hl]at e0;simp -implicitDefEqProofs only[c77,r77,go_sem,z0t,e0];refine Go.Ab.L.scan A.length (fun i=>eqMt (A.getD i noM3) (B.getD i noM3)) (fun i=>mkE 26 [(0,.sl 3 (mvs3 A)),(1,.sl 3 (mvs3 B)),(5,I i)]) (fun _=>σ) ?_ ?_ rfl rfl
   · intro i hi hp J hJ;have hx:=z8X A i hi;have hy:=z8X B i (by omega)
     have hlB:((i:Int)<B.length)=True:=by simp;omega
     have hF:eqMt (A.getD i noM3) (B.getD i noM3)=false→((List.range A.length).all fun i=>eqMt (A.getD i noM3) (B.getD i noM3))=false:=fun h=>List.all_eq_false.2 ⟨i,List.mem_range.2 hi,by rw[h];decide⟩
     have hin:=wrap_succ (i:=i) (by omega)
     generalize A.getD i noM3=x at hx hJ hF;generalize B.getD i noM3=y at hy hJ hF;simp -implicitDefEqProofs only[mkE,go_sem,z0t,z0j hi,dec_lt hi,hlB,hx,hy,mv3,Bool.true_xor]
     cases hb:eqMt x y with
     |true =>
      have hgo:=hJ hb;have hb':(x.1==y.1&&(x.2.1.toList==y.2.1.toList&&(x.2.2.toList==y.2.2.toList&&true)))=true:=hb;simp only[Bool.and_true]at hb';simp -implicitDefEqProofs only[go_sem,hb',hin];exact hgo
     |false =>
      have hb':(x.1==y.1&&(x.2.1.toList==y.2.1.toList&&(x.2.2.toList==y.2.2.toList&&true)))=false:=hb;simp only[Bool.and_true]at hb';rw[hF hb];simp -implicitDefEqProofs only[go_sem,hb'];exact Fini.ret rfl
   · intro hp J;have hd:decide ((A.length:Int)<A.length)=false:=by simp
     simp -implicitDefEqProofs only[mkE,go_sem,z0t,hd];refine Fini.ret' rfl (z1k ?_);exact(List.all_eq_true.2 fun i hi=>hp i (List.mem_range.1 hi)).symm
 · rw[decide_eq_false hl,Bool.false_and];rw[decide_eq_false hl]at e0;simp -implicitDefEqProofs only[c77,r77,go_sem,z0t,e0];exact Fini.ret rfl
theorem wf8 {n:Int} (h:(Lit.int .u8 n).wf=true):0≤n∧n<256:=by
 simp[Lit.wf,IntKind.min,IntKind.max,IntKind.bits,IntKind.signed]at h;omega
theorem z8j:∀{ys:List (List AV)},(∀y∈ys,QInt .u8 y)→∃b:Byt,ys.map (wrapC false)=byv b
 |[],_=>⟨[],rfl⟩
 |y::ys,h=>by
  obtain⟨m,hm,rfl⟩:=h y List.mem_cons_self;obtain⟨b,hb⟩:=z8j (ys:=ys) (fun z hz=>h z (List.mem_cons_of_mem _ hz))
  obtain⟨h0,h1⟩:=wf8 hm;obtain⟨n,rfl⟩:=Int.eq_ofNat_of_zero_le h0;refine⟨n.toUInt8::b,?_⟩;rw[List.map_cons,hb,z69,←bc_of (show n<256 by omega)]
  rfl
theorem zcH {H:Type} {enc:TypeId×Value→H} {W:World} {base:Nat} {v:Value} {d:DataW H} {ps:List MemPlace} (hv:Value.okWide Tryz.prog W .any base 29 v)
  (h:DataW.Trod enc Tryz.prog W 0 (fun _=>true) true 29 v d ps):∃b:Byt,Rep noM noR W (.sl 1 (byv b)) v:=by
 obtain⟨sa,len,cap,rfl⟩:=okWide_slice Tryz.underlying29 hv
 obtain⟨x,hx,hq⟩:=Reads.arg (P:=Tryz.prog) (t:=29) (Q:=QSlice 1 false (QInt .u8)) (fun f=>by
  cases f with
  |zero=>exact Reads.zero
  |succ f=>exact Reads.slice false Tryz.underlying29 (by kernel_rfl) (by decide) (Reads.int Tryz.underlying5 f) (fun y hy _=>by obtain⟨n,_,rfl⟩:=hy;rfl)) rfl h
 rcases hq with hq|⟨ys,hys,_,hq⟩
 · simp only[List.cons.injEq,and_true]at hq;subst hq;refine⟨[],?_⟩;have:=hx.nils_inv;rw[this];exact .sl0 _ _ _
 · obtain⟨b,hn⟩:=z8j hys;simp only[List.cons.injEq,and_true]at hq;subst hq;rw[hn]at hx;exact⟨b,hx⟩
end Go.Proofs.YtmkmhhjkdaklbaaGreat
namespace Go.Proofs.YtmkmhhjkdaklbaaGreat
open Go Go.Ab Go.Cod
set_option maxRecDepth 100000
theorem zcI:∀n∈names,nameB n=true:=by decide +kernel
theorem ze3:∀p∈pats,(z3d p).2=true:=by decide +kernel
theorem zcJ:∀p∈vals8,p.size≤24:=by decide +kernel
theorem ze4 {x:Mz} (h:MOK x):isB x.1 x.2.1 x.2.2=true:=by
 unfold isB;rw[zcI _ h.nm,Bool.true_and];have h1:=h.lo;have h4:=h.hi;by_cases h3:x.1<3
 · have hl:likeB x.1=false:=by unfold likeB;rw[Bool.or_eq_false_iff];exact⟨by simp;omega,by simp;omega⟩
   rw[hl];simp only[Bool.false_eq_true,if_false,Bool.and_eq_true,Bool.or_eq_true,beq_iff_eq,decide_eq_true_eq];exact⟨by omega,zcJ _ (h.low h3)⟩
 · have hl:likeB x.1=true:=by unfold likeB;rw[Bool.or_eq_true];simp only[beq_iff_eq];omega
   rw[hl];simp only[if_true];exact ze3 _ (h.high h3)
theorem ze5 (x y:Mz):z2q x y=z4T x y:=by
 unfold z2q z4T;have:(x.1 != y.1)= !(x.1==y.1):=rfl;rw[this]
theorem zcK {M:List Mz} (h5:M.length≤5) (ho:∀y∈M,MOK y) (ha:Adj M):listB M=true:=by
 unfold listB;rw[decide_eq_true h5,Bool.true_and];refine List.all_eq_true.2 fun i hi=>?_
 have hi:=List.mem_range.1 hi;have e:M.getD i noM3=M[i]:=by rw[List.getD_eq_getElem?_getD,List.getElem?_eq_getElem hi];rfl
 unfold okL isM;rw[e,ze4 (ho _ (List.getElem_mem hi)),Bool.true_and]
 cases i with
 |zero=>rfl
 |succ i =>
  have e2:M.getD (i+1-1) noM3=M[i]:=by rw[List.getD_eq_getElem?_getD,Nat.add_sub_cancel,List.getElem?_eq_getElem (by omega)];rfl
  rw[e2];have:=ha i M[i] M[i+1] (by simp) (by simp[hi])
  rw[ze5]at this;rw[this];simp
theorem z5L (ds:List (Int×Int×Int)):listB (z0m ds [])=true:=by
 obtain⟨h1,h2,h3⟩:=zb7 ds;exact zcK h1 h2 h3
end Go.Proofs.YtmkmhhjkdaklbaaGreat
namespace Go.Proofs.YtmkmhhjkdaklbaaGreat
open Go Go.Ab Go.Cod Ieee
set_option maxRecDepth 100000
theorem zeW (p q:Int) (h:(some (compare q p)==some Ordering.lt)=false):(some (compare p q)==some Ordering.lt||some (compare p q)==some Ordering.eq)=true:=by
 simp only[compare,compareOfLessAndEq]at h⊢;by_cases h1:q<p
 · rw[if_pos h1]at h;exact absurd h (by decide)
 · by_cases h2:p<q
   · rw[if_pos h2];rfl
   · have:p=q:=by omega
     rw[if_neg h2,if_pos this];rfl
theorem ze6 (a b:Nat) (h1:nanF a=false) (h2:nanF b=false) (h3:ltF b a=false):leF a b=true:=by
 unfold nanF at h1 h2;unfold ltF at h3;unfold leF;unfold Format.order at *;generalize FloatKind.f64.format.read a=x at *;generalize FloatKind.f64.format.read b=y at *
 cases x with
 |nan s m=>simp[Datum.order]at h1
 |infinity s =>
  cases y with
  |nan t n=>simp[Datum.order]at h2
  |infinity t=>revert h3;cases s<;>cases t<;>decide
  |number t n j =>
   revert h3;cases s<;>simp[Datum.order]
 |number s m i =>
  cases y with
  |nan t n=>simp[Datum.order]at h2
  |infinity t =>
   revert h3;cases t<;>simp[Datum.order]
  |number t n j =>
   simp only[Datum.order]at h3⊢;rw[show min j i=min i j from Int.min_comm j i]at h3
   exact zeW _ _ h3
theorem z0Y:bitsF 0=0:=by decide +kernel
theorem z9i (sel:Int) (lo hi:Nat):mayB (z0v sel lo hi).1 (z0v sel lo hi).2.1 (z0v sel lo hi).2.2=true:=by
 unfold z0v;split
 · simp only[mayB,z0Y];rfl
 · rename_i h
   have hn:nanF lo=false∧nanF hi=false:=by
    cases h1:nanF lo<;>cases h2:nanF hi<;>simp_all
   split
   · rename_i h3
     have:leF hi lo=true:=by
      unfold ltF at h3;unfold leF;rw[h3];rfl
     simpa[mayB] using this
   · rename_i h3;have:leF lo hi=true:=ze6 lo hi hn.1 hn.2 (by simpa using h3)
     simpa[mayB] using this
theorem zcL:∀n∈names,n.size≤100000:=by decide +kernel
theorem z5b (ds:List (Int×Int×Int)):listB (mustL true (z0m ds []))=true∧((((mustL true (z0m ds [])).length:Nat):Int)==0)=false∧∀x∈mustL true (z0m ds []),x.2.1.size≤100000:=by
 have hd:listB [(1,⟨#[115,101,118]⟩,⟨#[97]⟩)]=true:=by decide +kernel
 cases hm:z0m ds [] with
 |nil =>
  refine⟨hd,by decide,fun x hx=>?_⟩
  have:x=(1,⟨#[115,101,118]⟩,⟨#[97]⟩):=by simpa[mustL] using hx
  subst this
  decide
 |cons y l =>
  have h:=z5L ds;obtain⟨_,h2,_⟩:=zb7 ds;rw[hm]at h h2;refine⟨h,by simp[mustL];omega,fun x hx=>?_⟩
  have hx':x∈y::l:=by simpa[mustL] using hx
  exact zcL _ (h2 x hx').nm
theorem zcM (d:RuD):ruIs (z2d d)=true:=by
 have h1:=z5b d.ds;have h2:=z5b d.es;have h3:=z9i d.sel d.lo d.hi;have h4:=ze2 d.ns (List.Sublist.refl _);unfold ruIs z2d;simp only;rw[h1.1,h1.2.1,h2.1,h2.2.1,h3,h4];rfl
end Go.Proofs.YtmkmhhjkdaklbaaGreat
namespace Go.Proofs.YtmkmhhjkdaklbaaGreat
open Go Go.Ab
set_option maxRecDepth 100000
def c48:ACode :=
 (sq_ [pr_ 2 (mi_ .u64 0)]
 (.seq (sq_ [mv_ 3 0,
 mv_ 4 0,
 pr_ 5 (bt_ .neq 3 4)]
 (.cond (.tmp 5)
 (sq_ [pr_ 2 (mi_ .u64 9221120237041090561)]
 .ret)
 .skip))
 (sq_ [mv_ 6 0,
 c1_ 7 47 6,
 mv_ 2 7]
 .ret)))
def o48:List Tmp:=[]
def r48:List RV:=[.tmp 2]
theorem t48:Text Tryz.prog 48 o48 c48 r48 8:=.mk_ Tryz.f48 rfl
end Go.Proofs.YtmkmhhjkdaklbaaGreat
namespace Go.Proofs.YtmkmhhjkdaklbaaGreat
open Go Go.Ab Go.Cod
set_option maxRecDepth 100000
section
variable (σ:St)
theorem z1U (a:Nat):Ans Tryz.prog 48 [Fl a] σ (UN (bitsF a)) σ:=by
 refine Ans.of_run t48 ?_;unfold bitsF;simp -implicitDefEqProofs only[c48,r48,go_sem,z4r]
 cases nanF a with
 |true =>
  simp -implicitDefEqProofs only[go_sem];exact Fini.ret rfl
 |false =>
  simp -implicitDefEqProofs only[go_sem];refine CO.intro (z3r σ a) ?_;simp -implicitDefEqProofs only[go_sem];exact Fini.ret rfl
end
end Go.Proofs.YtmkmhhjkdaklbaaGreat
namespace Go.Proofs.YtmkmhhjkdaklbaaGreat
open Go Go.Ab
set_option maxRecDepth 100000
def c21:ACode :=
 (sq_ [pr_ 2 (.boxr (.tmp 0)),
 pr_ 3 (.boxr (.tmp 1)),
 pr_ 4 mf_]
 (.seq (sq_ [pr_ 6 (fa_ 5 2),
 pr_ 7 (lf_ 1 6),
 pr_ 8 (.lenv (.tmp 7)),
 pr_ 9 (fa_ 5 3),
 pr_ 10 (lf_ 1 9),
 pr_ 11 (.lenv (.tmp 10)),
 pr_ 12 (bt_ .neq 8 11),
 mv_ 13 12,
 gp_ 14 13 false (fa_ 0 2),
 gp_ 15 13 false (lf_ 1 14),
 gp_ 16 13 false (fa_ 0 3),
 gp_ 17 13 false (lf_ 1 16),
 gc_ 18 13 false 77 [(.tmp 15),(.tmp 17)],
 gp_ 19 13 false (no_ 18),
 pr_ 20 (po_ 13 19),
 mv_ 21 20,
 gp_ 22 21 false (fa_ 1 2),
 gp_ 23 21 false (lf_ 1 22),
 gp_ 24 21 false (fa_ 1 3),
 gp_ 25 21 false (lf_ 1 24),
 gc_ 26 21 false 77 [(.tmp 23),(.tmp 25)],
 gp_ 27 21 false (no_ 26),
 pr_ 28 (po_ 21 27),
 mv_ 29 28,
 gp_ 30 29 false (fa_ 2 2),
 gp_ 31 29 false (lt_ 3 30),
 gp_ 32 29 false (fa_ 2 3),
 gp_ 33 29 false (lt_ 3 32),
 gc_ 34 29 false 78 [(.tmp 31),(.tmp 33)],
 gp_ 35 29 false (no_ 34),
 pr_ 36 (po_ 29 35)]
 (.cond (.tmp 36)
 (sq_ [pr_ 4 mf_]
 .ret)
 .skip))
 (.seq (sq_ [pr_ 5 (mi_ .i64 0)]
 (.block 0 (.loop [0,1,4,6,7,8,9,10,11,12,13,14,15,16,17,18,19,20,21,22,23,24,25,26,27,28,29,30,31,32,33,34,35,36,37,38,39,40,41,42,43,44,45,46,47,48,49,50,51,52,53,54] (.seq (sq_ [mv_ 37 5,
 pr_ 38 (fa_ 5 2),
 pr_ 39 (lf_ 1 38),
 pr_ 40 (.lenv (.tmp 39)),
 pr_ 41 (bt_ .lss 37 40)]
 (.cond (.tmp 41)
 .skip
 (.exit 0)))
 (.seq (.block 1 (.seq (.draw [⟨pr_ 44 (fa_ 5 2),[],false,0,0⟩,
 ⟨pr_ 45 (lf_ 1 44),[0],false,0,0⟩,
 ⟨mv_ 46 5,[],false,0,0⟩,
 ⟨pr_ 47 (.iadrs 1 (.tmp 45) (.tmp 46)),[0,1,2],false,0,0⟩,
 ⟨pr_ 48 (lf_ 1 47),[0,1,2,3],false,0,0⟩,
 ⟨pr_ 49 (fa_ 5 3),[],false,0,0⟩,
 ⟨pr_ 50 (lf_ 1 49),[5],false,0,0⟩,
 ⟨mv_ 51 5,[],false,0,0⟩,
 ⟨pr_ 52 (.iadrs 1 (.tmp 50) (.tmp 51)),[5,6,7],false,0,0⟩,
 ⟨pr_ 53 (lf_ 1 52),[5,6,7,8],false,0,0⟩,
 ⟨pr_ 54 (bt_ .neq 48 53),(List.range 10),false,0,0⟩])
 (.cond (.tmp 54)
 (sq_ [pr_ 4 mf_]
 .ret)
 .skip)))
 (.ops [mv_ 42 5,
 pr_ 43 (bk_ .add 42 .i64 1),
 mv_ 5 43]))))))
 (sq_ [pr_ 4 mt_]
 .ret))))
def o21:List Tmp:=[]
def r21:List RV:=[.tmp 4]
theorem t21:Text Tryz.prog 21 o21 c21 r21 55:=.mk_ Tryz.f21 rfl
def c78:ACode :=
 (sq_ [pr_ 2 (.boxr (.tmp 0)),
 pr_ 3 (.boxr (.tmp 1)),
 pr_ 4 mf_]
 (.seq (.draw [⟨pr_ 5 (fa_ 0 2),[],false,0,0⟩,
 ⟨pr_ 6 (lf_ 1 5),[0],false,0,0⟩,
 ⟨pr_ 7 (fa_ 0 3),[],false,0,0⟩,
 ⟨pr_ 8 (lf_ 1 7),[2],false,0,0⟩,
 ⟨pr_ 9 (.bin true .eql (.tmp 6) (.tmp 8)),[0,1,2,3],false,0,0⟩,
 ⟨mv_ 10 9,[0,1,2,3,4],false,0,0⟩,
 ⟨gp_ 11 10 true (fa_ 1 2),(List.range 6),false,0,0⟩,
 ⟨gp_ 12 10 true (lf_ 1 11),(List.range 7),false,0,0⟩,
 ⟨gc_ 13 10 true 48 [(.tmp 12)],(List.range 8),true,0,0⟩,
 ⟨gp_ 14 10 true (fa_ 1 3),(List.range 6),false,0,1⟩,
 ⟨gp_ 15 10 true (lf_ 1 14),[0,1,2,3,4,5,9],false,0,1⟩,
 ⟨gc_ 16 10 true 48 [(.tmp 15)],(List.range 11),true,0,0⟩,
 ⟨gp_ 17 10 true (bt_ .eql 13 16),(List.range 12),false,2,2⟩,
 ⟨pr_ 18 (pa_ 10 17),(List.range 13),false,2,2⟩,
 ⟨mv_ 19 18,(List.range 14),false,2,2⟩,
 ⟨gp_ 20 19 true (fa_ 2 2),(List.range 15),false,2,2⟩,
 ⟨gp_ 21 19 true (lf_ 1 20),(List.range 16),false,2,2⟩,
 ⟨gc_ 22 19 true 48 [(.tmp 21)],(List.range 17),true,0,0⟩,
 ⟨gp_ 23 19 true (fa_ 2 3),(List.range 15),false,2,3⟩,
 ⟨gp_ 24 19 true (lf_ 1 23),[0,1,2,3,4,5,6,7,8,9,10,11,12,13,14,18],false,2,3⟩,
 ⟨gc_ 25 19 true 48 [(.tmp 24)],(List.range 20),true,0,0⟩,
 ⟨gp_ 26 19 true (bt_ .eql 22 25),(List.range 21),false,4,4⟩,
 ⟨pr_ 27 (pa_ 19 26),(List.range 22),false,4,4⟩,
 ⟨mv_ 4 27,(List.range 23),false,4,4⟩])
 .ret))
def o78:List Tmp:=[]
def r78:List RV:=[.tmp 4]
theorem t78:Text Tryz.prog 78 o78 c78 r78 28:=.mk_ Tryz.f78 rfl
end Go.Proofs.YtmkmhhjkdaklbaaGreat
namespace Go.Proofs.YtmkmhhjkdaklbaaGreat
open Go Go.Ab Go.Cod
set_option maxRecDepth 100000
def eqT (a b:ByteArray):Bool:=a.toList==b.toList
def eqBf (a b:Nat):Bool:=((bitsF a:Nat):Int)==((bitsF b:Nat):Int)
def z3f (x y:Bnd):Bool:=(x.1==y.1)&&(eqBf x.2.1 y.2.1&&eqBf x.2.2 y.2.2)
def eqTs (a b:List ByteArray):Bool:=(List.range a.length).all fun i=>eqT (a.getD i ⟨#[]⟩) (b.getD i ⟨#[]⟩)
def z4f (x y:RuM):Bool:=decide (x.eq.length=y.eq.length)&&(sameM x.src y.src&&(sameM x.tgt y.tgt&&(z3f (x.any,x.lo,x.hi) (y.any,y.lo,y.hi)&&eqTs x.eq y.eq)))
theorem zbp (a:List ByteArray):eqTs a a=true:=by simp[eqTs,eqT]
theorem z5c (x:Bnd):z3f x x=true:=by simp[z3f,eqBf]
theorem z8k (x:RuM):z4f x x=true:=by simp[z4f,z5K,z5c,zbp]
section
variable (σ:St)
theorem z4g (x y:Bnd):Ans Tryz.prog 78 [bandV x,bandV y] σ (Bo (z3f x y)) σ:=by
 obtain⟨a,lo,hi⟩:=x;obtain⟨c,lo',hi'⟩:=y;have i1:=fun s=>z1U s lo
 have i2:=fun s=>z1U s lo'
 have i3:=fun s=>z1U s hi
 have i4:=fun s=>z1U s hi'
 refine Ans.of_run t78 ?_;unfold bandV z3f eqBf;simp only
 cases h1:(a==c) with
 |false =>
  simp -implicitDefEqProofs only[c78,r78,go_sem,h1];exact Fini.ret rfl
 |true =>
  simp -implicitDefEqProofs only[c78,r78,go_sem,h1];refine CD.intro (i1 _) ?_;simp -implicitDefEqProofs only[go_sem];refine CD.intro (i2 _) ?_
  cases h2:(((bitsF lo:Nat):Int)==((bitsF lo':Nat):Int)) with
  |false =>
   simp -implicitDefEqProofs only[go_sem,h2];exact Fini.ret rfl
  |true =>
   simp -implicitDefEqProofs only[go_sem,h2];refine CD.intro (i3 _) ?_;simp -implicitDefEqProofs only[go_sem];refine CD.intro (i4 _) ?_;simp -implicitDefEqProofs only[go_sem];exact Fini.ret rfl
theorem zbq (x y:RuM) (h1:x.src.length≤1000) (h2:x.tgt.length≤1000) (h3:x.eq.length≤100000):Ans Tryz.prog 21 [ruV x,ruV y] σ (Bo (z4f x y)) σ:=by
 have i1:=fun s=>z5a s x.src y.src h1
 have i2:=fun s=>z5a s x.tgt y.tgt h2
 have i3:=fun s=>z4g s (x.any,x.lo,x.hi) (y.any,y.lo,y.hi)
 unfold bandV at i3
 have e1:(((x.eq.length:Nat):Int) != ((y.eq.length:Nat):Int))= !decide (x.eq.length=y.eq.length):=by
  rw[bne];congr 1
  rw[Bool.eq_iff_iff];simp only[beq_iff_eq,decide_eq_true_eq];omega
 refine Ans.of_run t21 ?_;unfold ruV z4f;by_cases hl:x.eq.length=y.eq.length
 · have e2:(((x.eq.length:Nat):Int) != ((y.eq.length:Nat):Int))=false:=by rw[e1,decide_eq_true hl];rfl
   rw[decide_eq_true hl];simp -implicitDefEqProofs only[c21,r21,go_sem,z0H,e2];refine CO.intro (i1 _) ?_
   cases sameM x.src y.src with
   |false =>
    simp -implicitDefEqProofs only[go_sem];exact Fini.ret rfl
   |true =>
   simp -implicitDefEqProofs only[go_sem];refine CO.intro (i2 _) ?_
   cases sameM x.tgt y.tgt with
   |false =>
    simp -implicitDefEqProofs only[go_sem];exact Fini.ret rfl
   |true =>
   simp -implicitDefEqProofs only[go_sem];refine CO.intro (i3 _) ?_
   cases z3f (x.any,x.lo,x.hi) (y.any,y.lo,y.hi) with
   |false =>
    simp -implicitDefEqProofs only[go_sem];exact Fini.ret rfl
   |true =>
   simp -implicitDefEqProofs only[go_sem,Bool.true_and];unfold eqTs;refine Go.Ab.L.scan x.eq.length (fun i=>eqT (x.eq.getD i ⟨#[]⟩) (y.eq.getD i ⟨#[]⟩)) (fun i=>mkE 55 [(2,.rp [.sl 3 (mvs3 x.src),.sl 3 (mvs3 x.tgt),Bo x.any,Fl x.lo,Fl x.hi,.sl 1 (txs x.eq)]),(3,.rp [.sl 3 (mvs3 y.src),.sl 3 (mvs3 y.tgt),Bo y.any,Fl y.lo,Fl y.hi,.sl 1 (txs y.eq)]),(5,I i)]) (fun _=>σ) ?_ ?_ rfl rfl
   · intro i hi hp J hJ;have hx:=txs_D x.eq i hi;have hy:=txs_D y.eq i (by omega)
     have hin:=wrap_succ (i:=i) (by omega)
     have hF:eqT (x.eq.getD i ⟨#[]⟩) (y.eq.getD i ⟨#[]⟩)=false→((List.range x.eq.length).all fun i=>eqT (x.eq.getD i ⟨#[]⟩) (y.eq.getD i ⟨#[]⟩))=false:=fun h=>List.all_eq_false.2 ⟨i,List.mem_range.2 hi,by rw[h];decide⟩
     have n1:=z0j hi;have n2:=z0j (show i<y.eq.length by omega)
     simp -implicitDefEqProofs only[mkE,go_sem,z0H,n1,n2,dec_lt hi,hx,hy]
     cases hb:eqT (x.eq.getD i ⟨#[]⟩) (y.eq.getD i ⟨#[]⟩) with
     |false =>
      rw[hF hb];unfold eqT at hb;simp -implicitDefEqProofs only[go_sem,hb];exact Fini.ret rfl
     |true =>
      have hgo:=hJ hb;unfold eqT at hb;simp -implicitDefEqProofs only[go_sem,hb,hin];exact hgo
   · intro hp J;have hd:decide ((x.eq.length:Int)<x.eq.length)=false:=by simp
     simp -implicitDefEqProofs only[mkE,go_sem,z0H,hd];refine Fini.ret' rfl (z1k ?_);exact(List.all_eq_true.2 fun i hi=>hp i (List.mem_range.1 hi)).symm
 · have e2:(((x.eq.length:Nat):Int) != ((y.eq.length:Nat):Int))=true:=by rw[e1,decide_eq_false hl];rfl
   rw[decide_eq_false hl];simp -implicitDefEqProofs only[c21,r21,go_sem,z0H,e2];exact Fini.ret rfl
end
end Go.Proofs.YtmkmhhjkdaklbaaGreat
namespace Go.Ab
open Go Go.ChangeShapes Go.WideShapes
def z6r:List AV→Prop:=fun xs=>∃n:Nat,n<2^64∧xs=[.pl (.float .f64 n)]
theorem Reads.floatW {P:Program} {t:TypeId} (ht:P.underlying t=some (.float .f64)) (f:Nat):Reads P t f z6r:=by
 intro H enc W cs x h
 have:∃n,n<2^64∧cs=[.float .f64 n]:=by
  cases f with
  |zero=>simp[DataW.trod]at h
  |succ n =>
   unfold DataW.trod at h;rw[ht]at h;split at h<;>simp_all [Lit.wf]
   rename_i heq;subst heq;simp only at h;have h:=(Option.ite_none_right_eq_some.1 h).1;exact⟨of_decide_eq_true h.2,h.1⟩
 obtain⟨n,hn,rfl⟩:=this;exact⟨_,z2x (.pl _),n,hn,rfl⟩
end Go.Ab
namespace Go.Proofs.YtmkmhhjkdaklbaaGreat
open Go Go.Ab Go.Cod Go.ChangeShapes Go.WideShapes Go.ChangeAt Go.RowKit
set_option maxRecDepth 100000
theorem toList_inj {a b:ByteArray} (h:a.toList=b.toList):a=b:=by
 rw[ByteArray.toList_eq,ByteArray.toList_eq]at h;cases a;cases b;simpa using h
theorem ze7 (a b:ByteArray):eqT a b=true↔a=b:=by
 unfold eqT;rw[beq_iff_eq];exact⟨toList_inj,fun h=>by rw[h]⟩
theorem zbr {α:Type} {a b:List α} {z:α} (h:a.length=b.length) (h2:∀i,i<a.length→a.getD i z=b.getD i z):a=b:=by
 refine List.ext_getElem h fun i h1 h3=>?_
 have:=h2 i h1;rw[List.getD_eq_getElem?_getD,List.getD_eq_getElem?_getD,List.getElem?_eq_getElem h1,List.getElem?_eq_getElem h3]at this;exact this
theorem ze8 {a b:List ByteArray} (h:a.length=b.length) (h2:eqTs a b=true):a=b :=
 zbr h fun i hi=>(ze7 _ _).1 (List.all_eq_true.1 h2 i (List.mem_range.2 hi))
theorem ze9 {x y:Mtr} (h:eqMt x y=true):x=y:=by
 unfold eqMt at h;simp only[Bool.and_eq_true,beq_iff_eq,and_true]at h;obtain⟨h1,h2,h3⟩:=h;obtain⟨a,b,c⟩:=x;obtain⟨a',b',c'⟩:=y;simp only at h1 h2 h3;rw[h1,toList_inj h2,toList_inj h3]
theorem z6s {A B:List Mtr} (h:sameM A B=true):A=B:=by
 unfold sameM at h;simp only[Bool.and_eq_true,decide_eq_true_eq]at h;exact zbr h.1 fun i hi=>ze9 (List.all_eq_true.1 h.2 i (List.mem_range.2 hi))
theorem zbs {x:Bnd} (h:bMay x=true) (w:bSz x):bitsF x.2.1=x.2.1∧bitsF x.2.2=x.2.2:=by
 have:=zdh h w;obtain⟨any,lo,hi⟩:=x
 cases any with
 |true =>
  obtain⟨rfl,rfl⟩:lo=0∧hi=0:=this;exact⟨z0Y,z0Y⟩
 |false =>
  have:(lo<2^64∧bitsF lo=lo)∧(hi<2^64∧bitsF hi=hi):=this;exact⟨this.1.2,this.2.2⟩
theorem z7g {x y:Bnd} (hx:bMay x=true) (wx:bSz x) (hy:bMay y=true) (wy:bSz y) (h:z3f x y=true):x=y:=by
 obtain⟨b1,b2⟩:=zbs hx wx;obtain⟨b3,b4⟩:=zbs hy wy;unfold z3f eqBf at h;rw[b1,b2,b3,b4]at h;simp only[Bool.and_eq_true,beq_iff_eq]at h;obtain⟨a,lo,hi⟩:=x;obtain⟨c,lo',hi'⟩:=y;simp only at h;obtain⟨h1,h2,h3⟩:=h;rw[h1,Int.ofNat.inj h2,Int.ofNat.inj h3]
section
variable (σ:St)
end
def z8l:List AV→Prop:=fun xs=>∃(b:Int) (lo hi:Nat),lo<2^64∧hi<2^64∧xs=[I b,Fl lo,Fl hi]
def QDRuW:List AV→Prop:=fun xs=>∃d:RuD,d.lo<2^64∧d.hi<2^64∧xs=duC d
theorem z4h (f:Nat):Reads Tryz.prog 39 f z8l:=by
 cases f with
 |zero=>exact Reads.zero
 |succ f =>
  have h:=Reads.struct (P:=Tryz.prog) (t:=39) (f:=f) (Qs:=[QInt .i64,z6r,z6r]) Tryz.underlying39 (by kernel_rfl) rfl (by
   intro p hp;simp only[List.zip_cons_cons,List.zip_nil_right,List.mem_cons,List.not_mem_nil,or_false]at hp;rcases hp with rfl|rfl|rfl
   · exact Reads.int Tryz.underlying3 f
   · exact Reads.floatW Tryz.underlying23 f
   · exact Reads.floatW Tryz.underlying23 f)
  refine h.mono fun xs hq=>?_
  obtain⟨_,_,rfl,⟨k,_,rfl⟩,_,_,rfl,⟨n,hn,rfl⟩,_,_,rfl,⟨v,hv,rfl⟩,rfl⟩:=hq;exact⟨k,n,v,hn,hv,rfl⟩
theorem z7h (f:Nat):Reads Tryz.prog 42 f QDRuW:=by
 cases f with
 |zero=>exact Reads.zero
 |succ f =>
  have h:=Reads.struct (P:=Tryz.prog) (t:=42) (f:=f) (Qs:=[QMats,QMats,z8l,QInts]) Tryz.underlying42 (by kernel_rfl) rfl (by
   intro p hp;simp only[List.zip_cons_cons,List.zip_nil_right,List.mem_cons,List.not_mem_nil,or_false]at hp;rcases hp with rfl|rfl|rfl|rfl
   · exact z47 f
   · exact z47 f
   · exact z4h f
   · exact z5J f)
  refine h.mono fun xs hq=>?_
  obtain⟨_,_,rfl,⟨M,hM,rfl⟩,_,_,rfl,⟨N,hN,rfl⟩,_,_,rfl,⟨b,lo,hi,h1,h2,rfl⟩,_,_,rfl,⟨e,rfl⟩,rfl⟩:=hq;exact⟨⟨M,N,b,lo,hi,e,hM,hN⟩,h1,h2,rfl⟩
theorem zcN {d:RuD} (h1:d.lo<2^64) (h2:d.hi<2^64):ruSz (z2d d):=by
 unfold ruSz z2d z0v;simp only;split
 · exact⟨by decide,by decide⟩
 · split
   · exact⟨h2,h1⟩
   · exact⟨h1,h2⟩
end Go.Proofs.YtmkmhhjkdaklbaaGreat
namespace Go.Proofs.YtmkmhhjkdaklbaaGreat
open Go Go.Ab Go.Cod
set_option maxRecDepth 100000
abbrev ltS (a b:ByteArray):Bool:=Op.bytesLess a.toList b.toList
theorem zea:∀a∈names,∀b∈names,((a.toList==b.toList)||(ltS a b||ltS b a))=true:=by decide +kernel
theorem zeX:∀a∈names,∀b∈names,a=b∨ltS a b=true∨ltS b a=true:=fun a ha b hb=>by
 have:=zea a ha b hb;simp only[Bool.or_eq_true]at this;rcases this with h|h|h
 · exact .inl (toList_inj (eq_of_beq h))
 · exact .inr (.inl h)
 · exact .inr (.inr h)
theorem zdk:∀a∈names,ltS a a=false:=by decide +kernel
theorem nm_tr:∀a∈names,∀b∈names,∀c∈names,ltS a b=true→ltS b c=true→ltS a c=true:=by decide +kernel
theorem nm_ok:∀a∈names,nameB a=true:=by decide +kernel
theorem zeb:∀a∈values,valB a=true:=by decide +kernel
def rise (L:List Lab):Prop:=L.Pairwise fun x y=>ltS x.1 y.1=true
theorem z9j (out:List Lab) (x:Lab):∀m,(∀k,pos out x m≤k→k<m→ltS x.1 (out.getD k noL).1=true)∧(0<pos out x m→ltS x.1 (out.getD (pos out x m-1) noL).1=false)
 |0=>⟨fun k h1 h2=>absurd h2 (Nat.not_lt_zero _),fun h=>absurd h (Nat.lt_irrefl _)⟩
 |m+1=>by
  obtain⟨h1,h2⟩:=z9j out x m;rw[pos];split
  · rename_i h;refine⟨fun k hk hk2=>?_,h2⟩
    by_cases hkm:k=m
    · subst hkm;exact h
    · exact h1 k hk (by omega)
  · rename_i h;refine⟨fun k hk hk2=>by omega,fun _=>?_⟩
    simpa using h
theorem zbt {out:List Lab} {x:Lab} (ho:rise out) (hd:z1M out) (hx:x.1∈names) (hn:∀y∈out,y.1≠x.1):rise (insL out x):=by
 obtain⟨h1,h2⟩:=z9j out x out.length;have hp:=zay out x out.length;unfold insL;generalize pos out x out.length=n at h1 h2 hp⊢
 have ht:∀y∈out.take n,ltS y.1 x.1=true:=by
  intro y hy;obtain⟨i,hi,rfl⟩:=List.getElem_of_mem hy;rw[List.length_take]at hi;have hl:(out.getD (n-1) noL)=out[n-1]:=by rw[List.getD_eq_getElem?_getD,List.getElem?_eq_getElem (by omega),Option.getD_some]
  have h3:=h2 (by omega)
  rw[hl]at h3
  have hlast:ltS (out[n-1]'(by omega)).1 x.1=true:=by
   rcases zeX _ (hd _ (List.getElem_mem (show n-1<out.length by omega))).1 _ hx with h|h|h
   · exact absurd h (hn _ (List.getElem_mem _))
   · exact h
   · rw[h]at h3;cases h3
  rw[List.getElem_take];by_cases hin:i=n-1
  · subst hin;exact hlast
  · have hi2:i<n-1:=by omega
    have:=(List.pairwise_iff_getElem.1 ho) i (n-1) (by omega) (by omega) hi2
    exact nm_tr _ (hd _ (List.getElem_mem (show i<out.length by omega))).1 _ (hd _ (List.getElem_mem (show n-1<out.length by omega))).1 _ hx this hlast
 have hdr:∀y∈out.drop n,ltS x.1 y.1=true:=by
  intro y hy;obtain⟨i,hi,rfl⟩:=List.getElem_of_mem hy;rw[List.length_drop]at hi;have:=h1 (n+i) (by omega) (by omega)
  rw[List.getD_eq_getElem?_getD,List.getElem?_eq_getElem (by omega),Option.getD_some]at this
  rw[List.getElem_drop];exact this
 unfold rise at ho⊢;rw[List.append_assoc,List.pairwise_append];refine⟨ho.sublist (List.take_sublist _ _),?_,fun a ha b hb=>?_⟩
 · rw[List.singleton_append,List.pairwise_cons];exact⟨hdr,ho.sublist (List.drop_sublist _ _)⟩
 · rcases List.mem_append.1 hb with hb|hb
   · rw[List.mem_singleton.1 hb];exact ht a ha
   · exact nm_tr _ (hd _ (List.mem_of_mem_take ha)).1 _ hx _ (hd _ (List.mem_of_mem_drop hb)).1 (ht a ha) (hdr b hb)
def distinct (L:List Lab):Prop:=L.Pairwise fun x y=>x.1≠y.1
theorem z5M:∀(L acc:List Lab),rise acc→z1M acc→z1M L→distinct L→(∀x∈acc,∀y∈L,x.1≠y.1)→rise (L.foldl insL acc)
 |[],acc,h,_,_,_,_=>h
 |x::L,acc,h,hd,hL,hdis,hac=>by
  rw[List.foldl_cons];have hdis:=List.pairwise_cons.1 hdis;refine z5M L _ (zbt h hd (hL x List.mem_cons_self).1 fun y hy=>hac y hy x List.mem_cons_self) (fun y hy=>?_) (fun y hy=>hL y (List.mem_cons_of_mem _ hy)) hdis.2 (fun y hy z hz=>?_)
  · rcases z5Y hy with rfl|hy
    · exact hL y List.mem_cons_self
    · exact hd y hy
  · rcases z5Y hy with rfl|hy
    · exact hdis.1 z hz
    · exact hac y hy z (List.mem_cons_of_mem _ hz)
theorem zec {L:List Lab} {nm:ByteArray} (hd:z1M L) (h:((getL L nm).toList==(⟨#[]⟩:ByteArray).toList)=true):∀y∈L,y.1≠nm:=by
 induction L with
 |nil=>intro y hy;cases hy
 |cons x xs ih =>
  rw[getL]at h;split at h
  · exfalso
    have hv:=(hd x List.mem_cons_self).2;have:=toList_inj (eq_of_beq h);rw[this]at hv;have:=(z4J _ hv).1;exact absurd this (by decide)
  · rename_i hne;intro y hy;rcases List.mem_cons.1 hy with rfl|hy
    · intro he;rw[he]at hne;simp at hne
    · exact ih (fun z hz=>hd z (List.mem_cons_of_mem _ hz)) h y hy
theorem z9X (l:List Int):∀acc:List Lab,z1M acc→distinct acc→distinct (l.foldl z1d acc):=by
 induction l with
 |nil=>intro acc _ h;exact h
 |cons n l ih =>
  intro acc hd h;rw[List.foldl_cons];have hd2:z1M (z1d acc n):=z3n [n] acc hd;refine ih _ hd2 ?_;unfold z1d;split
  · rename_i hg;have:=zec hd hg;unfold distinct;rw[List.pairwise_append];exact⟨h,by simp,fun a ha b hb=>by rw[List.mem_singleton.1 hb];exact this a ha⟩
  · exact h
theorem z6t (ns:List Int):setB (z1K ns)=true:=by
 have hd0:z1M ([]:List Lab):=fun x hx=>by cases hx
 have h1:z1M (labs0 ns):=z3n _ _ hd0;have h2:distinct (labs0 ns):=z9X _ _ hd0 List.Pairwise.nil
 have h3:(labs0 ns).length≤5:=by
  have:=z4K (ns.take 5) [];have h5:(ns.take 5).length≤5:=by rw[List.length_take];omega
  simp only[List.length_nil]at this;exact Nat.le_trans this (by omega)
 have hl:z1M (labs ns)∧distinct (labs ns)∧1≤(labs ns).length∧(labs ns).length≤5:=by
  unfold labs;split
  · refine⟨fun x hx=>?_,by unfold distinct;simp,by simp,by simp⟩
    rw[List.mem_singleton.1 hx];exact⟨by simp[names],by simp[values]⟩
  · exact⟨h1,h2,by omega,h3⟩
 obtain⟨hd,hdis,l1,l5⟩:=hl;have hr:rise (setL (labs ns)):=z5M _ _ List.Pairwise.nil hd0 hd hdis (fun x hx=>by cases hx)
 have hsd:z1M (setL (labs ns)):=fun x hx=>hd x (z8J _ x hx)
 have hsl:=z5X (labs ns);unfold z1K;generalize setL (labs ns)=S at hr hsd hsl⊢
 have key:∀i,0<i→i<S.length→leS (S.getD i noLb).1 (S.getD (i-1) noLb).1=false:=by
  intro i h0 hi;have e1:S.getD i noLb=S[i]:=by rw[List.getD_eq_getElem?_getD,List.getElem?_eq_getElem hi,Option.getD_some]
  have e2:S.getD (i-1) noLb=S[i-1]:=by rw[List.getD_eq_getElem?_getD,List.getElem?_eq_getElem (by omega),Option.getD_some]
  rw[e1,e2];have hlt:=(List.pairwise_iff_getElem.1 hr) (i-1) i (by omega) hi (by omega)
  have n1:=(hsd _ (List.getElem_mem hi)).1;have n2:=(hsd _ (List.getElem_mem (show i-1<S.length by omega))).1
  unfold leS;rw[Bool.or_eq_false_iff];constructor
  · cases h:Op.bytesLess (S[i]).1.toList (S[i-1]).1.toList with
    |false=>rfl
    |true =>
     have:=nm_tr _ n2 _ n1 _ n2 hlt h;rw[zdk _ n2]at this;cases this
  · cases h:((S[i]).1.toList==(S[i-1]).1.toList) with
    |false=>rfl
    |true =>
     have:=toList_inj (eq_of_beq h);rw[this,zdk _ n2]at hlt;cases hlt
 have hset:setB S=true:=by
  unfold setB;simp only[Bool.and_eq_true,decide_eq_true_eq,List.all_eq_true,List.mem_range];refine⟨by omega,by omega,fun i hi=>?_⟩
  have e1:S.getD i noLb=S[i]:=by rw[List.getD_eq_getElem?_getD,List.getElem?_eq_getElem hi,Option.getD_some]
  have hm:=hsd _ (List.getElem_mem hi);unfold labOk;rw[e1,nm_ok _ hm.1,zeb _ hm.2];by_cases h0:0<i
  · have:=key i h0 hi;rw[e1]at this;rw[this];simp
  · simp[h0]
 have hgo:z2J S=true:=by
  have gen:∀k i,i+k≤S.length→isGo S k i=true:=by
   intro k
   induction k with
   |zero=>intro i _;rfl
   |succ k ih =>
    intro i hi;rw[isGo]
    have hb:badAt S i=false:=by
     unfold badAt;by_cases h0:0<i
     · rw[decide_eq_true h0];exact key i h0 (by omega)
     · rw[decide_eq_false h0];rfl
    rw[hb];exact ih (i+1) (by omega)
  unfold z2J;have d1:decide (S.length<1)=false:=decide_eq_false (by omega)
  have d2:decide (6<S.length)=false:=decide_eq_false (by omega)
  rw[d1,d2];exact gen _ 0 (by omega)
 rw[if_pos hgo];exact hset
section
variable (σ:St) (p:Nat) (b:Byt) (q:Nat×Bool)
theorem zeY (h:σ[p]?=some (rob b q)) (hq:Inb b q) (hb:b.length≤50000):Ans Tryz.prog 137 [.ptr p 0,.fn 138 [] []] σ (lsV (runR setR [] b q).1) (σ.set p (rob b (runR setR [] b q).2)):=by
 obtain⟨a,bad⟩:=q;have hq:a≤b.length:=hq;have hl:(b.drop a).length≤50000:=by rw[List.length_drop];omega
 cases hr:setR (b.drop a) with
 |none =>
  have hrd:=z7f σ (b.drop a) hl;rw[z39 hr]at hrd
  have e:runR setR [] b (a,bad)=([],(a,true)):=by
   cases bad
   · exact z0T hr
   · exact z0z _ _ _ _
  have e2:took (a,bad) 0 false=(a,true):=by cases bad<;>rfl
  have ht:=z0Q σ p b (a,bad) 0 false h (by simp only;omega)
  rw[e2]at ht;rw[e]
  have:Ans Tryz.prog 137 [.ptr p 0,.fn 138 [] []] σ .nils (σ.set p (rob b (a,true))):=by
   refine Ans.of_run t137 ?_;simp -implicitDefEqProofs only[c137,r137,go_sem];refine CO.intro (z0P σ p b (a,bad) h hq) ?_;simp -implicitDefEqProofs only[go_sem];refine CO.intro hrd ?_;simp -implicitDefEqProofs only[go_sem];refine CO.intro ht ?_;simp -implicitDefEqProofs only[go_sem];exact Fini.ret rfl
  exact this.subR (.nils 2)
 |some x =>
  obtain⟨x,t⟩:=x;have hrd:=z7f σ (b.drop a) hl;rw[z3a hr]at hrd;have hdr:=ends_set.drop hq hr;have ht:=z0Q σ p b (a,bad) ((b.drop a).length-t.length) true h (by simp only[List.length_drop];omega)
  cases bad with
  |true =>
   have e2:took (a,true) ((b.drop a).length-t.length) true=(a,true):=rfl;rw[e2]at ht;rw[z0z]
   have:Ans Tryz.prog 137 [.ptr p 0,.fn 138 [] []] σ .nils (σ.set p (rob b (a,true))):=by
    refine Ans.of_run t137 ?_;simp -implicitDefEqProofs only[c137,r137,go_sem];refine CO.intro (z0P σ p b (a,true) h hq) ?_;simp -implicitDefEqProofs only[go_sem];refine CO.intro hrd ?_;simp -implicitDefEqProofs only[go_sem];refine CO.intro ht ?_;simp -implicitDefEqProofs only[go_sem];exact Fini.ret rfl
   exact this.subR (.nils 2)
  |false =>
   have e2:took (a,false) ((b.drop a).length-t.length) true=(b.length-t.length,false):=by
    simp only[took,Bool.false_or,Bool.not_true,Bool.false_eq_true,if_false,List.length_drop];congr 1;omega
   rw[e2]at ht;rw[z0E hr];refine Ans.of_run t137 ?_;simp -implicitDefEqProofs only[c137,r137,go_sem];refine CO.intro (z0P σ p b (a,false) h hq) ?_;simp -implicitDefEqProofs only[go_sem];refine CO.intro hrd ?_;simp -implicitDefEqProofs only[go_sem];refine CO.intro ht ?_;simp -implicitDefEqProofs only[go_sem];exact Fini.ret rfl
theorem zeZ (h:σ[p]?=some (rob b q)) (hq:Inb b q) (hb:b.length≤50000):Ans Tryz.prog 136 [.ptr p 0,.fn 17 [] []] σ (ruV (runR ruR noRu b q).1) (σ.set p (rob b (runR ruR noRu b q).2)):=by
 obtain⟨a,bad⟩:=q;have hq:a≤b.length:=hq;have hl:(b.drop a).length≤50000:=by rw[List.length_drop];omega
 have hp:p<σ.length:=(List.getElem?_eq_some_iff.1 h).1;have hz:∀ob,(σ++[ob])[p]?=some (rob b (a,bad)):=fun ob=>by rw[List.getElem?_append_left hp];exact h
 have hst:∀ob X,(σ++[ob]).set p X=σ.set p X++[ob]:=fun ob X=>by rw[List.set_append_left _ _ hp]
 have hlen:∀X,(σ.set p X).length=σ.length:=fun X=>List.length_set
 have gx:∀(X:Ob) (o:Ob) (ex:St),(σ.set p X++o::ex)[σ.length]?=some o:=fun X o ex=>by rw[←hlen X];exact g0 _ _ _
 have sx:∀(X:Ob) (o u:Ob) (ex:St),(σ.set p X++o::ex).set σ.length u=σ.set p X++u::ex:=fun X o u ex=>by rw[←hlen X];exact s0 _ _ _ _
 have gx1:∀(X:Ob) (o o2:Ob) (ex:St),(σ.set p X++o::o2::ex)[σ.length+1]?=some o2:=fun X o o2 ex=>by rw[←hlen X];exact g1 _ _ _ _
 have hbo:∀(hbel:∀o∈σ,BelO σ.length o) (q:Nat×Bool),∀o∈σ.set p (rob b q),BelO (σ.set p (rob b q)).length o:=fun hbel q=>by
  rw[hlen]
  exact z1L hbel (fun c hc=>by
   simp only[List.mem_cons,List.not_mem_nil,or_false]at hc;rcases hc with rfl|rfl|rfl
   · exact z1x _ _
   · exact .pl _
   · exact .pl _)
 cases hr:ruR (b.drop a) with
 |none =>
  have hrd:=fun s=>z5I s (b.drop a) hl
  simp only[z39 hr]at hrd
  have e:runR ruR noRu b (a,bad)=(noRu,(a,true)):=by
   cases bad
   · exact z0T hr
   · exact z0z _ _ _ _
  have e2:took (a,bad) 0 false=(a,true):=by cases bad<;>rfl
  have ht:=fun ob=>z0Q (σ++[ob]) p b (a,bad) 0 false (hz ob) (by simp only;omega)
  simp only[e2,hst]at ht;rw[e]
  have:Ans Tryz.prog 136 [.ptr p 0,.fn 17 [] []] σ noRuV (σ.set p (rob b (a,true))):=by
   refine Ans.of_run' t136 (fun hbel _=>?_)
   simp -implicitDefEqProofs only[c136,r136,go_sem];refine CO.intro (z0P _ p b (a,bad) (hz _) hq) ?_;simp -implicitDefEqProofs only[go_sem];refine CO.intro (hrd _) ?_;simp -implicitDefEqProofs only[go_sem,ruV];refine CO.intro (ht _) ?_;simp -implicitDefEqProofs only[go_sem,gx,sx,gx1,List.append_assoc,List.length_append,hlen];exact Fini.trim2 (σ':=σ.set p (rob b (a,true))) (ex:=[_,_]) (by simp -implicitDefEqProofs only[go_sem,resA,z04,rvA,oneOf,gx]<;>rfl) rfl (by rw[hlen];exact Nat.le_refl _) (z3P _) (hbo hbel _)
  exact this.subR z6o
 |some x =>
  obtain⟨x,t⟩:=x;have hrd:=fun s=>z5I s (b.drop a) hl
  simp only[z3a hr]at hrd;have hdr:=ends_ru.drop hq hr;have ht:=fun ob=>z0Q (σ++[ob]) p b (a,bad) ((b.drop a).length-t.length) true (hz ob) (by simp only[List.length_drop];omega)
  simp only[hst]at ht
  cases bad with
  |true =>
   have e2:took (a,true) ((b.drop a).length-t.length) true=(a,true):=rfl;rw[e2]at ht;rw[z0z]
   have:Ans Tryz.prog 136 [.ptr p 0,.fn 17 [] []] σ noRuV (σ.set p (rob b (a,true))):=by
    refine Ans.of_run' t136 (fun hbel _=>?_)
    simp -implicitDefEqProofs only[c136,r136,go_sem];refine CO.intro (z0P _ p b (a,true) (hz _) hq) ?_;simp -implicitDefEqProofs only[go_sem];refine CO.intro (hrd _) ?_;simp -implicitDefEqProofs only[go_sem,ruV];refine CO.intro (ht _) ?_;simp -implicitDefEqProofs only[go_sem,gx,sx,gx1,List.append_assoc,List.length_append,hlen];exact Fini.trim2 (σ':=σ.set p (rob b (a,true))) (ex:=[_,_]) (by simp -implicitDefEqProofs only[go_sem,resA,z04,rvA,oneOf,gx]<;>rfl) rfl (by rw[hlen];exact Nat.le_refl _) (z3P _) (hbo hbel _)
   exact this.subR z6o
  |false =>
   have e2:took (a,false) ((b.drop a).length-t.length) true=(b.length-t.length,false):=by
    simp only[took,Bool.false_or,Bool.not_true,Bool.false_eq_true,if_false,List.length_drop];congr 1;omega
   rw[e2]at ht;rw[z0E hr];refine Ans.of_run' t136 (fun hbel _=>?_)
   simp -implicitDefEqProofs only[c136,r136,go_sem];refine CO.intro (z0P _ p b (a,false) (hz _) hq) ?_;simp -implicitDefEqProofs only[go_sem];refine CO.intro (hrd _) ?_;simp -implicitDefEqProofs only[go_sem,ruV];refine CO.intro (ht _) ?_;simp -implicitDefEqProofs only[go_sem,gx,sx,gx1,List.append_assoc,List.length_append,hlen];exact Fini.trim2 (σ':=σ.set p (rob b (b.length-t.length,false))) (ex:=[_]) (by simp -implicitDefEqProofs only[go_sem,resA,z04,rvA,oneOf,gx]<;>rfl) rfl (by rw[hlen];exact Nat.le_refl _) (z8f _ x) (hbo hbel _)
end
structure ReM where
 tok:ByteArray
 op:Int
 id:Int
 txt:ByteArray
 st:Nat
 en:Nat
 sta:Int
 mt:List Mtr
 any:Bool
 lo:Nat
 hi:Nat
 ru:RuM
 ls:List Lab
 val:Nat
def reC (r:ReM):List AV:=[Sx r.tok,I r.op,I r.id,Sx r.txt,UN r.st,UN r.en,I r.sta,mlV r.mt,Bo r.any,Fl r.lo,Fl r.hi,mlV r.ru.src,mlV r.ru.tgt,Bo r.ru.any,Fl r.ru.lo,Fl r.ru.hi,.sl 1 (txs r.ru.eq),lsV r.ls,Fl r.val]
def reV (r:ReM):AV:=.agg (reC r)
def fTab:List Int:=[0,1,3,3,116,117,1,8,128,1,768,1,16,0,1,0,0]
def fOf (op:Int):Int×Bool:=if 1≤op∧op≤17 then(fTab.getD (op.toNat-1) 0,true) else(0,false)
theorem ops17 (op:Int):op=1∨op=2∨op=3∨op=4∨op=5∨op=6∨op=7∨op=8∨op=9∨op=10∨op=11∨op=12∨op=13∨op=14∨op=15∨op=16∨op=17∨(op<1∨17<op):=by omega
theorem zdl {op:Int} (h:op<1∨17<op):fOf op=(0,false):=by unfold fOf;rw[if_neg (by omega)]
theorem neI {op k:Int} (h:op≠k):(op==k)=false:=by simpa using h
def zF (n:Nat):Bool:=((bitsF n:Nat):Int)==0
def noBd (x:Bnd):Bool:=!x.1&&(zF x.2.1&&zF x.2.2)
def emI (n:Nat):Bool:=((n:Nat):Int)==0
def noRl (r:RuM):Bool:=emI r.src.length&&(emI r.tgt.length&&(emI r.eq.length&&noBd (r.any,r.lo,r.hi)))
def tokB (s:ByteArray):Bool:=decide (4≤s.size)&&decide (s.size≤16)
section
variable (σ:St)
theorem z0U (op:Int):Ans Tryz.prog 90 [I op] σ (.tup [I (fOf op).1,Bo (fOf op).2]) σ:=by
 refine Ans.of_run t90 ?_;rcases ops17 op with rfl|rfl|rfl|rfl|rfl|rfl|rfl|rfl|rfl|rfl|rfl|rfl|rfl|rfl|rfl|rfl|rfl|h
 all_goals first
  |(rw[zdl h]
    simp -implicitDefEqProofs only[c90,r90,go_sem,neI (op:=op) (k:=1) (by omega),neI (op:=op) (k:=2) (by omega),neI (op:=op) (k:=3) (by omega),neI (op:=op) (k:=4) (by omega),neI (op:=op) (k:=5) (by omega),neI (op:=op) (k:=6) (by omega),neI (op:=op) (k:=7) (by omega),neI (op:=op) (k:=8) (by omega),neI (op:=op) (k:=9) (by omega),neI (op:=op) (k:=10) (by omega),neI (op:=op) (k:=11) (by omega),neI (op:=op) (k:=12) (by omega),neI (op:=op) (k:=13) (by omega),neI (op:=op) (k:=14) (by omega),neI (op:=op) (k:=15) (by omega),neI (op:=op) (k:=16) (by omega),neI (op:=op) (k:=17) (by omega)]
    exact Fini.ret rfl)
  |(simp -implicitDefEqProofs only[c90,r90,go_sem]
    exact Fini.ret rfl)
theorem z0V (n:Nat):Ans Tryz.prog 155 [Fl n] σ (Bo (zF n)) σ:=by
 refine Ans.of_run t155 ?_;simp -implicitDefEqProofs only[c155,r155,go_sem];refine CO.intro (z2A σ n) ?_;simp -implicitDefEqProofs only[go_sem];exact Fini.ret rfl
theorem z13 (x:Bnd):Ans Tryz.prog 153 [bandV x] σ (Bo (noBd x)) σ:=by
 obtain⟨a,lo,hi⟩:=x;refine Ans.of_run t153 ?_;unfold bandV noBd;simp only
 cases a with
 |true =>
  simp -implicitDefEqProofs only[c153,r153,go_sem];exact Fini.ret rfl
 |false =>
  simp -implicitDefEqProofs only[c153,r153,go_sem];refine CO.intro (z0V σ lo) ?_
  cases zF lo with
  |false =>
   simp -implicitDefEqProofs only[go_sem];exact Fini.ret rfl
  |true =>
   simp -implicitDefEqProofs only[go_sem];refine CO.intro (z0V σ hi) ?_;simp -implicitDefEqProofs only[go_sem];exact Fini.ret rfl
theorem z1c (r:RuM):Ans Tryz.prog 154 [ruV r] σ (Bo (noRl r)) σ:=by
 have hb:=z13 σ (r.any,r.lo,r.hi);refine Ans.of_run t154 ?_;unfold ruV noRl emI;unfold bandV at hb
 cases h1:(((r.src.length:Nat):Int)==0) with
 |false =>
  simp -implicitDefEqProofs only[c154,r154,go_sem,z0t,h1];exact Fini.ret rfl
 |true =>
 cases h2:(((r.tgt.length:Nat):Int)==0) with
 |false =>
  simp -implicitDefEqProofs only[c154,r154,go_sem,z0t,h1,h2];exact Fini.ret rfl
 |true =>
 cases h3:(((r.eq.length:Nat):Int)==0) with
 |false =>
  simp -implicitDefEqProofs only[c154,r154,go_sem,z0t,z0H,h1,h2,h3];exact Fini.ret rfl
 |true =>
  simp -implicitDefEqProofs only[c154,r154,go_sem,z0t,z0H,h1,h2,h3];refine CO.intro hb ?_;simp -implicitDefEqProofs only[go_sem];exact Fini.ret rfl
theorem z1V (s:ByteArray):Ans Tryz.prog 86 [Sx s] σ (Bo (tokB s)) σ:=by
 have d1:decide ((4:Int)≤(s.size:Nat))=decide (4≤s.size):=intle 4 s.size;have d2:decide (((s.size:Nat):Int)≤16)=decide (s.size≤16):=intle s.size 16;refine Ans.of_run t86 ?_;unfold tokB
 cases h:decide (4≤s.size) with
 |false =>
  simp -implicitDefEqProofs only[c86,r86,go_sem,d1,h];exact Fini.ret rfl
 |true =>
  simp -implicitDefEqProofs only[c86,r86,go_sem,d1,d2,h];exact Fini.ret rfl
end
def andI (a b:Int):Int:=IntKind.i64.wrap ((BitVec.ofInt 64 a &&& BitVec.ofInt 64 b).toNat:Int)
def hasF (f k:Int):Bool:=decide (0<andI f k)
def emS (s:ByteArray):Bool:=s.toList==(⟨#[]⟩:ByteArray).toList
def emU (n:Nat):Bool:=(n:Int)==0
def idR (n:Int):Bool:=decide (0≤n)&&decide (n≤2147483647)
def clkB (n:Nat):Bool:=decide ((n:Int)≤1099511627776)
def staR (n:Int):Bool:=decide (0≤n)&&decide (n≤3)
def zeroB (r:ReM) (f:Int):Bool :=
 (hasF f 1||r.id==0)&&((hasF f 2||emS r.txt)&&((hasF f 4||(emU r.st&&emU r.en))&&((hasF f 8||r.sta==0)&&((hasF f 16||emI r.mt.length)&&((hasF f 64||noBd (r.any,r.lo,r.hi))&&((hasF f 128||noRl r.ru)&&((hasF f 256||emI r.ls.length)&&(hasF f 512||zF r.val))))))))
def z0i (r:ReM) (f:Int):Bool :=
 idR r.id&&((!hasF f 2||tokB r.txt)&&(clkB r.st&&(clkB r.en&&(staR r.sta&&(listB r.mt&&((!hasF f 32|| !emI r.mt.length)&&((!hasF f 64||mayB r.any r.lo r.hi)&&((!hasF f 128||ruIs r.ru)&&(!hasF f 256||setB r.ls)))))))))
def mayR (r:ReM):Bool:=(fOf r.op).2&&(zeroB r (fOf r.op).1&&z0i r (fOf r.op).1)
def reIs (r:ReM):Bool:=tokB r.tok&&mayR r
theorem zdm (n:Nat):decide ((0:Int)<n)= !emI n:=by
 unfold emI;rw[Bool.eq_iff_iff];simp only[decide_eq_true_eq,Bool.not_eq_true',beq_eq_false_iff_ne];omega
theorem z5d (op:Int):(fOf op).1∈[0,1,3,116,117,8,128,768,16]:=by
 rcases ops17 op with rfl|rfl|rfl|rfl|rfl|rfl|rfl|rfl|rfl|rfl|rfl|rfl|rfl|rfl|rfl|rfl|rfl|h
 all_goals first|(rw[zdl h];decide)|decide
abbrev aI (f k:Int):Int:=IntKind.i64.wrap (((@HAnd.hAnd (BitVec 64) (BitVec 64) (BitVec 64) (@instHAndOfAndOp (BitVec IntKind.i64.bits) (@BitVec.instAndOp IntKind.i64.bits)) (BitVec.ofInt 64 f) (BitVec.ofInt 64 k)).toNat:Nat):Int)
theorem an_0:aI 0 1=0∧aI 0 2=0∧aI 0 4=0∧aI 0 8=0∧aI 0 16=0∧aI 0 32=0∧aI 0 64=0∧aI 0 128=0∧aI 0 256=0∧aI 0 512=0:=by decide +kernel
theorem hs_0:hasF 0 1=false∧hasF 0 2=false∧hasF 0 4=false∧hasF 0 8=false∧hasF 0 16=false∧hasF 0 32=false∧hasF 0 64=false∧hasF 0 128=false∧hasF 0 256=false∧hasF 0 512=false:=by decide +kernel
theorem an_1:aI 1 1=1∧aI 1 2=0∧aI 1 4=0∧aI 1 8=0∧aI 1 16=0∧aI 1 32=0∧aI 1 64=0∧aI 1 128=0∧aI 1 256=0∧aI 1 512=0:=by decide +kernel
theorem hs_1:hasF 1 1=true∧hasF 1 2=false∧hasF 1 4=false∧hasF 1 8=false∧hasF 1 16=false∧hasF 1 32=false∧hasF 1 64=false∧hasF 1 128=false∧hasF 1 256=false∧hasF 1 512=false:=by decide +kernel
theorem an_3:aI 3 1=1∧aI 3 2=2∧aI 3 4=0∧aI 3 8=0∧aI 3 16=0∧aI 3 32=0∧aI 3 64=0∧aI 3 128=0∧aI 3 256=0∧aI 3 512=0:=by decide +kernel
theorem hs_3:hasF 3 1=true∧hasF 3 2=true∧hasF 3 4=false∧hasF 3 8=false∧hasF 3 16=false∧hasF 3 32=false∧hasF 3 64=false∧hasF 3 128=false∧hasF 3 256=false∧hasF 3 512=false:=by decide +kernel
theorem zf0:aI 116 1=0∧aI 116 2=0∧aI 116 4=4∧aI 116 8=0∧aI 116 16=16∧aI 116 32=32∧aI 116 64=64∧aI 116 128=0∧aI 116 256=0∧aI 116 512=0:=by decide +kernel
theorem z7i:hasF 116 1=false∧hasF 116 2=false∧hasF 116 4=true∧hasF 116 8=false∧hasF 116 16=true∧hasF 116 32=true∧hasF 116 64=true∧hasF 116 128=false∧hasF 116 256=false∧hasF 116 512=false:=by decide +kernel
theorem zf1:aI 117 1=1∧aI 117 2=0∧aI 117 4=4∧aI 117 8=0∧aI 117 16=16∧aI 117 32=32∧aI 117 64=64∧aI 117 128=0∧aI 117 256=0∧aI 117 512=0:=by decide +kernel
theorem z7j:hasF 117 1=true∧hasF 117 2=false∧hasF 117 4=true∧hasF 117 8=false∧hasF 117 16=true∧hasF 117 32=true∧hasF 117 64=true∧hasF 117 128=false∧hasF 117 256=false∧hasF 117 512=false:=by decide +kernel
theorem an_8:aI 8 1=0∧aI 8 2=0∧aI 8 4=0∧aI 8 8=8∧aI 8 16=0∧aI 8 32=0∧aI 8 64=0∧aI 8 128=0∧aI 8 256=0∧aI 8 512=0:=by decide +kernel
theorem hs_8:hasF 8 1=false∧hasF 8 2=false∧hasF 8 4=false∧hasF 8 8=true∧hasF 8 16=false∧hasF 8 32=false∧hasF 8 64=false∧hasF 8 128=false∧hasF 8 256=false∧hasF 8 512=false:=by decide +kernel
theorem zf2:aI 128 1=0∧aI 128 2=0∧aI 128 4=0∧aI 128 8=0∧aI 128 16=0∧aI 128 32=0∧aI 128 64=0∧aI 128 128=128∧aI 128 256=0∧aI 128 512=0:=by decide +kernel
theorem hs_128:hasF 128 1=false∧hasF 128 2=false∧hasF 128 4=false∧hasF 128 8=false∧hasF 128 16=false∧hasF 128 32=false∧hasF 128 64=false∧hasF 128 128=true∧hasF 128 256=false∧hasF 128 512=false:=by decide +kernel
theorem zf3:aI 768 1=0∧aI 768 2=0∧aI 768 4=0∧aI 768 8=0∧aI 768 16=0∧aI 768 32=0∧aI 768 64=0∧aI 768 128=0∧aI 768 256=256∧aI 768 512=512:=by decide +kernel
theorem hs_768:hasF 768 1=false∧hasF 768 2=false∧hasF 768 4=false∧hasF 768 8=false∧hasF 768 16=false∧hasF 768 32=false∧hasF 768 64=false∧hasF 768 128=false∧hasF 768 256=true∧hasF 768 512=true:=by decide +kernel
theorem an_16:aI 16 1=0∧aI 16 2=0∧aI 16 4=0∧aI 16 8=0∧aI 16 16=16∧aI 16 32=0∧aI 16 64=0∧aI 16 128=0∧aI 16 256=0∧aI 16 512=0:=by decide +kernel
theorem hs_16:hasF 16 1=false∧hasF 16 2=false∧hasF 16 4=false∧hasF 16 8=false∧hasF 16 16=true∧hasF 16 32=false∧hasF 16 64=false∧hasF 16 128=false∧hasF 16 256=false∧hasF 16 512=false:=by decide +kernel
attribute [go_sem] z0t z0g z0H an_0 an_1 an_3 zf0 zf1 an_8 zf2 zf3 an_16
section
variable (σ:St)
set_option maxHeartbeats 4000000 in
theorem zf4 (r:ReM):Ans Tryz.prog 125 [reV r,I 0] σ (Bo (zeroB r 0)) σ:=by
 obtain⟨tok,op,id,txt,st,en,sta,mt,any,lo,hi,⟨src,tgt,ra,rl,rh,eq⟩,ls,val⟩:=r;have b1:=z13 σ (any,lo,hi);have b2:=z1c σ ⟨src,tgt,ra,rl,rh,eq⟩;have b3:=z0V σ val;unfold bandV at b1;unfold ruV at b2;refine Ans.of_run t125 ?_;unfold reV reC zeroB;simp only[hs_0,Bool.true_or,Bool.false_or,Bool.true_and];unfold emS;unfold emU;unfold emI
 cases h0:(id==0) with
 |false =>
  simp -implicitDefEqProofs only[c125,r125,go_sem,h0];exact Fini.ret rfl
 |true =>
 cases h1:(txt.toList==(⟨#[]⟩:ByteArray).toList) with
 |false =>
  simp -implicitDefEqProofs only[c125,r125,go_sem,h0,h1];exact Fini.ret rfl
 |true =>
 cases h2:(((st:Nat):Int)==0) with
 |false =>
  simp -implicitDefEqProofs only[c125,r125,go_sem,h0,h1,h2];exact Fini.ret rfl
 |true =>
 cases h3:(((en:Nat):Int)==0) with
 |false =>
  simp -implicitDefEqProofs only[c125,r125,go_sem,h0,h1,h2,h3];exact Fini.ret rfl
 |true =>
 cases h4:(sta==0) with
 |false =>
  simp -implicitDefEqProofs only[c125,r125,go_sem,h0,h1,h2,h3,h4];exact Fini.ret rfl
 |true =>
 cases h5:(((mt.length:Nat):Int)==0) with
 |false =>
  simp -implicitDefEqProofs only[c125,r125,go_sem,h0,h1,h2,h3,h4,h5];exact Fini.ret rfl
 |true =>
 simp -implicitDefEqProofs only[c125,r125,go_sem,h0,h1,h2,h3,h4,h5];refine CO.intro b1 ?_
 cases h6:noBd (any,lo,hi) with
 |false =>
  simp -implicitDefEqProofs only[go_sem];exact Fini.ret rfl
 |true =>
 simp -implicitDefEqProofs only[go_sem];refine CO.intro b2 ?_
 cases h7:noRl ⟨src,tgt,ra,rl,rh,eq⟩ with
 |false =>
  simp -implicitDefEqProofs only[go_sem];exact Fini.ret rfl
 |true =>
 cases h8:(((ls.length:Nat):Int)==0) with
 |false =>
  simp -implicitDefEqProofs only[go_sem,h8];exact Fini.ret rfl
 |true =>
 simp -implicitDefEqProofs only[go_sem,h8];refine CO.intro b3 ?_
 cases h9:zF val with
 |false =>
  simp -implicitDefEqProofs only[go_sem];exact Fini.ret rfl
 |true =>
 simp -implicitDefEqProofs only[go_sem];exact Fini.ret rfl
set_option maxHeartbeats 4000000 in
theorem zed (r:ReM):Ans Tryz.prog 126 [reV r,I 0] σ (Bo (z0i r 0)) σ:=by
 obtain⟨tok,op,id,txt,st,en,sta,mt,any,lo,hi,⟨src,tgt,ra,rl,rh,eq⟩,ls,val⟩:=r;have b0:=z1V σ txt;have b1:=z14 σ mt;have b2:=z1z σ any lo hi;have b3:=z1s σ ⟨src,tgt,ra,rl,rh,eq⟩;have b4:=z1u σ ls;unfold ruV at b3;refine Ans.of_run t126 ?_;unfold reV reC z0i idR staR clkB;simp only[hs_0,Bool.not_true,Bool.not_false,Bool.true_or,Bool.false_or,Bool.true_and,Bool.and_assoc]
 cases h0:decide (0≤id) with
 |false =>
  simp -implicitDefEqProofs only[c126,r126,go_sem,h0];exact Fini.ret rfl
 |true =>
 cases h1:decide (id≤2147483647) with
 |false =>
  simp -implicitDefEqProofs only[c126,r126,go_sem,h0,h1];exact Fini.ret rfl
 |true =>
 cases h2:decide (((st:Nat):Int)≤1099511627776) with
 |false =>
  simp -implicitDefEqProofs only[c126,r126,go_sem,h0,h1,h2];exact Fini.ret rfl
 |true =>
 cases h3:decide (((en:Nat):Int)≤1099511627776) with
 |false =>
  simp -implicitDefEqProofs only[c126,r126,go_sem,h0,h1,h2,h3];exact Fini.ret rfl
 |true =>
 cases h4:decide (0≤sta) with
 |false =>
  simp -implicitDefEqProofs only[c126,r126,go_sem,h0,h1,h2,h3,h4];exact Fini.ret rfl
 |true =>
 cases h5:decide (sta≤3) with
 |false =>
  simp -implicitDefEqProofs only[c126,r126,go_sem,h0,h1,h2,h3,h4,h5];exact Fini.ret rfl
 |true =>
 simp -implicitDefEqProofs only[c126,r126,go_sem,h0,h1,h2,h3,h4,h5];refine CO.intro b1 ?_
 cases h6:listB mt with
 |false =>
  simp -implicitDefEqProofs only[go_sem,];exact Fini.ret rfl
 |true =>
 simp -implicitDefEqProofs only[go_sem];exact Fini.ret rfl
set_option maxHeartbeats 4000000 in
theorem zf5 (r:ReM):Ans Tryz.prog 125 [reV r,I 1] σ (Bo (zeroB r 1)) σ:=by
 obtain⟨tok,op,id,txt,st,en,sta,mt,any,lo,hi,⟨src,tgt,ra,rl,rh,eq⟩,ls,val⟩:=r;have b1:=z13 σ (any,lo,hi);have b2:=z1c σ ⟨src,tgt,ra,rl,rh,eq⟩;have b3:=z0V σ val;unfold bandV at b1;unfold ruV at b2;refine Ans.of_run t125 ?_;unfold reV reC zeroB;simp only[hs_1,Bool.true_or,Bool.false_or,Bool.true_and];unfold emS;unfold emU;unfold emI
 cases h0:(txt.toList==(⟨#[]⟩:ByteArray).toList) with
 |false =>
  simp -implicitDefEqProofs only[c125,r125,go_sem,h0];exact Fini.ret rfl
 |true =>
 cases h1:(((st:Nat):Int)==0) with
 |false =>
  simp -implicitDefEqProofs only[c125,r125,go_sem,h0,h1];exact Fini.ret rfl
 |true =>
 cases h2:(((en:Nat):Int)==0) with
 |false =>
  simp -implicitDefEqProofs only[c125,r125,go_sem,h0,h1,h2];exact Fini.ret rfl
 |true =>
 cases h3:(sta==0) with
 |false =>
  simp -implicitDefEqProofs only[c125,r125,go_sem,h0,h1,h2,h3];exact Fini.ret rfl
 |true =>
 cases h4:(((mt.length:Nat):Int)==0) with
 |false =>
  simp -implicitDefEqProofs only[c125,r125,go_sem,h0,h1,h2,h3,h4];exact Fini.ret rfl
 |true =>
 simp -implicitDefEqProofs only[c125,r125,go_sem,h0,h1,h2,h3,h4];refine CO.intro b1 ?_
 cases h5:noBd (any,lo,hi) with
 |false =>
  simp -implicitDefEqProofs only[go_sem];exact Fini.ret rfl
 |true =>
 simp -implicitDefEqProofs only[go_sem];refine CO.intro b2 ?_
 cases h6:noRl ⟨src,tgt,ra,rl,rh,eq⟩ with
 |false =>
  simp -implicitDefEqProofs only[go_sem];exact Fini.ret rfl
 |true =>
 cases h7:(((ls.length:Nat):Int)==0) with
 |false =>
  simp -implicitDefEqProofs only[go_sem,h7];exact Fini.ret rfl
 |true =>
 simp -implicitDefEqProofs only[go_sem,h7];refine CO.intro b3 ?_
 cases h8:zF val with
 |false =>
  simp -implicitDefEqProofs only[go_sem];exact Fini.ret rfl
 |true =>
 simp -implicitDefEqProofs only[go_sem];exact Fini.ret rfl
set_option maxHeartbeats 4000000 in
theorem zee (r:ReM):Ans Tryz.prog 126 [reV r,I 1] σ (Bo (z0i r 1)) σ:=by
 obtain⟨tok,op,id,txt,st,en,sta,mt,any,lo,hi,⟨src,tgt,ra,rl,rh,eq⟩,ls,val⟩:=r;have b0:=z1V σ txt;have b1:=z14 σ mt;have b2:=z1z σ any lo hi;have b3:=z1s σ ⟨src,tgt,ra,rl,rh,eq⟩;have b4:=z1u σ ls;unfold ruV at b3;refine Ans.of_run t126 ?_;unfold reV reC z0i idR staR clkB;simp only[hs_1,Bool.not_true,Bool.not_false,Bool.true_or,Bool.false_or,Bool.true_and,Bool.and_assoc]
 cases h0:decide (0≤id) with
 |false =>
  simp -implicitDefEqProofs only[c126,r126,go_sem,h0];exact Fini.ret rfl
 |true =>
 cases h1:decide (id≤2147483647) with
 |false =>
  simp -implicitDefEqProofs only[c126,r126,go_sem,h0,h1];exact Fini.ret rfl
 |true =>
 cases h2:decide (((st:Nat):Int)≤1099511627776) with
 |false =>
  simp -implicitDefEqProofs only[c126,r126,go_sem,h0,h1,h2];exact Fini.ret rfl
 |true =>
 cases h3:decide (((en:Nat):Int)≤1099511627776) with
 |false =>
  simp -implicitDefEqProofs only[c126,r126,go_sem,h0,h1,h2,h3];exact Fini.ret rfl
 |true =>
 cases h4:decide (0≤sta) with
 |false =>
  simp -implicitDefEqProofs only[c126,r126,go_sem,h0,h1,h2,h3,h4];exact Fini.ret rfl
 |true =>
 cases h5:decide (sta≤3) with
 |false =>
  simp -implicitDefEqProofs only[c126,r126,go_sem,h0,h1,h2,h3,h4,h5];exact Fini.ret rfl
 |true =>
 simp -implicitDefEqProofs only[c126,r126,go_sem,h0,h1,h2,h3,h4,h5];refine CO.intro b1 ?_
 cases h6:listB mt with
 |false =>
  simp -implicitDefEqProofs only[go_sem,];exact Fini.ret rfl
 |true =>
 simp -implicitDefEqProofs only[go_sem];exact Fini.ret rfl
set_option maxHeartbeats 4000000 in
theorem zf6 (r:ReM):Ans Tryz.prog 125 [reV r,I 3] σ (Bo (zeroB r 3)) σ:=by
 obtain⟨tok,op,id,txt,st,en,sta,mt,any,lo,hi,⟨src,tgt,ra,rl,rh,eq⟩,ls,val⟩:=r;have b1:=z13 σ (any,lo,hi);have b2:=z1c σ ⟨src,tgt,ra,rl,rh,eq⟩;have b3:=z0V σ val;unfold bandV at b1;unfold ruV at b2;refine Ans.of_run t125 ?_;unfold reV reC zeroB;simp only[hs_3,Bool.true_or,Bool.false_or,Bool.true_and];unfold emU;unfold emI
 cases h0:(((st:Nat):Int)==0) with
 |false =>
  simp -implicitDefEqProofs only[c125,r125,go_sem,h0];exact Fini.ret rfl
 |true =>
 cases h1:(((en:Nat):Int)==0) with
 |false =>
  simp -implicitDefEqProofs only[c125,r125,go_sem,h0,h1];exact Fini.ret rfl
 |true =>
 cases h2:(sta==0) with
 |false =>
  simp -implicitDefEqProofs only[c125,r125,go_sem,h0,h1,h2];exact Fini.ret rfl
 |true =>
 cases h3:(((mt.length:Nat):Int)==0) with
 |false =>
  simp -implicitDefEqProofs only[c125,r125,go_sem,h0,h1,h2,h3];exact Fini.ret rfl
 |true =>
 simp -implicitDefEqProofs only[c125,r125,go_sem,h0,h1,h2,h3];refine CO.intro b1 ?_
 cases h4:noBd (any,lo,hi) with
 |false =>
  simp -implicitDefEqProofs only[go_sem];exact Fini.ret rfl
 |true =>
 simp -implicitDefEqProofs only[go_sem];refine CO.intro b2 ?_
 cases h5:noRl ⟨src,tgt,ra,rl,rh,eq⟩ with
 |false =>
  simp -implicitDefEqProofs only[go_sem];exact Fini.ret rfl
 |true =>
 cases h6:(((ls.length:Nat):Int)==0) with
 |false =>
  simp -implicitDefEqProofs only[go_sem,h6];exact Fini.ret rfl
 |true =>
 simp -implicitDefEqProofs only[go_sem,h6];refine CO.intro b3 ?_
 cases h7:zF val with
 |false =>
  simp -implicitDefEqProofs only[go_sem];exact Fini.ret rfl
 |true =>
 simp -implicitDefEqProofs only[go_sem];exact Fini.ret rfl
set_option maxHeartbeats 4000000 in
theorem zef (r:ReM):Ans Tryz.prog 126 [reV r,I 3] σ (Bo (z0i r 3)) σ:=by
 obtain⟨tok,op,id,txt,st,en,sta,mt,any,lo,hi,⟨src,tgt,ra,rl,rh,eq⟩,ls,val⟩:=r;have b0:=z1V σ txt;have b1:=z14 σ mt;have b2:=z1z σ any lo hi;have b3:=z1s σ ⟨src,tgt,ra,rl,rh,eq⟩;have b4:=z1u σ ls;unfold ruV at b3;refine Ans.of_run t126 ?_;unfold reV reC z0i idR staR clkB;simp only[hs_3,Bool.not_true,Bool.not_false,Bool.true_or,Bool.false_or,Bool.true_and,Bool.and_assoc]
 cases h0:decide (0≤id) with
 |false =>
  simp -implicitDefEqProofs only[c126,r126,go_sem,h0];exact Fini.ret rfl
 |true =>
 cases h1:decide (id≤2147483647) with
 |false =>
  simp -implicitDefEqProofs only[c126,r126,go_sem,h0,h1];exact Fini.ret rfl
 |true =>
 simp -implicitDefEqProofs only[c126,r126,go_sem,h0,h1];refine CO.intro b0 ?_
 cases h2:tokB txt with
 |false =>
  simp -implicitDefEqProofs only[go_sem,];exact Fini.ret rfl
 |true =>
 cases h3:decide (((st:Nat):Int)≤1099511627776) with
 |false =>
  simp -implicitDefEqProofs only[go_sem,h3];exact Fini.ret rfl
 |true =>
 cases h4:decide (((en:Nat):Int)≤1099511627776) with
 |false =>
  simp -implicitDefEqProofs only[go_sem,h3,h4];exact Fini.ret rfl
 |true =>
 cases h5:decide (0≤sta) with
 |false =>
  simp -implicitDefEqProofs only[go_sem,h3,h4,h5];exact Fini.ret rfl
 |true =>
 cases h6:decide (sta≤3) with
 |false =>
  simp -implicitDefEqProofs only[go_sem,h3,h4,h5,h6];exact Fini.ret rfl
 |true =>
 simp -implicitDefEqProofs only[go_sem,h3,h4,h5,h6];refine CO.intro b1 ?_
 cases h7:listB mt with
 |false =>
  simp -implicitDefEqProofs only[go_sem,];exact Fini.ret rfl
 |true =>
 simp -implicitDefEqProofs only[go_sem];exact Fini.ret rfl
end
section
variable (σ:St)
set_option maxHeartbeats 4000000 in
theorem zcO (r:ReM):Ans Tryz.prog 125 [reV r,I 116] σ (Bo (zeroB r 116)) σ:=by
 obtain⟨tok,op,id,txt,st,en,sta,mt,any,lo,hi,⟨src,tgt,ra,rl,rh,eq⟩,ls,val⟩:=r;have b1:=z13 σ (any,lo,hi);have b2:=z1c σ ⟨src,tgt,ra,rl,rh,eq⟩;have b3:=z0V σ val;unfold bandV at b1;unfold ruV at b2;refine Ans.of_run t125 ?_;unfold reV reC zeroB;simp only[z7i,Bool.true_or,Bool.false_or,Bool.true_and];unfold emS;unfold emI
 cases h0:(id==0) with
 |false =>
  simp -implicitDefEqProofs only[c125,r125,go_sem,h0];exact Fini.ret rfl
 |true =>
 cases h1:(txt.toList==(⟨#[]⟩:ByteArray).toList) with
 |false =>
  simp -implicitDefEqProofs only[c125,r125,go_sem,h0,h1];exact Fini.ret rfl
 |true =>
 cases h2:(sta==0) with
 |false =>
  simp -implicitDefEqProofs only[c125,r125,go_sem,h0,h1,h2];exact Fini.ret rfl
 |true =>
 simp -implicitDefEqProofs only[c125,r125,go_sem,h0,h1,h2];refine CO.intro b2 ?_
 cases h3:noRl ⟨src,tgt,ra,rl,rh,eq⟩ with
 |false =>
  simp -implicitDefEqProofs only[go_sem];exact Fini.ret rfl
 |true =>
 cases h4:(((ls.length:Nat):Int)==0) with
 |false =>
  simp -implicitDefEqProofs only[go_sem,h4];exact Fini.ret rfl
 |true =>
 simp -implicitDefEqProofs only[go_sem,h4];refine CO.intro b3 ?_
 cases h5:zF val with
 |false =>
  simp -implicitDefEqProofs only[go_sem];exact Fini.ret rfl
 |true =>
 simp -implicitDefEqProofs only[go_sem];exact Fini.ret rfl
set_option maxHeartbeats 4000000 in
theorem zbu (r:ReM):Ans Tryz.prog 126 [reV r,I 116] σ (Bo (z0i r 116)) σ:=by
 obtain⟨tok,op,id,txt,st,en,sta,mt,any,lo,hi,⟨src,tgt,ra,rl,rh,eq⟩,ls,val⟩:=r;have b0:=z1V σ txt;have b1:=z14 σ mt;have b2:=z1z σ any lo hi;have b3:=z1s σ ⟨src,tgt,ra,rl,rh,eq⟩;have b4:=z1u σ ls;unfold ruV at b3;refine Ans.of_run t126 ?_;unfold reV reC z0i idR staR clkB;simp only[z7i,Bool.not_true,Bool.not_false,Bool.true_or,Bool.false_or,Bool.true_and,Bool.and_assoc]
 cases h0:decide (0≤id) with
 |false =>
  simp -implicitDefEqProofs only[c126,r126,go_sem,h0];exact Fini.ret rfl
 |true =>
 cases h1:decide (id≤2147483647) with
 |false =>
  simp -implicitDefEqProofs only[c126,r126,go_sem,h0,h1];exact Fini.ret rfl
 |true =>
 cases h2:decide (((st:Nat):Int)≤1099511627776) with
 |false =>
  simp -implicitDefEqProofs only[c126,r126,go_sem,h0,h1,h2];exact Fini.ret rfl
 |true =>
 cases h3:decide (((en:Nat):Int)≤1099511627776) with
 |false =>
  simp -implicitDefEqProofs only[c126,r126,go_sem,h0,h1,h2,h3];exact Fini.ret rfl
 |true =>
 cases h4:decide (0≤sta) with
 |false =>
  simp -implicitDefEqProofs only[c126,r126,go_sem,h0,h1,h2,h3,h4];exact Fini.ret rfl
 |true =>
 cases h5:decide (sta≤3) with
 |false =>
  simp -implicitDefEqProofs only[c126,r126,go_sem,h0,h1,h2,h3,h4,h5];exact Fini.ret rfl
 |true =>
 simp -implicitDefEqProofs only[c126,r126,go_sem,h0,h1,h2,h3,h4,h5];refine CO.intro b1 ?_
 cases h6:listB mt with
 |false =>
  simp -implicitDefEqProofs only[go_sem,];exact Fini.ret rfl
 |true =>
 have hl:=zdm mt.length
 cases h7:(!emI mt.length) with
 |false =>
  rw[h7]at hl;simp -implicitDefEqProofs only[go_sem,hl];exact Fini.ret rfl
 |true =>
 rw[h7]at hl;simp -implicitDefEqProofs only[go_sem,hl];refine CO.intro b2 ?_
 cases h8:mayB any lo hi with
 |false =>
  simp -implicitDefEqProofs only[go_sem,];exact Fini.ret rfl
 |true =>
 simp -implicitDefEqProofs only[go_sem];exact Fini.ret rfl
set_option maxHeartbeats 4000000 in
theorem zcP (r:ReM):Ans Tryz.prog 125 [reV r,I 117] σ (Bo (zeroB r 117)) σ:=by
 obtain⟨tok,op,id,txt,st,en,sta,mt,any,lo,hi,⟨src,tgt,ra,rl,rh,eq⟩,ls,val⟩:=r;have b1:=z13 σ (any,lo,hi);have b2:=z1c σ ⟨src,tgt,ra,rl,rh,eq⟩;have b3:=z0V σ val;unfold bandV at b1;unfold ruV at b2;refine Ans.of_run t125 ?_;unfold reV reC zeroB;simp only[z7j,Bool.true_or,Bool.false_or,Bool.true_and];unfold emS;unfold emI
 cases h0:(txt.toList==(⟨#[]⟩:ByteArray).toList) with
 |false =>
  simp -implicitDefEqProofs only[c125,r125,go_sem,h0];exact Fini.ret rfl
 |true =>
 cases h1:(sta==0) with
 |false =>
  simp -implicitDefEqProofs only[c125,r125,go_sem,h0,h1];exact Fini.ret rfl
 |true =>
 simp -implicitDefEqProofs only[c125,r125,go_sem,h0,h1];refine CO.intro b2 ?_
 cases h2:noRl ⟨src,tgt,ra,rl,rh,eq⟩ with
 |false =>
  simp -implicitDefEqProofs only[go_sem];exact Fini.ret rfl
 |true =>
 cases h3:(((ls.length:Nat):Int)==0) with
 |false =>
  simp -implicitDefEqProofs only[go_sem,h3];exact Fini.ret rfl
 |true =>
 simp -implicitDefEqProofs only[go_sem,h3];refine CO.intro b3 ?_
 cases h4:zF val with
 |false =>
  simp -implicitDefEqProofs only[go_sem];exact Fini.ret rfl
 |true =>
 simp -implicitDefEqProofs only[go_sem];exact Fini.ret rfl
set_option maxHeartbeats 4000000 in
theorem zbv (r:ReM):Ans Tryz.prog 126 [reV r,I 117] σ (Bo (z0i r 117)) σ:=by
 obtain⟨tok,op,id,txt,st,en,sta,mt,any,lo,hi,⟨src,tgt,ra,rl,rh,eq⟩,ls,val⟩:=r;have b0:=z1V σ txt;have b1:=z14 σ mt;have b2:=z1z σ any lo hi;have b3:=z1s σ ⟨src,tgt,ra,rl,rh,eq⟩;have b4:=z1u σ ls;unfold ruV at b3;refine Ans.of_run t126 ?_;unfold reV reC z0i idR staR clkB;simp only[z7j,Bool.not_true,Bool.not_false,Bool.true_or,Bool.false_or,Bool.true_and,Bool.and_assoc]
 cases h0:decide (0≤id) with
 |false =>
  simp -implicitDefEqProofs only[c126,r126,go_sem,h0];exact Fini.ret rfl
 |true =>
 cases h1:decide (id≤2147483647) with
 |false =>
  simp -implicitDefEqProofs only[c126,r126,go_sem,h0,h1];exact Fini.ret rfl
 |true =>
 cases h2:decide (((st:Nat):Int)≤1099511627776) with
 |false =>
  simp -implicitDefEqProofs only[c126,r126,go_sem,h0,h1,h2];exact Fini.ret rfl
 |true =>
 cases h3:decide (((en:Nat):Int)≤1099511627776) with
 |false =>
  simp -implicitDefEqProofs only[c126,r126,go_sem,h0,h1,h2,h3];exact Fini.ret rfl
 |true =>
 cases h4:decide (0≤sta) with
 |false =>
  simp -implicitDefEqProofs only[c126,r126,go_sem,h0,h1,h2,h3,h4];exact Fini.ret rfl
 |true =>
 cases h5:decide (sta≤3) with
 |false =>
  simp -implicitDefEqProofs only[c126,r126,go_sem,h0,h1,h2,h3,h4,h5];exact Fini.ret rfl
 |true =>
 simp -implicitDefEqProofs only[c126,r126,go_sem,h0,h1,h2,h3,h4,h5];refine CO.intro b1 ?_
 cases h6:listB mt with
 |false =>
  simp -implicitDefEqProofs only[go_sem,];exact Fini.ret rfl
 |true =>
 have hl:=zdm mt.length
 cases h7:(!emI mt.length) with
 |false =>
  rw[h7]at hl;simp -implicitDefEqProofs only[go_sem,hl];exact Fini.ret rfl
 |true =>
 rw[h7]at hl;simp -implicitDefEqProofs only[go_sem,hl];refine CO.intro b2 ?_
 cases h8:mayB any lo hi with
 |false =>
  simp -implicitDefEqProofs only[go_sem,];exact Fini.ret rfl
 |true =>
 simp -implicitDefEqProofs only[go_sem];exact Fini.ret rfl
end
section
variable (σ:St)
set_option maxHeartbeats 4000000 in
theorem zf7 (r:ReM):Ans Tryz.prog 125 [reV r,I 8] σ (Bo (zeroB r 8)) σ:=by
 obtain⟨tok,op,id,txt,st,en,sta,mt,any,lo,hi,⟨src,tgt,ra,rl,rh,eq⟩,ls,val⟩:=r;have b1:=z13 σ (any,lo,hi);have b2:=z1c σ ⟨src,tgt,ra,rl,rh,eq⟩;have b3:=z0V σ val;unfold bandV at b1;unfold ruV at b2;refine Ans.of_run t125 ?_;unfold reV reC zeroB;simp only[hs_8,Bool.true_or,Bool.false_or,Bool.true_and];unfold emS;unfold emU;unfold emI
 cases h0:(id==0) with
 |false =>
  simp -implicitDefEqProofs only[c125,r125,go_sem,h0];exact Fini.ret rfl
 |true =>
 cases h1:(txt.toList==(⟨#[]⟩:ByteArray).toList) with
 |false =>
  simp -implicitDefEqProofs only[c125,r125,go_sem,h0,h1];exact Fini.ret rfl
 |true =>
 cases h2:(((st:Nat):Int)==0) with
 |false =>
  simp -implicitDefEqProofs only[c125,r125,go_sem,h0,h1,h2];exact Fini.ret rfl
 |true =>
 cases h3:(((en:Nat):Int)==0) with
 |false =>
  simp -implicitDefEqProofs only[c125,r125,go_sem,h0,h1,h2,h3];exact Fini.ret rfl
 |true =>
 cases h4:(((mt.length:Nat):Int)==0) with
 |false =>
  simp -implicitDefEqProofs only[c125,r125,go_sem,h0,h1,h2,h3,h4];exact Fini.ret rfl
 |true =>
 simp -implicitDefEqProofs only[c125,r125,go_sem,h0,h1,h2,h3,h4];refine CO.intro b1 ?_
 cases h5:noBd (any,lo,hi) with
 |false =>
  simp -implicitDefEqProofs only[go_sem];exact Fini.ret rfl
 |true =>
 simp -implicitDefEqProofs only[go_sem];refine CO.intro b2 ?_
 cases h6:noRl ⟨src,tgt,ra,rl,rh,eq⟩ with
 |false =>
  simp -implicitDefEqProofs only[go_sem];exact Fini.ret rfl
 |true =>
 cases h7:(((ls.length:Nat):Int)==0) with
 |false =>
  simp -implicitDefEqProofs only[go_sem,h7];exact Fini.ret rfl
 |true =>
 simp -implicitDefEqProofs only[go_sem,h7];refine CO.intro b3 ?_
 cases h8:zF val with
 |false =>
  simp -implicitDefEqProofs only[go_sem];exact Fini.ret rfl
 |true =>
 simp -implicitDefEqProofs only[go_sem];exact Fini.ret rfl
set_option maxHeartbeats 4000000 in
theorem zeg (r:ReM):Ans Tryz.prog 126 [reV r,I 8] σ (Bo (z0i r 8)) σ:=by
 obtain⟨tok,op,id,txt,st,en,sta,mt,any,lo,hi,⟨src,tgt,ra,rl,rh,eq⟩,ls,val⟩:=r;have b0:=z1V σ txt;have b1:=z14 σ mt;have b2:=z1z σ any lo hi;have b3:=z1s σ ⟨src,tgt,ra,rl,rh,eq⟩;have b4:=z1u σ ls;unfold ruV at b3;refine Ans.of_run t126 ?_;unfold reV reC z0i idR staR clkB;simp only[hs_8,Bool.not_true,Bool.not_false,Bool.true_or,Bool.false_or,Bool.true_and,Bool.and_assoc]
 cases h0:decide (0≤id) with
 |false =>
  simp -implicitDefEqProofs only[c126,r126,go_sem,h0];exact Fini.ret rfl
 |true =>
 cases h1:decide (id≤2147483647) with
 |false =>
  simp -implicitDefEqProofs only[c126,r126,go_sem,h0,h1];exact Fini.ret rfl
 |true =>
 cases h2:decide (((st:Nat):Int)≤1099511627776) with
 |false =>
  simp -implicitDefEqProofs only[c126,r126,go_sem,h0,h1,h2];exact Fini.ret rfl
 |true =>
 cases h3:decide (((en:Nat):Int)≤1099511627776) with
 |false =>
  simp -implicitDefEqProofs only[c126,r126,go_sem,h0,h1,h2,h3];exact Fini.ret rfl
 |true =>
 cases h4:decide (0≤sta) with
 |false =>
  simp -implicitDefEqProofs only[c126,r126,go_sem,h0,h1,h2,h3,h4];exact Fini.ret rfl
 |true =>
 cases h5:decide (sta≤3) with
 |false =>
  simp -implicitDefEqProofs only[c126,r126,go_sem,h0,h1,h2,h3,h4,h5];exact Fini.ret rfl
 |true =>
 simp -implicitDefEqProofs only[c126,r126,go_sem,h0,h1,h2,h3,h4,h5];refine CO.intro b1 ?_
 cases h6:listB mt with
 |false =>
  simp -implicitDefEqProofs only[go_sem,];exact Fini.ret rfl
 |true =>
 simp -implicitDefEqProofs only[go_sem];exact Fini.ret rfl
set_option maxHeartbeats 4000000 in
theorem zcQ (r:ReM):Ans Tryz.prog 125 [reV r,I 128] σ (Bo (zeroB r 128)) σ:=by
 obtain⟨tok,op,id,txt,st,en,sta,mt,any,lo,hi,⟨src,tgt,ra,rl,rh,eq⟩,ls,val⟩:=r;have b1:=z13 σ (any,lo,hi);have b2:=z1c σ ⟨src,tgt,ra,rl,rh,eq⟩;have b3:=z0V σ val;unfold bandV at b1;unfold ruV at b2;refine Ans.of_run t125 ?_;unfold reV reC zeroB;simp only[hs_128,Bool.true_or,Bool.false_or,Bool.true_and];unfold emS;unfold emU;unfold emI
 cases h0:(id==0) with
 |false =>
  simp -implicitDefEqProofs only[c125,r125,go_sem,h0];exact Fini.ret rfl
 |true =>
 cases h1:(txt.toList==(⟨#[]⟩:ByteArray).toList) with
 |false =>
  simp -implicitDefEqProofs only[c125,r125,go_sem,h0,h1];exact Fini.ret rfl
 |true =>
 cases h2:(((st:Nat):Int)==0) with
 |false =>
  simp -implicitDefEqProofs only[c125,r125,go_sem,h0,h1,h2];exact Fini.ret rfl
 |true =>
 cases h3:(((en:Nat):Int)==0) with
 |false =>
  simp -implicitDefEqProofs only[c125,r125,go_sem,h0,h1,h2,h3];exact Fini.ret rfl
 |true =>
 cases h4:(sta==0) with
 |false =>
  simp -implicitDefEqProofs only[c125,r125,go_sem,h0,h1,h2,h3,h4];exact Fini.ret rfl
 |true =>
 cases h5:(((mt.length:Nat):Int)==0) with
 |false =>
  simp -implicitDefEqProofs only[c125,r125,go_sem,h0,h1,h2,h3,h4,h5];exact Fini.ret rfl
 |true =>
 simp -implicitDefEqProofs only[c125,r125,go_sem,h0,h1,h2,h3,h4,h5];refine CO.intro b1 ?_
 cases h6:noBd (any,lo,hi) with
 |false =>
  simp -implicitDefEqProofs only[go_sem];exact Fini.ret rfl
 |true =>
 cases h7:(((ls.length:Nat):Int)==0) with
 |false =>
  simp -implicitDefEqProofs only[go_sem,h7];exact Fini.ret rfl
 |true =>
 simp -implicitDefEqProofs only[go_sem,h7];refine CO.intro b3 ?_
 cases h8:zF val with
 |false =>
  simp -implicitDefEqProofs only[go_sem];exact Fini.ret rfl
 |true =>
 simp -implicitDefEqProofs only[go_sem];exact Fini.ret rfl
set_option maxHeartbeats 4000000 in
theorem zbw (r:ReM):Ans Tryz.prog 126 [reV r,I 128] σ (Bo (z0i r 128)) σ:=by
 obtain⟨tok,op,id,txt,st,en,sta,mt,any,lo,hi,⟨src,tgt,ra,rl,rh,eq⟩,ls,val⟩:=r;have b0:=z1V σ txt;have b1:=z14 σ mt;have b2:=z1z σ any lo hi;have b3:=z1s σ ⟨src,tgt,ra,rl,rh,eq⟩;have b4:=z1u σ ls;unfold ruV at b3;refine Ans.of_run t126 ?_;unfold reV reC z0i idR staR clkB;simp only[hs_128,Bool.not_true,Bool.not_false,Bool.true_or,Bool.false_or,Bool.true_and,Bool.and_assoc]
 cases h0:decide (0≤id) with
 |false =>
  simp -implicitDefEqProofs only[c126,r126,go_sem,h0];exact Fini.ret rfl
 |true =>
 cases h1:decide (id≤2147483647) with
 |false =>
  simp -implicitDefEqProofs only[c126,r126,go_sem,h0,h1];exact Fini.ret rfl
 |true =>
 cases h2:decide (((st:Nat):Int)≤1099511627776) with
 |false =>
  simp -implicitDefEqProofs only[c126,r126,go_sem,h0,h1,h2];exact Fini.ret rfl
 |true =>
 cases h3:decide (((en:Nat):Int)≤1099511627776) with
 |false =>
  simp -implicitDefEqProofs only[c126,r126,go_sem,h0,h1,h2,h3];exact Fini.ret rfl
 |true =>
 cases h4:decide (0≤sta) with
 |false =>
  simp -implicitDefEqProofs only[c126,r126,go_sem,h0,h1,h2,h3,h4];exact Fini.ret rfl
 |true =>
 cases h5:decide (sta≤3) with
 |false =>
  simp -implicitDefEqProofs only[c126,r126,go_sem,h0,h1,h2,h3,h4,h5];exact Fini.ret rfl
 |true =>
 simp -implicitDefEqProofs only[c126,r126,go_sem,h0,h1,h2,h3,h4,h5];refine CO.intro b1 ?_
 cases h6:listB mt with
 |false =>
  simp -implicitDefEqProofs only[go_sem,];exact Fini.ret rfl
 |true =>
 simp -implicitDefEqProofs only[go_sem];refine CO.intro b3 ?_
 cases h7:ruIs ⟨src,tgt,ra,rl,rh,eq⟩ with
 |false =>
  simp -implicitDefEqProofs only[go_sem,];exact Fini.ret rfl
 |true =>
 simp -implicitDefEqProofs only[go_sem];exact Fini.ret rfl
end
end Go.Proofs.YtmkmhhjkdaklbaaGreat
