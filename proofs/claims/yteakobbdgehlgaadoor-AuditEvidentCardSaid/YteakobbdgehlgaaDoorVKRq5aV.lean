/- Arguments: any rule, a drawn rule, a drawn alert. No condition. -/
import Derived.Test.YteakobbdgehlgaaDoorRows
import Derived.Test.YteakobbdgehlgaaDoorVKXCmpV
import Derived.Test.YteakobbdgehlgaaDoorAbArgV
import Derived.Test.YteakobbdgehlgaaDoorVKRc7V
import Derived.Test.YteakobbdgehlgaaDoorVMRunV
import Derived.Test.YteakobbdgehlgaaDoorVMCode1V
import Derived.Test.YteakobbdgehlgaaDoorAbGloV
set_option linter.unusedSimpArgs false
set_option linter.unusedVariables false
set_option linter.unusedSectionVars false
set_option maxRecDepth 100000
set_option maxHeartbeats 8000000
namespace Go.Ab
open Go Go.ChangeShapes Go.WideShapes
theorem Reads.weak {P:Program} {t:TypeId} {f:Nat} {Q Q':List AV→Prop} (h:Reads P t f Q) (hq:∀xs,Q xs→∃ys,Q' ys∧Subs xs ys):Reads P t f Q':=by
 intro H enc W cs x hx;obtain⟨xs,h1,h2⟩:=h H enc W cs x hx;obtain⟨ys,h3,h4⟩:=hq xs h2;exact⟨ys,h4.reps h1,h3⟩
def zcm:List AV→Prop:=fun xs=>∃n:Nat,xs=[.pl (.float .f64 n)]
theorem Reads.float {P:Program} {t:TypeId} (ht:P.underlying t=some (.float .f64)) (f:Nat):Reads P t f zcm:=by
 intro H enc W cs x h
 have:∃n,cs=[.float .f64 n]:=by
  cases f with
  |zero=>simp[DataW.trod]at h
  |succ n =>
   unfold DataW.trod at h;rw[ht]at h;split at h<;>simp_all
 obtain⟨n,rfl⟩:=this;exact⟨_,z2q (.pl _),n,rfl⟩
def QSl (sz:Nat) (ag:Bool) (Q:List AV→Prop):List AV→Prop:=fun xs=>∃ys:List (List AV),(∀y∈ys,Q y)∧ys.length≤maxLen∧xs=[.sl sz (ys.map (wrapC ag))]
theorem QSlice.weak {sz:Nat} {ag:Bool} {Q:List AV→Prop} (xs:List AV) (h:QSlice sz ag Q xs):∃ys,QSl sz ag Q ys∧Subs xs ys:=by
 rcases h with rfl|⟨ys,h1,h2,rfl⟩
 · exact⟨_,⟨[],by simp,by simp,rfl⟩,.cons (.nils sz) .nil⟩
 · exact⟨_,⟨ys,h1,h2,rfl⟩,Subs.refl _⟩
end Go.Ab
namespace Go.Proofs.YteakobbdgehlgaaDoor
open Go Go.Ab Go.ChangeShapes Go.WideShapes Go.ChangeAt Go.RowKit
section
variable {H:Type} {enc:TypeId×Value→H} {W:World} {base:Nat} {v:Value} {d:DataW H} {ps:List MemPlace}
end
open Go.Cod
theorem wf8 {n:Int} (h:(Lit.int .u8 n).wf=true):0≤n∧n<256:=by
 simp[Lit.wf,IntKind.min,IntKind.max,IntKind.bits,IntKind.signed]at h;omega
theorem z8G:∀{ys:List (List AV)},(∀y∈ys,QInt .u8 y)→∃b:Byt,ys.map (wrapC false)=byv b
 |[],_=>⟨[],rfl⟩
 |y::ys,h=>by
  obtain⟨m,hm,rfl⟩:=h y List.mem_cons_self;obtain⟨b,hb⟩:=z8G (ys:=ys) (fun z hz=>h z (List.mem_cons_of_mem _ hz))
  obtain⟨h0,h1⟩:=wf8 hm;obtain⟨n,rfl⟩:=Int.eq_ofNat_of_zero_le h0;refine⟨n.toUInt8::b,?_⟩;rw[List.map_cons,hb,z4Q,←bc_of (show n<256 by omega)]
  rfl
theorem z6W {H:Type} {enc:TypeId×Value→H} {W:World} {base:Nat} {v:Value} {d:DataW H} {ps:List MemPlace} (hv:Value.okWide Tryd.prog W .any base 22 v)
  (h:DataW.Trod enc Tryd.prog W 0 (fun _=>true) true 22 v d ps):∃b:Byt,Rep noM noR W (.sl 1 (byv b)) v:=by
 obtain⟨sa,len,cap,rfl⟩:=okWide_slice Tryd.underlying22 hv
 obtain⟨x,hx,hq⟩:=Reads.arg (P:=Tryd.prog) (t:=22) (Q:=QSlice 1 false (QInt .u8)) (fun f=>by
  cases f with
  |zero=>exact Reads.zero
  |succ f=>exact Reads.slice false Tryd.underlying22 (by kernel_rfl) (by decide) (Reads.int Tryd.underlying5 f) (fun y hy _=>by obtain⟨n,_,rfl⟩:=hy;rfl)) rfl h
 rcases hq with hq|⟨ys,hys,_,hq⟩
 · simp only[List.cons.injEq,and_true]at hq;subst hq;refine⟨[],?_⟩;have:=hx.nils_inv;rw[this];exact .sl0 _ _ _
 · obtain⟨b,hn⟩:=z8G hys;simp only[List.cons.injEq,and_true]at hq;subst hq;rw[hn]at hx;exact⟨b,hx⟩
end Go.Proofs.YteakobbdgehlgaaDoor
namespace Go.Proofs.YteakobbdgehlgaaDoor.Sha
open Go Go.Ab Go.Cod
def blk (p:List UInt8) (i:Nat):List UInt8:=(p.drop (64*i)).take 64
section
variable (σ:St)
end
end Go.Proofs.YteakobbdgehlgaaDoor.Sha
namespace Go.Proofs.YteakobbdgehlgaaDoor
open Go Go.Ab Go.Cod
abbrev noLb:Lab:=(⟨#[]⟩,⟨#[]⟩)
def valB (v:ByteArray):Bool:=decide (1≤v.size)&&decide (v.size≤24)
def labOk (L:List Lab) (i:Nat):Bool:=nameB (L.getD i noLb).1&&(valB (L.getD i noLb).2&& !(decide (0<i)&&leS (L.getD i noLb).1 (L.getD (i-1) noLb).1))
def setB (L:List Lab):Bool:=decide (1≤L.length)&&(decide (L.length≤6)&&(List.range L.length).all (labOk L))
theorem lvs_D (L:List Lab) (i:Nat) (h:i<L.length):(lvs L)[i]?=some (.agg [Sx (L.getD i noLb).1,Sx (L.getD i noLb).2]):=by
 have:=zbg L i h;rw[this,List.getD_eq_getElem?_getD,List.getElem?_eq_getElem h];rfl
theorem z50 (n:Nat) (a b:ByteArray):∀y∈([Sx a,Sx b]:List AV),Bel n y:=by
 intro y hy;simp only[List.mem_cons,List.not_mem_nil,or_false]at hy;rcases hy with rfl|rfl<;>exact .pl _
theorem z0V (n:Nat) (L:List Lab):Bel n (.sl 2 (lvs L)):=by
 refine .sl 2 _ fun i hi=>?_
 have:∀y∈lvs L,Bel n y:=by
  intro y hy;simp only[lvs,List.mem_map]at hy;obtain⟨x,_,rfl⟩:=hy;exact .agg _ fun i hi=>z50 n x.1 x.2 _ (List.getElem_mem hi)
 exact this _ (List.getElem_mem hi)
theorem z6X (n:Nat) (L:List Lab):Bel n (.sl 2 (lvs L))=True:=eq_true (z0V n L)
theorem BL_lb (n:Nat) (a b:ByteArray):Bel n (.agg [Sx a,Sx b])=True:=eq_true (.agg _ fun i hi=>z50 n a b _ (List.getElem_mem hi))
theorem BL_r2 (n:Nat) (a b:ByteArray):Bel n (.rp [Sx a,Sx b])=True:=eq_true (.rp _ fun i hi=>z50 n a b _ (List.getElem_mem hi))
theorem BL_r1 (n:Nat) (b:ByteArray):Bel n (.rp [Sx b])=True:=eq_true (.rp _ fun i hi=>by
 have:i=0:=by simp at hi;omega
 subst this;exact .pl _)
section
variable (σ:St)
theorem zbs (v:ByteArray):Ans Tryd.prog 66 [Sx v] σ (Bo (valB v)) σ:=by
 have d1:decide ((1:Int)≤(v.size:Nat))=decide (1≤v.size):=intle 1 v.size;have d2:decide (((v.size:Nat):Int)≤24)=decide (v.size≤24):=intle v.size 24;refine Ans.of_run t66 ?_;unfold valB
 cases h:decide (1≤v.size) with
 |false =>
  simp -implicitDefEqProofs only[c66,r66,go_sem,d1,h];exact Fini.ret rfl
 |true =>
  simp -implicitDefEqProofs only[c66,r66,go_sem,d1,d2,h];exact Fini.ret rfl
theorem z1m (L:List Lab):Ans Tryd.prog 57 [.sl 2 (lvs L)] σ (Bo (setB L)) σ:=by
 have e1:decide ((L.length:Int)<1)= !decide (1≤L.length):=by
  by_cases h:1≤L.length
  · rw[decide_eq_true h,decide_eq_false (by omega)];rfl
  · rw[decide_eq_false h,decide_eq_true (by omega)];rfl
 have e2:decide ((6:Int)<L.length)= !decide (L.length≤6):=by
  by_cases h:L.length≤6
  · rw[decide_eq_true h,decide_eq_false (by omega)];rfl
  · rw[decide_eq_false h,decide_eq_true (by omega)];rfl
 refine Ans.of_run' t57 (fun n0 hba=>?_)
 have y0:(σ.length≤σ.length+1)=True:=eq_true (by omega)
 have j0:(∀o∈σ,BelO σ.length o)=True:=eq_true n0;have q0:∀x:Ob,(σ++[x]).take σ.length=σ:=fun x=>List.take_left' rfl
 unfold setB
 cases h1:decide (1≤L.length) with
 |false =>
  simp -implicitDefEqProofs only[c57,r57,go_sem,z1Z,e1,h1];exact Fini.ret rfl
 |true =>
 cases h2:decide (L.length≤6) with
 |false =>
  simp -implicitDefEqProofs only[c57,r57,go_sem,z1Z,e1,e2,h1,h2];exact Fini.ret rfl
 |true =>
 have hl6:L.length≤6:=of_decide_eq_true h2;simp -implicitDefEqProofs only[c57,r57,go_sem,z1Z,e1,e2,h1,h2];refine Go.Ab.L.scan L.length (labOk L) (fun i=>mkE 46 [(0,.sl 2 (lvs L)),(13,.sl 2 (lvs L)),(14,I L.length),(15,I i)]) (fun _=>σ) ?_ ?_ rfl rfl
 · intro i hi hp J hJ;have hx:=lvs_D L i hi;have hF:labOk L i=false→(List.range L.length).all (labOk L)=false:=fun h=>List.all_eq_false.2 ⟨i,List.mem_range.2 hi,by rw[h];decide⟩
   have r0:=wrap_succ (i:=i) (by omega)
   have d0:decide ((0:Int)<i)=decide (0<i):=by rw[Bool.eq_iff_iff];simp
   have hO:labOk L i=(nameB (L.getD i noLb).1&&(valB (L.getD i noLb).2&& !(decide (0<i)&&leS (L.getD i noLb).1 (L.getD (i-1) noLb).1))):=rfl;rw[hO]at hJ hF;generalize L.getD i noLb=x at hJ hF hx;obtain⟨nm,v⟩:=x;simp only at hJ hF hx;have n1:=fun s=>z48 s nm
   have n2:=fun s=>zbs s v
   simp -implicitDefEqProofs only[mkE,go_sem,z14,z1Z,z1p hi,dec_lt hi,hx,g0,s0]
   first|refine CD.intro (n1 _) ?_|refine CS.intro n1 ?_
   cases hb1:nameB nm with
   |false =>
    rw[hb1]at hF;rw[hF rfl];simp -implicitDefEqProofs only[go_sem,z14,g0,s0,y0,B_pl,B_any,z4q,B_tup,B_osl,B_ptr,B_sl0,z6X,BL_lb,BL_r2,BL_r1,q0,Nat.add_zero,j0,List.length_append];exact Fini.ret rfl
   |true =>
    rw[hb1]at hF hJ;simp -implicitDefEqProofs only[go_sem,z14,g0,s0]
    first|refine CD.intro (n2 _) ?_|refine CS.intro n2 ?_
    cases hb2:valB v with
    |false =>
     rw[hb2]at hF;rw[hF rfl];simp -implicitDefEqProofs only[go_sem,z14,g0,s0,y0,B_pl,B_any,z4q,B_tup,B_osl,B_ptr,B_sl0,z6X,BL_lb,BL_r2,BL_r1,q0,Nat.add_zero,j0,List.length_append];exact Fini.ret rfl
    |true =>
     rw[hb2]at hF hJ;by_cases hz:i=0
     · subst hz;have t0:=hJ rfl;have e0:IntKind.i64.wrap 1=1:=rfl;simp -implicitDefEqProofs only[go_sem,z14,d0,r0,e0,g0,s0,y0,B_pl,B_any,z4q,B_tup,B_osl,B_ptr,B_sl0,z6X,BL_lb,BL_r2,BL_r1,q0,Nat.add_zero,j0,List.length_append,Int.natCast_zero];exact t0
     · have u0:decide (0<i)=true:=decide_eq_true (by omega)
       have hx1:=lvs_D L (i-1) (by omega)
       have w1:IntKind.i64.wrap ((i:Int)-1)=((i-1:Nat):Int):=by rw[wrapN (by omega) (by omega)];omega
       have m0:(((i-1:Nat):Int)<L.length)=True:=by simp;omega
       rw[u0]at hJ hF;generalize L.getD (i-1) noLb=x1 at hJ hF hx1;obtain⟨k0,v1⟩:=x1;simp only at hJ hF hx1;have hle:(Op.bytesLess nm.toList k0.toList||nm.toList==k0.toList)=leS nm k0:=rfl;simp -implicitDefEqProofs only[go_sem,z14,d0,u0,w1,z1Z,m0,hx1,hle,g0,s0,r0,g0,s0,y0,B_pl,B_any,z4q,B_tup,B_osl,B_ptr,B_sl0,z6X,BL_lb,BL_r2,BL_r1,q0,Nat.add_zero,j0,List.length_append]
       cases h7:leS nm k0 with
       |true =>
        rw[h7]at hF;rw[hF rfl];simp -implicitDefEqProofs only[go_sem];exact Fini.ret rfl
       |false =>
        rw[h7]at hJ;have t0:=hJ rfl;simp -implicitDefEqProofs only[go_sem,r0];exact t0
 · intro hp J;have hd:decide ((L.length:Int)<L.length)=false:=by simp
   simp -implicitDefEqProofs only[mkE,go_sem,z1Z,hd];refine Fini.ret' rfl (z1r ?_);exact(List.all_eq_true.2 fun i hi=>hp i (List.mem_range.1 hi)).symm
end
def labR:Rd Lab:=seqR (textR 12) (textR 24)
def setR:Rd (List Lab):=onlyR (rowR 6 labR) setB
def putLb (x:Lab):Byt:=txtB x.1++txtB x.2
def zcn (L:List Lab):Byt:=z3g putLb L
theorem lab_fits:Fits labR putLb (fun x=>x.1.size≤12∧x.2.size≤24):=z17 (z0S (by decide)) (z0S (by decide))
theorem z9R:EndsR labR:=lab_fits.ends
theorem zbt {L:List Lab} (h:setB L=true):L.length≤6∧∀x∈L,x.1.size≤12∧x.2.size≤24:=by
 unfold setB at h;simp only[Bool.and_eq_true,decide_eq_true_eq]at h;refine⟨h.2.1,fun x hx=>?_⟩
 obtain⟨i,hi,rfl⟩:=List.getElem_of_mem hx;have h2:=List.all_eq_true.1 h.2.2 i (List.mem_range.2 hi);unfold labOk valB at h2;simp only[Bool.and_eq_true,decide_eq_true_eq]at h2;have e:L.getD i noLb=L[i]:=by rw[List.getD_eq_getElem?_getD,List.getElem?_eq_getElem hi];rfl
 rw[e]at h2;exact⟨z4C h2.1,h2.2.1.2⟩
theorem set_fits:Fits setR zcn (fun L=>setB L=true) :=
 (z2b (z4P (by decide) lab_fits) setB).weaken fun L=>⟨fun h=>h.2,fun h=>⟨zbt h,h⟩⟩
theorem ends_set:EndsR setR:=set_fits.ends
def labS (b:Byt):Nat×Bool→Lab×(Nat×Bool):=seqSt (runR (textR 12) ⟨#[]⟩ b) (runR (textR 24) ⟨#[]⟩ b)
theorem z4c (b:Byt):StepsR b labR (labS b):=z0i (z0a b _ _) (z0a b _ _) (z1a 12)
def setS (b:Byt):Nat×Bool→List Lab×(Nat×Bool):=z0m (rowSt 6 b (labS b)) setB
theorem z8H (b:Byt):StepsR b setR (setS b):=z0A (z3Z (z4c b) z9R 6) _
theorem z8I (L:List Lab) (x:Lab):lvs L++[lv x]=lvs (L++[x]):=by simp[lvs]
abbrev lsV (L:List Lab):AV:=.sl 2 (lvs L)
theorem z7z (σ:St) (b:Byt) (hb:b.length≤50000):Ans Tryd.prog 49 [.sl 1 (byv b)] σ (readV (setR b) b lsV .nils) σ:=by
 have hS:=(z8H b).top;refine Ans.of_run' t49 (fun q0 _=>?_)
 simp -implicitDefEqProofs only[c49,r49,go_sem];refine CO.intro (z2E σ b) ?_;simp -implicitDefEqProofs only[go_sem,List.append_assoc,List.length_append];generalize m0:runR (numR 6) 0 b (0,false)=q1;have k0:Inb b (0,false):=Nat.zero_le _;have hn:=z1g (σ++[rob b (0,false),.row 2 []]) σ.length b (0,false) 6 (by decide) (g0 _ _ _) k0 hb
 rw[m0,s0]at hn;refine CO.intro hn ?_;have hn5:q1.1≤6:=by rw[←m0];exact z1A b _
 have j0:Inb b q1.2:=by rw[←m0];exact z09 _ _ _ _ k0
 simp -implicitDefEqProofs only[go_sem];refine Go.Ab.L.count q1.1 (fun i=>mkE 37 [(5,.ptr σ.length 0),(6,.osl (σ.length+1) i),(12,UN q1.1),(13,UN i)]) (fun i=>σ++[rob b (itSt (labS b) q1.2 i).2,.row 2 (lvs (itSt (labS b) q1.2 i).1)]) ?_ ?_ rfl rfl
 · intro i hi J hJ;have u0:=z1t (z4c b).inb q1.2 j0 i;have hlen:=z21 (labS b) q1.2 i;simp only[itSt]at hJ;generalize itSt (labS b) q1.2 i=c at hJ u0 hlen⊢;obtain⟨l,q⟩:=c;simp only at hJ u0 hlen⊢;have d0:decide ((i:Int)<q1.1)=true:=dec_lt hi;have w0:=z1U (n:=i+1) (by omega)
   have e0:((i:Int)+1)=((i+1:Nat):Int):=rfl;unfold labS seqSt at hJ;simp only at hJ;simp -implicitDefEqProofs only[mkE,go_sem,d0];have h2:=z1I (σ++[rob b q,.row 2 (lvs l)]) σ.length b q 12 (by decide) (g0 _ _ _) u0 hb
   have n0:=z09 (textR 12) ⟨#[]⟩ b q u0;generalize runR (textR 12) ⟨#[]⟩ b q=r2 at h2 n0 hJ;rw[s0]at h2;refine CO.intro h2 ?_;have h3:=z1I (σ++[rob b r2.2,.row 2 (lvs l)]) σ.length b r2.2 24 (by decide) (g0 _ _ _) n0 hb
   generalize runR (textR 24) ⟨#[]⟩ b r2.2=r3 at h3 hJ;rw[s0]at h3;simp -implicitDefEqProofs only[go_sem];refine CO.intro h3 ?_;have hl:(lvs l).length=i:=by rw[z1Z,hlen]
   have hle:i+1≤4294967296:=by omega
   have r0:=z8I l (r2.1,r3.1);simp -implicitDefEqProofs only[go_sem,g1,s1,hl,hle,List.length_singleton,e0,w0];rw[←r0]at hJ;exact hJ
 · intro J;have u0:=z1t (z4c b).inb q1.2 j0 q1.1;have hlen:=z21 (labS b) q1.2 q1.1
   have hL:setS b (0,false)=((itSt (labS b) q1.2 q1.1).1,took (itSt (labS b) q1.2 q1.1).2 0 (setB (itSt (labS b) q1.2 q1.1).1)):=by
    unfold setS z0m rowSt;rw[m0]
   rw[hL]at hS;generalize itSt (labS b) q1.2 q1.1=c at hS u0 hlen⊢;obtain⟨l,q⟩:=c;simp only at hS u0 hlen⊢;have hl:(lvs l).length=q1.1:=by rw[z1Z,hlen]
   have d0:decide ((q1.1:Int)<q1.1)=false:=by simp
   simp -implicitDefEqProofs only[mkE,go_sem,d0,g1,s1,hl];refine CO.intro (z1m _ l) ?_;have h2:=z08 (σ++[rob b q,.dead]) σ.length b q (setB l) (g0 _ _ _) u0 hb;rw[s0]at h2;simp -implicitDefEqProofs only[go_sem];refine CO.intro h2 ?_;have h3:=z1z (σ++[rob b (took q 0 (setB l)),.dead]) σ.length b (took q 0 (setB l)) (g0 _ _ _);simp -implicitDefEqProofs only[go_sem];refine CO.intro h3 ?_;have t0:Bel σ.length (.sl 2 (lvs l)):=z0V _ _
   cases hr:setR b with
   |none =>
    have y0:=hS.2 hr;rw[y0];simp -implicitDefEqProofs only[go_sem];exact Fini.trim2 (σ':=σ) rfl rfl (Nat.le_refl _) (by unfold readV;exact z0L .nils) q0
   |some p =>
    obtain⟨M,t⟩:=p;have y0:=hS.1 M t hr;simp only[Prod.mk.injEq]at y0;obtain⟨rfl,y0⟩:=y0;rw[y0];simp -implicitDefEqProofs only[go_sem];refine Fini.trim2 (σ':=σ) rfl rfl (Nat.le_refl _) ?_ q0;unfold readV;exact z0L t0
theorem z5G (σ:St) (b:Byt) (hb:b.length≤50000):Ans Tryd.prog 49 [.sl 1 (byv b)] σ (readV (setR b) b lsV (lsV [])) σ:=by
 refine(z7z σ b hb).subR ?_;unfold readV
 cases setR b with
 |none=>exact .tup (.cons (.nils 2) (.refl _))
 |some p=>exact .refl _
section
variable (σ:St) (p:Nat) (b:Byt) (q:Nat×Bool)
theorem zco (h:σ[p]?=some (rob b q)) (hq:Inb b q) (hb:b.length≤50000):Ans Tryd.prog 48 [.ptr p 0,.fn 49 [] []] σ (lsV (runR setR [] b q).1) (σ.set p (rob b (runR setR [] b q).2)):=by
 obtain⟨a,bad⟩:=q;have hq:a≤b.length:=hq;have hl:(b.drop a).length≤50000:=by rw[List.length_drop];omega
 cases hr:setR (b.drop a) with
 |none =>
  have u0:=z5G σ (b.drop a) hl;rw[z2r hr]at u0
  have e:runR setR [] b (a,bad)=([],(a,true)):=by
   cases bad
   · exact z0p hr
   · exact z0l _ _ _ _
  have e2:took (a,bad) 0 false=(a,true):=by cases bad<;>rfl
  have ht:=z0x σ p b (a,bad) 0 false h (by simp only;omega)
  rw[e2]at ht;rw[e]
  have:Ans Tryd.prog 48 [.ptr p 0,.fn 49 [] []] σ .nils (σ.set p (rob b (a,true))):=by
   refine Ans.of_run t48 ?_;simp -implicitDefEqProofs only[c48,r48,go_sem];refine CO.intro (z0w σ p b (a,bad) h hq) ?_;simp -implicitDefEqProofs only[go_sem];refine CO.intro u0 ?_;simp -implicitDefEqProofs only[go_sem];refine CO.intro ht ?_;simp -implicitDefEqProofs only[go_sem];exact Fini.ret rfl
  exact this.subR (.nils 2)
 |some x =>
  obtain⟨x,t⟩:=x;have u0:=z5G σ (b.drop a) hl;rw[z2s hr]at u0;have hdr:=ends_set.drop hq hr;have ht:=z0x σ p b (a,bad) ((b.drop a).length-t.length) true h (by simp only[List.length_drop];omega)
  cases bad with
  |true =>
   have e2:took (a,true) ((b.drop a).length-t.length) true=(a,true):=rfl;rw[e2]at ht;rw[z0l]
   have:Ans Tryd.prog 48 [.ptr p 0,.fn 49 [] []] σ .nils (σ.set p (rob b (a,true))):=by
    refine Ans.of_run t48 ?_;simp -implicitDefEqProofs only[c48,r48,go_sem];refine CO.intro (z0w σ p b (a,true) h hq) ?_;simp -implicitDefEqProofs only[go_sem];refine CO.intro u0 ?_;simp -implicitDefEqProofs only[go_sem];refine CO.intro ht ?_;simp -implicitDefEqProofs only[go_sem];exact Fini.ret rfl
   exact this.subR (.nils 2)
  |false =>
   have e2:took (a,false) ((b.drop a).length-t.length) true=(b.length-t.length,false):=by
    simp only[took,Bool.false_or,Bool.not_true,Bool.false_eq_true,if_false,List.length_drop];congr 1;omega
   rw[e2]at ht;rw[z0k hr];refine Ans.of_run t48 ?_;simp -implicitDefEqProofs only[c48,r48,go_sem];refine CO.intro (z0w σ p b (a,false) h hq) ?_;simp -implicitDefEqProofs only[go_sem];refine CO.intro u0 ?_;simp -implicitDefEqProofs only[go_sem];refine CO.intro ht ?_;simp -implicitDefEqProofs only[go_sem];exact Fini.ret rfl
theorem zcp (h:σ[p]?=some (rob b q)) (hq:Inb b q) (hb:b.length≤50000):Ans Tryd.prog 46 [.ptr p 0,.fn 47 [] []] σ (ruV (runR ruR noRu b q).1) (σ.set p (rob b (runR ruR noRu b q).2)):=by
 obtain⟨a,bad⟩:=q;have hq:a≤b.length:=hq;have hl:(b.drop a).length≤50000:=by rw[List.length_drop];omega
 have hp:p<σ.length:=(List.getElem?_eq_some_iff.1 h).1;have hz:∀ob,(σ++[ob])[p]?=some (rob b (a,bad)):=fun ob=>by rw[List.getElem?_append_left hp];exact h
 have k0:∀ob X,(σ++[ob]).set p X=σ.set p X++[ob]:=fun ob X=>by rw[List.set_append_left _ _ hp]
 have hlen:∀X,(σ.set p X).length=σ.length:=fun X=>List.length_set
 have gx:∀(X:Ob) (o:Ob) (ex:St),(σ.set p X++o::ex)[σ.length]?=some o:=fun X o ex=>by rw[←hlen X];exact g0 _ _ _
 have sx:∀(X:Ob) (o u:Ob) (ex:St),(σ.set p X++o::ex).set σ.length u=σ.set p X++u::ex:=fun X o u ex=>by rw[←hlen X];exact s0 _ _ _ _
 have q0:∀(X:Ob) (o o2:Ob) (ex:St),(σ.set p X++o::o2::ex)[σ.length+1]?=some o2:=fun X o o2 ex=>by rw[←hlen X];exact g1 _ _ _ _
 have j0:∀(u0:∀o∈σ,BelO σ.length o) (q:Nat×Bool),∀o∈σ.set p (rob b q),BelO (σ.set p (rob b q)).length o:=fun u0 q=>by
  rw[hlen]
  exact z1q u0 (fun c hc=>by
   simp only[List.mem_cons,List.not_mem_nil,or_false]at hc;rcases hc with rfl|rfl|rfl
   · exact z1y _ _
   · exact .pl _
   · exact .pl _)
 cases hr:ruR (b.drop a) with
 |none =>
  have y0:=fun s=>z4E s (b.drop a) hl
  simp only[z2r hr]at y0
  have e:runR ruR noRu b (a,bad)=(noRu,(a,true)):=by
   cases bad
   · exact z0p hr
   · exact z0l _ _ _ _
  have e2:took (a,bad) 0 false=(a,true):=by cases bad<;>rfl
  have ht:=fun ob=>z0x (σ++[ob]) p b (a,bad) 0 false (hz ob) (by simp only;omega)
  simp only[e2,k0]at ht;rw[e]
  have:Ans Tryd.prog 46 [.ptr p 0,.fn 47 [] []] σ noRuV (σ.set p (rob b (a,true))):=by
   refine Ans.of_run' t46 (fun u0 _=>?_)
   simp -implicitDefEqProofs only[c46,r46,go_sem];refine CO.intro (z0w _ p b (a,bad) (hz _) hq) ?_;simp -implicitDefEqProofs only[go_sem];refine CO.intro (y0 _) ?_;simp -implicitDefEqProofs only[go_sem,ruV];refine CO.intro (ht _) ?_;simp -implicitDefEqProofs only[go_sem,gx,sx,q0,List.append_assoc,List.length_append,hlen];exact Fini.trim2 (σ':=σ.set p (rob b (a,true))) (ex:=[_,_]) (by simp -implicitDefEqProofs only[go_sem,resA,z04,rvA,oneOf,gx]<;>rfl) rfl (by rw[hlen];exact Nat.le_refl _) (z35 _) (j0 u0 _)
  exact this.subR z4Z
 |some x =>
  obtain⟨x,t⟩:=x;have y0:=fun s=>z4E s (b.drop a) hl
  simp only[z2s hr]at y0;have hdr:=ends_ru.drop hq hr;have ht:=fun ob=>z0x (σ++[ob]) p b (a,bad) ((b.drop a).length-t.length) true (hz ob) (by simp only[List.length_drop];omega)
  simp only[k0]at ht
  cases bad with
  |true =>
   have e2:took (a,true) ((b.drop a).length-t.length) true=(a,true):=rfl;rw[e2]at ht;rw[z0l]
   have:Ans Tryd.prog 46 [.ptr p 0,.fn 47 [] []] σ noRuV (σ.set p (rob b (a,true))):=by
    refine Ans.of_run' t46 (fun u0 _=>?_)
    simp -implicitDefEqProofs only[c46,r46,go_sem];refine CO.intro (z0w _ p b (a,true) (hz _) hq) ?_;simp -implicitDefEqProofs only[go_sem];refine CO.intro (y0 _) ?_;simp -implicitDefEqProofs only[go_sem,ruV];refine CO.intro (ht _) ?_;simp -implicitDefEqProofs only[go_sem,gx,sx,q0,List.append_assoc,List.length_append,hlen];exact Fini.trim2 (σ':=σ.set p (rob b (a,true))) (ex:=[_,_]) (by simp -implicitDefEqProofs only[go_sem,resA,z04,rvA,oneOf,gx]<;>rfl) rfl (by rw[hlen];exact Nat.le_refl _) (z35 _) (j0 u0 _)
   exact this.subR z4Z
  |false =>
   have e2:took (a,false) ((b.drop a).length-t.length) true=(b.length-t.length,false):=by
    simp only[took,Bool.false_or,Bool.not_true,Bool.false_eq_true,if_false,List.length_drop];congr 1;omega
   rw[e2]at ht;rw[z0k hr];refine Ans.of_run' t46 (fun u0 _=>?_)
   simp -implicitDefEqProofs only[c46,r46,go_sem];refine CO.intro (z0w _ p b (a,false) (hz _) hq) ?_;simp -implicitDefEqProofs only[go_sem];refine CO.intro (y0 _) ?_;simp -implicitDefEqProofs only[go_sem,ruV];refine CO.intro (ht _) ?_;simp -implicitDefEqProofs only[go_sem,gx,sx,q0,List.append_assoc,List.length_append,hlen];exact Fini.trim2 (σ':=σ.set p (rob b (b.length-t.length,false))) (ex:=[_]) (by simp -implicitDefEqProofs only[go_sem,resA,z04,rvA,oneOf,gx]<;>rfl) rfl (by rw[hlen];exact Nat.le_refl _) (z6h _ x) (j0 u0 _)
end
structure ReM where
 tok:ByteArray
 op:Int
 id:Int
 txt:ByteArray
 st:Nat
 en:Nat
 sta:Int
 mt:List Mtr
 any:Bool
 lo:Nat
 hi:Nat
 ru:RuM
 ls:List Lab
 val:Nat
def reC (r:ReM):List AV:=[Sx r.tok,I r.op,I r.id,Sx r.txt,UN r.st,UN r.en,I r.sta,mlV r.mt,Bo r.any,Fl r.lo,Fl r.hi,mlV r.ru.src,mlV r.ru.tgt,Bo r.ru.any,Fl r.ru.lo,Fl r.ru.hi,.sl 1 (txs r.ru.eq),lsV r.ls,Fl r.val]
def reV (r:ReM):AV:=.agg (reC r)
def fTab:List Int:=[0,1,3,3,116,117,1,8,128,1,768,1,16,0,1,0,0]
def fOf (op:Int):Int×Bool:=if 1≤op∧op≤17 then(fTab.getD (op.toNat-1) 0,true) else(0,false)
theorem ops17 (op:Int):op=1∨op=2∨op=3∨op=4∨op=5∨op=6∨op=7∨op=8∨op=9∨op=10∨op=11∨op=12∨op=13∨op=14∨op=15∨op=16∨op=17∨(op<1∨17<op):=by omega
theorem zaF {op:Int} (h:op<1∨17<op):fOf op=(0,false):=by unfold fOf;rw[if_neg (by omega)]
theorem neI {op k:Int} (h:op≠k):(op==k)=false:=by simpa using h
def zF (n:Nat):Bool:=((bitsF n:Nat):Int)==0
def noBd (x:Bnd):Bool:=!x.1&&(zF x.2.1&&zF x.2.2)
def emI (n:Nat):Bool:=((n:Nat):Int)==0
def noRl (r:RuM):Bool:=emI r.src.length&&(emI r.tgt.length&&(emI r.eq.length&&noBd (r.any,r.lo,r.hi)))
def tokB (s:ByteArray):Bool:=decide (4≤s.size)&&decide (s.size≤16)
section
variable (σ:St)
theorem z0F (op:Int):Ans Tryd.prog 40 [I op] σ (.tup [I (fOf op).1,Bo (fOf op).2]) σ:=by
 refine Ans.of_run t40 ?_;rcases ops17 op with rfl|rfl|rfl|rfl|rfl|rfl|rfl|rfl|rfl|rfl|rfl|rfl|rfl|rfl|rfl|rfl|rfl|h
 all_goals first
  |(rw[zaF h]
    simp -implicitDefEqProofs only[c40,r40,go_sem,neI (op:=op) (k:=1) (by omega),neI (op:=op) (k:=2) (by omega),neI (op:=op) (k:=3) (by omega),neI (op:=op) (k:=4) (by omega),neI (op:=op) (k:=5) (by omega),neI (op:=op) (k:=6) (by omega),neI (op:=op) (k:=7) (by omega),neI (op:=op) (k:=8) (by omega),neI (op:=op) (k:=9) (by omega),neI (op:=op) (k:=10) (by omega),neI (op:=op) (k:=11) (by omega),neI (op:=op) (k:=12) (by omega),neI (op:=op) (k:=13) (by omega),neI (op:=op) (k:=14) (by omega),neI (op:=op) (k:=15) (by omega),neI (op:=op) (k:=16) (by omega),neI (op:=op) (k:=17) (by omega)]
    exact Fini.ret rfl)
  |(simp -implicitDefEqProofs only[c40,r40,go_sem]
    exact Fini.ret rfl)
theorem z0C (n:Nat):Ans Tryd.prog 71 [Fl n] σ (Bo (zF n)) σ:=by
 refine Ans.of_run t71 ?_;simp -implicitDefEqProofs only[c71,r71,go_sem];refine CO.intro (z3G σ n) ?_;simp -implicitDefEqProofs only[go_sem];exact Fini.ret rfl
theorem z0G (x:Bnd):Ans Tryd.prog 69 [bandV x] σ (Bo (noBd x)) σ:=by
 obtain⟨a,lo,hi⟩:=x;refine Ans.of_run t69 ?_;unfold bandV noBd;simp only
 cases a with
 |true =>
  simp -implicitDefEqProofs only[c69,r69,go_sem];exact Fini.ret rfl
 |false =>
  simp -implicitDefEqProofs only[c69,r69,go_sem];refine CO.intro (z0C σ lo) ?_
  cases zF lo with
  |false =>
   simp -implicitDefEqProofs only[go_sem];exact Fini.ret rfl
  |true =>
   simp -implicitDefEqProofs only[go_sem];refine CO.intro (z0C σ hi) ?_;simp -implicitDefEqProofs only[go_sem];exact Fini.ret rfl
theorem z0P (r:RuM):Ans Tryd.prog 70 [ruV r] σ (Bo (noRl r)) σ:=by
 have hb:=z0G σ (r.any,r.lo,r.hi);refine Ans.of_run t70 ?_;unfold ruV noRl emI;unfold bandV at hb
 cases h1:(((r.src.length:Nat):Int)==0) with
 |false =>
  simp -implicitDefEqProofs only[c70,r70,go_sem,z0D,h1];exact Fini.ret rfl
 |true =>
 cases h2:(((r.tgt.length:Nat):Int)==0) with
 |false =>
  simp -implicitDefEqProofs only[c70,r70,go_sem,z0D,h1,h2];exact Fini.ret rfl
 |true =>
 cases h3:(((r.eq.length:Nat):Int)==0) with
 |false =>
  simp -implicitDefEqProofs only[c70,r70,go_sem,z0D,z1P,h1,h2,h3];exact Fini.ret rfl
 |true =>
  simp -implicitDefEqProofs only[c70,r70,go_sem,z0D,z1P,h1,h2,h3];refine CO.intro hb ?_;simp -implicitDefEqProofs only[go_sem];exact Fini.ret rfl
theorem z24 (s:ByteArray):Ans Tryd.prog 72 [Sx s] σ (Bo (tokB s)) σ:=by
 have d1:decide ((4:Int)≤(s.size:Nat))=decide (4≤s.size):=intle 4 s.size;have d2:decide (((s.size:Nat):Int)≤16)=decide (s.size≤16):=intle s.size 16;refine Ans.of_run t72 ?_;unfold tokB
 cases h:decide (4≤s.size) with
 |false =>
  simp -implicitDefEqProofs only[c72,r72,go_sem,d1,h];exact Fini.ret rfl
 |true =>
  simp -implicitDefEqProofs only[c72,r72,go_sem,d1,d2,h];exact Fini.ret rfl
end
def andI (a b:Int):Int:=IntKind.i64.wrap ((BitVec.ofInt 64 a &&& BitVec.ofInt 64 b).toNat:Int)
def hasF (f k:Int):Bool:=decide (0<andI f k)
def emS (s:ByteArray):Bool:=s.toList==(⟨#[]⟩:ByteArray).toList
def emU (n:Nat):Bool:=(n:Int)==0
def idR (n:Int):Bool:=decide (0≤n)&&decide (n≤2147483647)
def clkB (n:Nat):Bool:=decide ((n:Int)≤1099511627776)
def staR (n:Int):Bool:=decide (0≤n)&&decide (n≤3)
def zeroB (r:ReM) (f:Int):Bool :=
 (hasF f 1||r.id==0)&&((hasF f 2||emS r.txt)&&((hasF f 4||(emU r.st&&emU r.en))&&((hasF f 8||r.sta==0)&&((hasF f 16||emI r.mt.length)&&((hasF f 64||noBd (r.any,r.lo,r.hi))&&((hasF f 128||noRl r.ru)&&((hasF f 256||emI r.ls.length)&&(hasF f 512||zF r.val))))))))
def z0Z (r:ReM) (f:Int):Bool :=
 idR r.id&&((!hasF f 2||tokB r.txt)&&(clkB r.st&&(clkB r.en&&(staR r.sta&&(listB r.mt&&((!hasF f 32|| !emI r.mt.length)&&((!hasF f 64||mayB r.any r.lo r.hi)&&((!hasF f 128||ruIs r.ru)&&(!hasF f 256||setB r.ls)))))))))
def mayR (r:ReM):Bool:=(fOf r.op).2&&(zeroB r (fOf r.op).1&&z0Z r (fOf r.op).1)
theorem zaG (n:Nat):decide ((0:Int)<n)= !emI n:=by
 unfold emI;rw[Bool.eq_iff_iff];simp only[decide_eq_true_eq,Bool.not_eq_true',beq_eq_false_iff_ne];omega
theorem z6j (op:Int):(fOf op).1∈[0,1,3,116,117,8,128,768,16]:=by
 rcases ops17 op with rfl|rfl|rfl|rfl|rfl|rfl|rfl|rfl|rfl|rfl|rfl|rfl|rfl|rfl|rfl|rfl|rfl|h
 all_goals first|(rw[zaF h];decide)|decide
abbrev aI (f k:Int):Int:=IntKind.i64.wrap (((@HAnd.hAnd (BitVec 64) (BitVec 64) (BitVec 64) (@instHAndOfAndOp (BitVec IntKind.i64.bits) (@BitVec.instAndOp IntKind.i64.bits)) (BitVec.ofInt 64 f) (BitVec.ofInt 64 k)).toNat:Nat):Int)
theorem an_0:aI 0 1=0∧aI 0 2=0∧aI 0 4=0∧aI 0 8=0∧aI 0 16=0∧aI 0 32=0∧aI 0 64=0∧aI 0 128=0∧aI 0 256=0∧aI 0 512=0:=by decide +kernel
theorem hs_0:hasF 0 1=false∧hasF 0 2=false∧hasF 0 4=false∧hasF 0 8=false∧hasF 0 16=false∧hasF 0 32=false∧hasF 0 64=false∧hasF 0 128=false∧hasF 0 256=false∧hasF 0 512=false:=by decide +kernel
theorem an_1:aI 1 1=1∧aI 1 2=0∧aI 1 4=0∧aI 1 8=0∧aI 1 16=0∧aI 1 32=0∧aI 1 64=0∧aI 1 128=0∧aI 1 256=0∧aI 1 512=0:=by decide +kernel
theorem hs_1:hasF 1 1=true∧hasF 1 2=false∧hasF 1 4=false∧hasF 1 8=false∧hasF 1 16=false∧hasF 1 32=false∧hasF 1 64=false∧hasF 1 128=false∧hasF 1 256=false∧hasF 1 512=false:=by decide +kernel
theorem an_3:aI 3 1=1∧aI 3 2=2∧aI 3 4=0∧aI 3 8=0∧aI 3 16=0∧aI 3 32=0∧aI 3 64=0∧aI 3 128=0∧aI 3 256=0∧aI 3 512=0:=by decide +kernel
theorem hs_3:hasF 3 1=true∧hasF 3 2=true∧hasF 3 4=false∧hasF 3 8=false∧hasF 3 16=false∧hasF 3 32=false∧hasF 3 64=false∧hasF 3 128=false∧hasF 3 256=false∧hasF 3 512=false:=by decide +kernel
theorem zcq:aI 116 1=0∧aI 116 2=0∧aI 116 4=4∧aI 116 8=0∧aI 116 16=16∧aI 116 32=32∧aI 116 64=64∧aI 116 128=0∧aI 116 256=0∧aI 116 512=0:=by decide +kernel
theorem zaH:hasF 116 1=false∧hasF 116 2=false∧hasF 116 4=true∧hasF 116 8=false∧hasF 116 16=true∧hasF 116 32=true∧hasF 116 64=true∧hasF 116 128=false∧hasF 116 256=false∧hasF 116 512=false:=by decide +kernel
theorem zcr:aI 117 1=1∧aI 117 2=0∧aI 117 4=4∧aI 117 8=0∧aI 117 16=16∧aI 117 32=32∧aI 117 64=64∧aI 117 128=0∧aI 117 256=0∧aI 117 512=0:=by decide +kernel
theorem zaI:hasF 117 1=true∧hasF 117 2=false∧hasF 117 4=true∧hasF 117 8=false∧hasF 117 16=true∧hasF 117 32=true∧hasF 117 64=true∧hasF 117 128=false∧hasF 117 256=false∧hasF 117 512=false:=by decide +kernel
theorem an_8:aI 8 1=0∧aI 8 2=0∧aI 8 4=0∧aI 8 8=8∧aI 8 16=0∧aI 8 32=0∧aI 8 64=0∧aI 8 128=0∧aI 8 256=0∧aI 8 512=0:=by decide +kernel
theorem hs_8:hasF 8 1=false∧hasF 8 2=false∧hasF 8 4=false∧hasF 8 8=true∧hasF 8 16=false∧hasF 8 32=false∧hasF 8 64=false∧hasF 8 128=false∧hasF 8 256=false∧hasF 8 512=false:=by decide +kernel
theorem zcs:aI 128 1=0∧aI 128 2=0∧aI 128 4=0∧aI 128 8=0∧aI 128 16=0∧aI 128 32=0∧aI 128 64=0∧aI 128 128=128∧aI 128 256=0∧aI 128 512=0:=by decide +kernel
theorem zaJ:hasF 128 1=false∧hasF 128 2=false∧hasF 128 4=false∧hasF 128 8=false∧hasF 128 16=false∧hasF 128 32=false∧hasF 128 64=false∧hasF 128 128=true∧hasF 128 256=false∧hasF 128 512=false:=by decide +kernel
theorem zct:aI 768 1=0∧aI 768 2=0∧aI 768 4=0∧aI 768 8=0∧aI 768 16=0∧aI 768 32=0∧aI 768 64=0∧aI 768 128=0∧aI 768 256=256∧aI 768 512=512:=by decide +kernel
theorem zaK:hasF 768 1=false∧hasF 768 2=false∧hasF 768 4=false∧hasF 768 8=false∧hasF 768 16=false∧hasF 768 32=false∧hasF 768 64=false∧hasF 768 128=false∧hasF 768 256=true∧hasF 768 512=true:=by decide +kernel
theorem an_16:aI 16 1=0∧aI 16 2=0∧aI 16 4=0∧aI 16 8=0∧aI 16 16=16∧aI 16 32=0∧aI 16 64=0∧aI 16 128=0∧aI 16 256=0∧aI 16 512=0:=by decide +kernel
theorem hs_16:hasF 16 1=false∧hasF 16 2=false∧hasF 16 4=false∧hasF 16 8=false∧hasF 16 16=true∧hasF 16 32=false∧hasF 16 64=false∧hasF 16 128=false∧hasF 16 256=false∧hasF 16 512=false:=by decide +kernel
attribute [go_sem] z0D z1Z z1P an_0 an_1 an_3 zcq zcr an_8 zcs zct an_16
section
variable (σ:St)
theorem zcu (r:ReM):Ans Tryd.prog 61 [reV r,I 0] σ (Bo (zeroB r 0)) σ:=by
 obtain⟨tok,op,id,q0,st,en,y0,mt,any,lo,hi,⟨src,u0,ra,rl,rh,eq⟩,ls,val⟩:=r;have b1:=z0G σ (any,lo,hi);have b2:=z0P σ ⟨src,u0,ra,rl,rh,eq⟩;have b3:=z0C σ val;unfold bandV at b1;unfold ruV at b2;refine Ans.of_run t61 ?_;unfold reV reC zeroB;simp only[hs_0,Bool.true_or,Bool.false_or,Bool.true_and];unfold emS;unfold emU;unfold emI
 cases h0:(id==0) with
 |false =>
  simp -implicitDefEqProofs only[c61,r61,go_sem,h0];exact Fini.ret rfl
 |true =>
 cases h1:(q0.toList==(⟨#[]⟩:ByteArray).toList) with
 |false =>
  simp -implicitDefEqProofs only[c61,r61,go_sem,h0,h1];exact Fini.ret rfl
 |true =>
 cases h2:(((st:Nat):Int)==0) with
 |false =>
  simp -implicitDefEqProofs only[c61,r61,go_sem,h0,h1,h2];exact Fini.ret rfl
 |true =>
 cases h3:(((en:Nat):Int)==0) with
 |false =>
  simp -implicitDefEqProofs only[c61,r61,go_sem,h0,h1,h2,h3];exact Fini.ret rfl
 |true =>
 cases h4:(y0==0) with
 |false =>
  simp -implicitDefEqProofs only[c61,r61,go_sem,h0,h1,h2,h3,h4];exact Fini.ret rfl
 |true =>
 cases h5:(((mt.length:Nat):Int)==0) with
 |false =>
  simp -implicitDefEqProofs only[c61,r61,go_sem,h0,h1,h2,h3,h4,h5];exact Fini.ret rfl
 |true =>
 simp -implicitDefEqProofs only[c61,r61,go_sem,h0,h1,h2,h3,h4,h5];refine CO.intro b1 ?_
 cases h6:noBd (any,lo,hi) with
 |false =>
  simp -implicitDefEqProofs only[go_sem];exact Fini.ret rfl
 |true =>
 simp -implicitDefEqProofs only[go_sem];refine CO.intro b2 ?_
 cases h7:noRl ⟨src,u0,ra,rl,rh,eq⟩ with
 |false =>
  simp -implicitDefEqProofs only[go_sem];exact Fini.ret rfl
 |true =>
 cases h8:(((ls.length:Nat):Int)==0) with
 |false =>
  simp -implicitDefEqProofs only[go_sem,h8];exact Fini.ret rfl
 |true =>
 simp -implicitDefEqProofs only[go_sem,h8];refine CO.intro b3 ?_
 cases h9:zF val with
 |false =>
  simp -implicitDefEqProofs only[go_sem];exact Fini.ret rfl
 |true =>
 simp -implicitDefEqProofs only[go_sem];exact Fini.ret rfl
theorem zbu (r:ReM):Ans Tryd.prog 62 [reV r,I 0] σ (Bo (z0Z r 0)) σ:=by
 obtain⟨tok,op,id,q0,st,en,u0,mt,any,lo,hi,⟨src,y0,ra,rl,rh,eq⟩,ls,val⟩:=r;have b0:=z24 σ q0;have b1:=z0U σ mt;have b2:=z1h σ any lo hi;have b3:=z1l σ ⟨src,y0,ra,rl,rh,eq⟩;have b4:=z1m σ ls;unfold ruV at b3;refine Ans.of_run t62 ?_;unfold reV reC z0Z idR staR clkB;simp only[hs_0,Bool.not_true,Bool.not_false,Bool.true_or,Bool.false_or,Bool.true_and,Bool.and_assoc]
 cases h0:decide (0≤id) with
 |false =>
  simp -implicitDefEqProofs only[c62,r62,go_sem,h0];exact Fini.ret rfl
 |true =>
 cases h1:decide (id≤2147483647) with
 |false =>
  simp -implicitDefEqProofs only[c62,r62,go_sem,h0,h1];exact Fini.ret rfl
 |true =>
 cases h2:decide (((st:Nat):Int)≤1099511627776) with
 |false =>
  simp -implicitDefEqProofs only[c62,r62,go_sem,h0,h1,h2];exact Fini.ret rfl
 |true =>
 cases h3:decide (((en:Nat):Int)≤1099511627776) with
 |false =>
  simp -implicitDefEqProofs only[c62,r62,go_sem,h0,h1,h2,h3];exact Fini.ret rfl
 |true =>
 cases h4:decide (0≤u0) with
 |false =>
  simp -implicitDefEqProofs only[c62,r62,go_sem,h0,h1,h2,h3,h4];exact Fini.ret rfl
 |true =>
 cases h5:decide (u0≤3) with
 |false =>
  simp -implicitDefEqProofs only[c62,r62,go_sem,h0,h1,h2,h3,h4,h5];exact Fini.ret rfl
 |true =>
 simp -implicitDefEqProofs only[c62,r62,go_sem,h0,h1,h2,h3,h4,h5];refine CO.intro b1 ?_
 cases h6:listB mt with
 |false =>
  simp -implicitDefEqProofs only[go_sem,];exact Fini.ret rfl
 |true =>
 simp -implicitDefEqProofs only[go_sem];exact Fini.ret rfl
theorem zcv (r:ReM):Ans Tryd.prog 61 [reV r,I 1] σ (Bo (zeroB r 1)) σ:=by
 obtain⟨tok,op,id,q0,st,en,y0,mt,any,lo,hi,⟨src,u0,ra,rl,rh,eq⟩,ls,val⟩:=r;have b1:=z0G σ (any,lo,hi);have b2:=z0P σ ⟨src,u0,ra,rl,rh,eq⟩;have b3:=z0C σ val;unfold bandV at b1;unfold ruV at b2;refine Ans.of_run t61 ?_;unfold reV reC zeroB;simp only[hs_1,Bool.true_or,Bool.false_or,Bool.true_and];unfold emS;unfold emU;unfold emI
 cases h0:(q0.toList==(⟨#[]⟩:ByteArray).toList) with
 |false =>
  simp -implicitDefEqProofs only[c61,r61,go_sem,h0];exact Fini.ret rfl
 |true =>
 cases h1:(((st:Nat):Int)==0) with
 |false =>
  simp -implicitDefEqProofs only[c61,r61,go_sem,h0,h1];exact Fini.ret rfl
 |true =>
 cases h2:(((en:Nat):Int)==0) with
 |false =>
  simp -implicitDefEqProofs only[c61,r61,go_sem,h0,h1,h2];exact Fini.ret rfl
 |true =>
 cases h3:(y0==0) with
 |false =>
  simp -implicitDefEqProofs only[c61,r61,go_sem,h0,h1,h2,h3];exact Fini.ret rfl
 |true =>
 cases h4:(((mt.length:Nat):Int)==0) with
 |false =>
  simp -implicitDefEqProofs only[c61,r61,go_sem,h0,h1,h2,h3,h4];exact Fini.ret rfl
 |true =>
 simp -implicitDefEqProofs only[c61,r61,go_sem,h0,h1,h2,h3,h4];refine CO.intro b1 ?_
 cases h5:noBd (any,lo,hi) with
 |false =>
  simp -implicitDefEqProofs only[go_sem];exact Fini.ret rfl
 |true =>
 simp -implicitDefEqProofs only[go_sem];refine CO.intro b2 ?_
 cases h6:noRl ⟨src,u0,ra,rl,rh,eq⟩ with
 |false =>
  simp -implicitDefEqProofs only[go_sem];exact Fini.ret rfl
 |true =>
 cases h7:(((ls.length:Nat):Int)==0) with
 |false =>
  simp -implicitDefEqProofs only[go_sem,h7];exact Fini.ret rfl
 |true =>
 simp -implicitDefEqProofs only[go_sem,h7];refine CO.intro b3 ?_
 cases h8:zF val with
 |false =>
  simp -implicitDefEqProofs only[go_sem];exact Fini.ret rfl
 |true =>
 simp -implicitDefEqProofs only[go_sem];exact Fini.ret rfl
theorem zbv (r:ReM):Ans Tryd.prog 62 [reV r,I 1] σ (Bo (z0Z r 1)) σ:=by
 obtain⟨tok,op,id,q0,st,en,u0,mt,any,lo,hi,⟨src,y0,ra,rl,rh,eq⟩,ls,val⟩:=r;have b0:=z24 σ q0;have b1:=z0U σ mt;have b2:=z1h σ any lo hi;have b3:=z1l σ ⟨src,y0,ra,rl,rh,eq⟩;have b4:=z1m σ ls;unfold ruV at b3;refine Ans.of_run t62 ?_;unfold reV reC z0Z idR staR clkB;simp only[hs_1,Bool.not_true,Bool.not_false,Bool.true_or,Bool.false_or,Bool.true_and,Bool.and_assoc]
 cases h0:decide (0≤id) with
 |false =>
  simp -implicitDefEqProofs only[c62,r62,go_sem,h0];exact Fini.ret rfl
 |true =>
 cases h1:decide (id≤2147483647) with
 |false =>
  simp -implicitDefEqProofs only[c62,r62,go_sem,h0,h1];exact Fini.ret rfl
 |true =>
 cases h2:decide (((st:Nat):Int)≤1099511627776) with
 |false =>
  simp -implicitDefEqProofs only[c62,r62,go_sem,h0,h1,h2];exact Fini.ret rfl
 |true =>
 cases h3:decide (((en:Nat):Int)≤1099511627776) with
 |false =>
  simp -implicitDefEqProofs only[c62,r62,go_sem,h0,h1,h2,h3];exact Fini.ret rfl
 |true =>
 cases h4:decide (0≤u0) with
 |false =>
  simp -implicitDefEqProofs only[c62,r62,go_sem,h0,h1,h2,h3,h4];exact Fini.ret rfl
 |true =>
 cases h5:decide (u0≤3) with
 |false =>
  simp -implicitDefEqProofs only[c62,r62,go_sem,h0,h1,h2,h3,h4,h5];exact Fini.ret rfl
 |true =>
 simp -implicitDefEqProofs only[c62,r62,go_sem,h0,h1,h2,h3,h4,h5];refine CO.intro b1 ?_
 cases h6:listB mt with
 |false =>
  simp -implicitDefEqProofs only[go_sem,];exact Fini.ret rfl
 |true =>
 simp -implicitDefEqProofs only[go_sem];exact Fini.ret rfl
theorem zcw (r:ReM):Ans Tryd.prog 61 [reV r,I 3] σ (Bo (zeroB r 3)) σ:=by
 obtain⟨tok,op,id,txt,st,en,y0,mt,any,lo,hi,⟨src,u0,ra,rl,rh,eq⟩,ls,val⟩:=r;have b1:=z0G σ (any,lo,hi);have b2:=z0P σ ⟨src,u0,ra,rl,rh,eq⟩;have b3:=z0C σ val;unfold bandV at b1;unfold ruV at b2;refine Ans.of_run t61 ?_;unfold reV reC zeroB;simp only[hs_3,Bool.true_or,Bool.false_or,Bool.true_and];unfold emU;unfold emI
 cases h0:(((st:Nat):Int)==0) with
 |false =>
  simp -implicitDefEqProofs only[c61,r61,go_sem,h0];exact Fini.ret rfl
 |true =>
 cases h1:(((en:Nat):Int)==0) with
 |false =>
  simp -implicitDefEqProofs only[c61,r61,go_sem,h0,h1];exact Fini.ret rfl
 |true =>
 cases h2:(y0==0) with
 |false =>
  simp -implicitDefEqProofs only[c61,r61,go_sem,h0,h1,h2];exact Fini.ret rfl
 |true =>
 cases h3:(((mt.length:Nat):Int)==0) with
 |false =>
  simp -implicitDefEqProofs only[c61,r61,go_sem,h0,h1,h2,h3];exact Fini.ret rfl
 |true =>
 simp -implicitDefEqProofs only[c61,r61,go_sem,h0,h1,h2,h3];refine CO.intro b1 ?_
 cases h4:noBd (any,lo,hi) with
 |false =>
  simp -implicitDefEqProofs only[go_sem];exact Fini.ret rfl
 |true =>
 simp -implicitDefEqProofs only[go_sem];refine CO.intro b2 ?_
 cases h5:noRl ⟨src,u0,ra,rl,rh,eq⟩ with
 |false =>
  simp -implicitDefEqProofs only[go_sem];exact Fini.ret rfl
 |true =>
 cases h6:(((ls.length:Nat):Int)==0) with
 |false =>
  simp -implicitDefEqProofs only[go_sem,h6];exact Fini.ret rfl
 |true =>
 simp -implicitDefEqProofs only[go_sem,h6];refine CO.intro b3 ?_
 cases h7:zF val with
 |false =>
  simp -implicitDefEqProofs only[go_sem];exact Fini.ret rfl
 |true =>
 simp -implicitDefEqProofs only[go_sem];exact Fini.ret rfl
theorem zbw (r:ReM):Ans Tryd.prog 62 [reV r,I 3] σ (Bo (z0Z r 3)) σ:=by
 obtain⟨tok,op,id,y0,st,en,u0,mt,any,lo,hi,⟨src,q0,ra,rl,rh,eq⟩,ls,val⟩:=r;have b0:=z24 σ y0;have b1:=z0U σ mt;have b2:=z1h σ any lo hi;have b3:=z1l σ ⟨src,q0,ra,rl,rh,eq⟩;have b4:=z1m σ ls;unfold ruV at b3;refine Ans.of_run t62 ?_;unfold reV reC z0Z idR staR clkB;simp only[hs_3,Bool.not_true,Bool.not_false,Bool.true_or,Bool.false_or,Bool.true_and,Bool.and_assoc]
 cases h0:decide (0≤id) with
 |false =>
  simp -implicitDefEqProofs only[c62,r62,go_sem,h0];exact Fini.ret rfl
 |true =>
 cases h1:decide (id≤2147483647) with
 |false =>
  simp -implicitDefEqProofs only[c62,r62,go_sem,h0,h1];exact Fini.ret rfl
 |true =>
 simp -implicitDefEqProofs only[c62,r62,go_sem,h0,h1];refine CO.intro b0 ?_
 cases h2:tokB y0 with
 |false =>
  simp -implicitDefEqProofs only[go_sem,];exact Fini.ret rfl
 |true =>
 cases h3:decide (((st:Nat):Int)≤1099511627776) with
 |false =>
  simp -implicitDefEqProofs only[go_sem,h3];exact Fini.ret rfl
 |true =>
 cases h4:decide (((en:Nat):Int)≤1099511627776) with
 |false =>
  simp -implicitDefEqProofs only[go_sem,h3,h4];exact Fini.ret rfl
 |true =>
 cases h5:decide (0≤u0) with
 |false =>
  simp -implicitDefEqProofs only[go_sem,h3,h4,h5];exact Fini.ret rfl
 |true =>
 cases h6:decide (u0≤3) with
 |false =>
  simp -implicitDefEqProofs only[go_sem,h3,h4,h5,h6];exact Fini.ret rfl
 |true =>
 simp -implicitDefEqProofs only[go_sem,h3,h4,h5,h6];refine CO.intro b1 ?_
 cases h7:listB mt with
 |false =>
  simp -implicitDefEqProofs only[go_sem,];exact Fini.ret rfl
 |true =>
 simp -implicitDefEqProofs only[go_sem];exact Fini.ret rfl
end
section
variable (σ:St)
theorem z9S (r:ReM):Ans Tryd.prog 61 [reV r,I 116] σ (Bo (zeroB r 116)) σ:=by
 obtain⟨tok,op,id,q0,st,en,y0,mt,any,lo,hi,⟨src,u0,ra,rl,rh,eq⟩,ls,val⟩:=r;have b1:=z0G σ (any,lo,hi);have b2:=z0P σ ⟨src,u0,ra,rl,rh,eq⟩;have b3:=z0C σ val;unfold bandV at b1;unfold ruV at b2;refine Ans.of_run t61 ?_;unfold reV reC zeroB;simp only[zaH,Bool.true_or,Bool.false_or,Bool.true_and];unfold emS;unfold emI
 cases h0:(id==0) with
 |false =>
  simp -implicitDefEqProofs only[c61,r61,go_sem,h0];exact Fini.ret rfl
 |true =>
 cases h1:(q0.toList==(⟨#[]⟩:ByteArray).toList) with
 |false =>
  simp -implicitDefEqProofs only[c61,r61,go_sem,h0,h1];exact Fini.ret rfl
 |true =>
 cases h2:(y0==0) with
 |false =>
  simp -implicitDefEqProofs only[c61,r61,go_sem,h0,h1,h2];exact Fini.ret rfl
 |true =>
 simp -implicitDefEqProofs only[c61,r61,go_sem,h0,h1,h2];refine CO.intro b2 ?_
 cases h3:noRl ⟨src,u0,ra,rl,rh,eq⟩ with
 |false =>
  simp -implicitDefEqProofs only[go_sem];exact Fini.ret rfl
 |true =>
 cases h4:(((ls.length:Nat):Int)==0) with
 |false =>
  simp -implicitDefEqProofs only[go_sem,h4];exact Fini.ret rfl
 |true =>
 simp -implicitDefEqProofs only[go_sem,h4];refine CO.intro b3 ?_
 cases h5:zF val with
 |false =>
  simp -implicitDefEqProofs only[go_sem];exact Fini.ret rfl
 |true =>
 simp -implicitDefEqProofs only[go_sem];exact Fini.ret rfl
theorem z8J (r:ReM):Ans Tryd.prog 62 [reV r,I 116] σ (Bo (z0Z r 116)) σ:=by
 obtain⟨tok,op,id,q0,st,en,u0,mt,any,lo,hi,⟨src,y0,ra,rl,rh,eq⟩,ls,val⟩:=r;have b0:=z24 σ q0;have b1:=z0U σ mt;have b2:=z1h σ any lo hi;have b3:=z1l σ ⟨src,y0,ra,rl,rh,eq⟩;have b4:=z1m σ ls;unfold ruV at b3;refine Ans.of_run t62 ?_;unfold reV reC z0Z idR staR clkB;simp only[zaH,Bool.not_true,Bool.not_false,Bool.true_or,Bool.false_or,Bool.true_and,Bool.and_assoc]
 cases h0:decide (0≤id) with
 |false =>
  simp -implicitDefEqProofs only[c62,r62,go_sem,h0];exact Fini.ret rfl
 |true =>
 cases h1:decide (id≤2147483647) with
 |false =>
  simp -implicitDefEqProofs only[c62,r62,go_sem,h0,h1];exact Fini.ret rfl
 |true =>
 cases h2:decide (((st:Nat):Int)≤1099511627776) with
 |false =>
  simp -implicitDefEqProofs only[c62,r62,go_sem,h0,h1,h2];exact Fini.ret rfl
 |true =>
 cases h3:decide (((en:Nat):Int)≤1099511627776) with
 |false =>
  simp -implicitDefEqProofs only[c62,r62,go_sem,h0,h1,h2,h3];exact Fini.ret rfl
 |true =>
 cases h4:decide (0≤u0) with
 |false =>
  simp -implicitDefEqProofs only[c62,r62,go_sem,h0,h1,h2,h3,h4];exact Fini.ret rfl
 |true =>
 cases h5:decide (u0≤3) with
 |false =>
  simp -implicitDefEqProofs only[c62,r62,go_sem,h0,h1,h2,h3,h4,h5];exact Fini.ret rfl
 |true =>
 simp -implicitDefEqProofs only[c62,r62,go_sem,h0,h1,h2,h3,h4,h5];refine CO.intro b1 ?_
 cases h6:listB mt with
 |false =>
  simp -implicitDefEqProofs only[go_sem,];exact Fini.ret rfl
 |true =>
 have hl:=zaG mt.length
 cases h7:(!emI mt.length) with
 |false =>
  rw[h7]at hl;simp -implicitDefEqProofs only[go_sem,hl];exact Fini.ret rfl
 |true =>
 rw[h7]at hl;simp -implicitDefEqProofs only[go_sem,hl];refine CO.intro b2 ?_
 cases h8:mayB any lo hi with
 |false =>
  simp -implicitDefEqProofs only[go_sem,];exact Fini.ret rfl
 |true =>
 simp -implicitDefEqProofs only[go_sem];exact Fini.ret rfl
theorem z9T (r:ReM):Ans Tryd.prog 61 [reV r,I 117] σ (Bo (zeroB r 117)) σ:=by
 obtain⟨tok,op,id,q0,st,en,y0,mt,any,lo,hi,⟨src,u0,ra,rl,rh,eq⟩,ls,val⟩:=r;have b1:=z0G σ (any,lo,hi);have b2:=z0P σ ⟨src,u0,ra,rl,rh,eq⟩;have b3:=z0C σ val;unfold bandV at b1;unfold ruV at b2;refine Ans.of_run t61 ?_;unfold reV reC zeroB;simp only[zaI,Bool.true_or,Bool.false_or,Bool.true_and];unfold emS;unfold emI
 cases h0:(q0.toList==(⟨#[]⟩:ByteArray).toList) with
 |false =>
  simp -implicitDefEqProofs only[c61,r61,go_sem,h0];exact Fini.ret rfl
 |true =>
 cases h1:(y0==0) with
 |false =>
  simp -implicitDefEqProofs only[c61,r61,go_sem,h0,h1];exact Fini.ret rfl
 |true =>
 simp -implicitDefEqProofs only[c61,r61,go_sem,h0,h1];refine CO.intro b2 ?_
 cases h2:noRl ⟨src,u0,ra,rl,rh,eq⟩ with
 |false =>
  simp -implicitDefEqProofs only[go_sem];exact Fini.ret rfl
 |true =>
 cases h3:(((ls.length:Nat):Int)==0) with
 |false =>
  simp -implicitDefEqProofs only[go_sem,h3];exact Fini.ret rfl
 |true =>
 simp -implicitDefEqProofs only[go_sem,h3];refine CO.intro b3 ?_
 cases h4:zF val with
 |false =>
  simp -implicitDefEqProofs only[go_sem];exact Fini.ret rfl
 |true =>
 simp -implicitDefEqProofs only[go_sem];exact Fini.ret rfl
theorem z8K (r:ReM):Ans Tryd.prog 62 [reV r,I 117] σ (Bo (z0Z r 117)) σ:=by
 obtain⟨tok,op,id,q0,st,en,u0,mt,any,lo,hi,⟨src,y0,ra,rl,rh,eq⟩,ls,val⟩:=r;have b0:=z24 σ q0;have b1:=z0U σ mt;have b2:=z1h σ any lo hi;have b3:=z1l σ ⟨src,y0,ra,rl,rh,eq⟩;have b4:=z1m σ ls;unfold ruV at b3;refine Ans.of_run t62 ?_;unfold reV reC z0Z idR staR clkB;simp only[zaI,Bool.not_true,Bool.not_false,Bool.true_or,Bool.false_or,Bool.true_and,Bool.and_assoc]
 cases h0:decide (0≤id) with
 |false =>
  simp -implicitDefEqProofs only[c62,r62,go_sem,h0];exact Fini.ret rfl
 |true =>
 cases h1:decide (id≤2147483647) with
 |false =>
  simp -implicitDefEqProofs only[c62,r62,go_sem,h0,h1];exact Fini.ret rfl
 |true =>
 cases h2:decide (((st:Nat):Int)≤1099511627776) with
 |false =>
  simp -implicitDefEqProofs only[c62,r62,go_sem,h0,h1,h2];exact Fini.ret rfl
 |true =>
 cases h3:decide (((en:Nat):Int)≤1099511627776) with
 |false =>
  simp -implicitDefEqProofs only[c62,r62,go_sem,h0,h1,h2,h3];exact Fini.ret rfl
 |true =>
 cases h4:decide (0≤u0) with
 |false =>
  simp -implicitDefEqProofs only[c62,r62,go_sem,h0,h1,h2,h3,h4];exact Fini.ret rfl
 |true =>
 cases h5:decide (u0≤3) with
 |false =>
  simp -implicitDefEqProofs only[c62,r62,go_sem,h0,h1,h2,h3,h4,h5];exact Fini.ret rfl
 |true =>
 simp -implicitDefEqProofs only[c62,r62,go_sem,h0,h1,h2,h3,h4,h5];refine CO.intro b1 ?_
 cases h6:listB mt with
 |false =>
  simp -implicitDefEqProofs only[go_sem,];exact Fini.ret rfl
 |true =>
 have hl:=zaG mt.length
 cases h7:(!emI mt.length) with
 |false =>
  rw[h7]at hl;simp -implicitDefEqProofs only[go_sem,hl];exact Fini.ret rfl
 |true =>
 rw[h7]at hl;simp -implicitDefEqProofs only[go_sem,hl];refine CO.intro b2 ?_
 cases h8:mayB any lo hi with
 |false =>
  simp -implicitDefEqProofs only[go_sem,];exact Fini.ret rfl
 |true =>
 simp -implicitDefEqProofs only[go_sem];exact Fini.ret rfl
end
section
variable (σ:St)
theorem zcx (r:ReM):Ans Tryd.prog 61 [reV r,I 8] σ (Bo (zeroB r 8)) σ:=by
 obtain⟨tok,op,id,y0,st,en,sta,mt,any,lo,hi,⟨src,u0,ra,rl,rh,eq⟩,ls,val⟩:=r;have b1:=z0G σ (any,lo,hi);have b2:=z0P σ ⟨src,u0,ra,rl,rh,eq⟩;have b3:=z0C σ val;unfold bandV at b1;unfold ruV at b2;refine Ans.of_run t61 ?_;unfold reV reC zeroB;simp only[hs_8,Bool.true_or,Bool.false_or,Bool.true_and];unfold emS;unfold emU;unfold emI
 cases h0:(id==0) with
 |false =>
  simp -implicitDefEqProofs only[c61,r61,go_sem,h0];exact Fini.ret rfl
 |true =>
 cases h1:(y0.toList==(⟨#[]⟩:ByteArray).toList) with
 |false =>
  simp -implicitDefEqProofs only[c61,r61,go_sem,h0,h1];exact Fini.ret rfl
 |true =>
 cases h2:(((st:Nat):Int)==0) with
 |false =>
  simp -implicitDefEqProofs only[c61,r61,go_sem,h0,h1,h2];exact Fini.ret rfl
 |true =>
 cases h3:(((en:Nat):Int)==0) with
 |false =>
  simp -implicitDefEqProofs only[c61,r61,go_sem,h0,h1,h2,h3];exact Fini.ret rfl
 |true =>
 cases h4:(((mt.length:Nat):Int)==0) with
 |false =>
  simp -implicitDefEqProofs only[c61,r61,go_sem,h0,h1,h2,h3,h4];exact Fini.ret rfl
 |true =>
 simp -implicitDefEqProofs only[c61,r61,go_sem,h0,h1,h2,h3,h4];refine CO.intro b1 ?_
 cases h5:noBd (any,lo,hi) with
 |false =>
  simp -implicitDefEqProofs only[go_sem];exact Fini.ret rfl
 |true =>
 simp -implicitDefEqProofs only[go_sem];refine CO.intro b2 ?_
 cases h6:noRl ⟨src,u0,ra,rl,rh,eq⟩ with
 |false =>
  simp -implicitDefEqProofs only[go_sem];exact Fini.ret rfl
 |true =>
 cases h7:(((ls.length:Nat):Int)==0) with
 |false =>
  simp -implicitDefEqProofs only[go_sem,h7];exact Fini.ret rfl
 |true =>
 simp -implicitDefEqProofs only[go_sem,h7];refine CO.intro b3 ?_
 cases h8:zF val with
 |false =>
  simp -implicitDefEqProofs only[go_sem];exact Fini.ret rfl
 |true =>
 simp -implicitDefEqProofs only[go_sem];exact Fini.ret rfl
theorem zbx (r:ReM):Ans Tryd.prog 62 [reV r,I 8] σ (Bo (z0Z r 8)) σ:=by
 obtain⟨tok,op,id,q0,st,en,u0,mt,any,lo,hi,⟨src,y0,ra,rl,rh,eq⟩,ls,val⟩:=r;have b0:=z24 σ q0;have b1:=z0U σ mt;have b2:=z1h σ any lo hi;have b3:=z1l σ ⟨src,y0,ra,rl,rh,eq⟩;have b4:=z1m σ ls;unfold ruV at b3;refine Ans.of_run t62 ?_;unfold reV reC z0Z idR staR clkB;simp only[hs_8,Bool.not_true,Bool.not_false,Bool.true_or,Bool.false_or,Bool.true_and,Bool.and_assoc]
 cases h0:decide (0≤id) with
 |false =>
  simp -implicitDefEqProofs only[c62,r62,go_sem,h0];exact Fini.ret rfl
 |true =>
 cases h1:decide (id≤2147483647) with
 |false =>
  simp -implicitDefEqProofs only[c62,r62,go_sem,h0,h1];exact Fini.ret rfl
 |true =>
 cases h2:decide (((st:Nat):Int)≤1099511627776) with
 |false =>
  simp -implicitDefEqProofs only[c62,r62,go_sem,h0,h1,h2];exact Fini.ret rfl
 |true =>
 cases h3:decide (((en:Nat):Int)≤1099511627776) with
 |false =>
  simp -implicitDefEqProofs only[c62,r62,go_sem,h0,h1,h2,h3];exact Fini.ret rfl
 |true =>
 cases h4:decide (0≤u0) with
 |false =>
  simp -implicitDefEqProofs only[c62,r62,go_sem,h0,h1,h2,h3,h4];exact Fini.ret rfl
 |true =>
 cases h5:decide (u0≤3) with
 |false =>
  simp -implicitDefEqProofs only[c62,r62,go_sem,h0,h1,h2,h3,h4,h5];exact Fini.ret rfl
 |true =>
 simp -implicitDefEqProofs only[c62,r62,go_sem,h0,h1,h2,h3,h4,h5];refine CO.intro b1 ?_
 cases h6:listB mt with
 |false =>
  simp -implicitDefEqProofs only[go_sem,];exact Fini.ret rfl
 |true =>
 simp -implicitDefEqProofs only[go_sem];exact Fini.ret rfl
theorem z9U (r:ReM):Ans Tryd.prog 61 [reV r,I 128] σ (Bo (zeroB r 128)) σ:=by
 obtain⟨tok,op,id,q0,st,en,u0,mt,any,lo,hi,⟨src,y0,ra,rl,rh,eq⟩,ls,val⟩:=r;have b1:=z0G σ (any,lo,hi);have b2:=z0P σ ⟨src,y0,ra,rl,rh,eq⟩;have b3:=z0C σ val;unfold bandV at b1;unfold ruV at b2;refine Ans.of_run t61 ?_;unfold reV reC zeroB;simp only[zaJ,Bool.true_or,Bool.false_or,Bool.true_and];unfold emS;unfold emU;unfold emI
 cases h0:(id==0) with
 |false =>
  simp -implicitDefEqProofs only[c61,r61,go_sem,h0];exact Fini.ret rfl
 |true =>
 cases h1:(q0.toList==(⟨#[]⟩:ByteArray).toList) with
 |false =>
  simp -implicitDefEqProofs only[c61,r61,go_sem,h0,h1];exact Fini.ret rfl
 |true =>
 cases h2:(((st:Nat):Int)==0) with
 |false =>
  simp -implicitDefEqProofs only[c61,r61,go_sem,h0,h1,h2];exact Fini.ret rfl
 |true =>
 cases h3:(((en:Nat):Int)==0) with
 |false =>
  simp -implicitDefEqProofs only[c61,r61,go_sem,h0,h1,h2,h3];exact Fini.ret rfl
 |true =>
 cases h4:(u0==0) with
 |false =>
  simp -implicitDefEqProofs only[c61,r61,go_sem,h0,h1,h2,h3,h4];exact Fini.ret rfl
 |true =>
 cases h5:(((mt.length:Nat):Int)==0) with
 |false =>
  simp -implicitDefEqProofs only[c61,r61,go_sem,h0,h1,h2,h3,h4,h5];exact Fini.ret rfl
 |true =>
 simp -implicitDefEqProofs only[c61,r61,go_sem,h0,h1,h2,h3,h4,h5];refine CO.intro b1 ?_
 cases h6:noBd (any,lo,hi) with
 |false =>
  simp -implicitDefEqProofs only[go_sem];exact Fini.ret rfl
 |true =>
 cases h7:(((ls.length:Nat):Int)==0) with
 |false =>
  simp -implicitDefEqProofs only[go_sem,h7];exact Fini.ret rfl
 |true =>
 simp -implicitDefEqProofs only[go_sem,h7];refine CO.intro b3 ?_
 cases h8:zF val with
 |false =>
  simp -implicitDefEqProofs only[go_sem];exact Fini.ret rfl
 |true =>
 simp -implicitDefEqProofs only[go_sem];exact Fini.ret rfl
theorem z8L (r:ReM):Ans Tryd.prog 62 [reV r,I 128] σ (Bo (z0Z r 128)) σ:=by
 obtain⟨tok,op,id,q0,st,en,u0,mt,any,lo,hi,⟨src,y0,ra,rl,rh,eq⟩,ls,val⟩:=r;have b0:=z24 σ q0;have b1:=z0U σ mt;have b2:=z1h σ any lo hi;have b3:=z1l σ ⟨src,y0,ra,rl,rh,eq⟩;have b4:=z1m σ ls;unfold ruV at b3;refine Ans.of_run t62 ?_;unfold reV reC z0Z idR staR clkB;simp only[zaJ,Bool.not_true,Bool.not_false,Bool.true_or,Bool.false_or,Bool.true_and,Bool.and_assoc]
 cases h0:decide (0≤id) with
 |false =>
  simp -implicitDefEqProofs only[c62,r62,go_sem,h0];exact Fini.ret rfl
 |true =>
 cases h1:decide (id≤2147483647) with
 |false =>
  simp -implicitDefEqProofs only[c62,r62,go_sem,h0,h1];exact Fini.ret rfl
 |true =>
 cases h2:decide (((st:Nat):Int)≤1099511627776) with
 |false =>
  simp -implicitDefEqProofs only[c62,r62,go_sem,h0,h1,h2];exact Fini.ret rfl
 |true =>
 cases h3:decide (((en:Nat):Int)≤1099511627776) with
 |false =>
  simp -implicitDefEqProofs only[c62,r62,go_sem,h0,h1,h2,h3];exact Fini.ret rfl
 |true =>
 cases h4:decide (0≤u0) with
 |false =>
  simp -implicitDefEqProofs only[c62,r62,go_sem,h0,h1,h2,h3,h4];exact Fini.ret rfl
 |true =>
 cases h5:decide (u0≤3) with
 |false =>
  simp -implicitDefEqProofs only[c62,r62,go_sem,h0,h1,h2,h3,h4,h5];exact Fini.ret rfl
 |true =>
 simp -implicitDefEqProofs only[c62,r62,go_sem,h0,h1,h2,h3,h4,h5];refine CO.intro b1 ?_
 cases h6:listB mt with
 |false =>
  simp -implicitDefEqProofs only[go_sem,];exact Fini.ret rfl
 |true =>
 simp -implicitDefEqProofs only[go_sem];refine CO.intro b3 ?_
 cases h7:ruIs ⟨src,y0,ra,rl,rh,eq⟩ with
 |false =>
  simp -implicitDefEqProofs only[go_sem,];exact Fini.ret rfl
 |true =>
 simp -implicitDefEqProofs only[go_sem];exact Fini.ret rfl
end
section
variable (σ:St)
theorem z9V (r:ReM):Ans Tryd.prog 61 [reV r,I 768] σ (Bo (zeroB r 768)) σ:=by
 obtain⟨tok,op,id,q0,st,en,y0,mt,any,lo,hi,⟨src,u0,ra,rl,rh,eq⟩,ls,val⟩:=r;have b1:=z0G σ (any,lo,hi);have b2:=z0P σ ⟨src,u0,ra,rl,rh,eq⟩;have b3:=z0C σ val;unfold bandV at b1;unfold ruV at b2;refine Ans.of_run t61 ?_;unfold reV reC zeroB;simp only[zaK,Bool.true_or,Bool.false_or,Bool.true_and];unfold emS;unfold emU;unfold emI
 cases h0:(id==0) with
 |false =>
  simp -implicitDefEqProofs only[c61,r61,go_sem,h0];exact Fini.ret rfl
 |true =>
 cases h1:(q0.toList==(⟨#[]⟩:ByteArray).toList) with
 |false =>
  simp -implicitDefEqProofs only[c61,r61,go_sem,h0,h1];exact Fini.ret rfl
 |true =>
 cases h2:(((st:Nat):Int)==0) with
 |false =>
  simp -implicitDefEqProofs only[c61,r61,go_sem,h0,h1,h2];exact Fini.ret rfl
 |true =>
 cases h3:(((en:Nat):Int)==0) with
 |false =>
  simp -implicitDefEqProofs only[c61,r61,go_sem,h0,h1,h2,h3];exact Fini.ret rfl
 |true =>
 cases h4:(y0==0) with
 |false =>
  simp -implicitDefEqProofs only[c61,r61,go_sem,h0,h1,h2,h3,h4];exact Fini.ret rfl
 |true =>
 cases h5:(((mt.length:Nat):Int)==0) with
 |false =>
  simp -implicitDefEqProofs only[c61,r61,go_sem,h0,h1,h2,h3,h4,h5];exact Fini.ret rfl
 |true =>
 simp -implicitDefEqProofs only[c61,r61,go_sem,h0,h1,h2,h3,h4,h5];refine CO.intro b1 ?_
 cases h6:noBd (any,lo,hi) with
 |false =>
  simp -implicitDefEqProofs only[go_sem];exact Fini.ret rfl
 |true =>
 simp -implicitDefEqProofs only[go_sem];refine CO.intro b2 ?_
 cases h7:noRl ⟨src,u0,ra,rl,rh,eq⟩ with
 |false =>
  simp -implicitDefEqProofs only[go_sem];exact Fini.ret rfl
 |true =>
 simp -implicitDefEqProofs only[go_sem];exact Fini.ret rfl
theorem z8M (r:ReM):Ans Tryd.prog 62 [reV r,I 768] σ (Bo (z0Z r 768)) σ:=by
 obtain⟨tok,op,id,q0,st,en,u0,mt,any,lo,hi,⟨src,y0,ra,rl,rh,eq⟩,ls,val⟩:=r;have b0:=z24 σ q0;have b1:=z0U σ mt;have b2:=z1h σ any lo hi;have b3:=z1l σ ⟨src,y0,ra,rl,rh,eq⟩;have b4:=z1m σ ls;unfold ruV at b3;refine Ans.of_run t62 ?_;unfold reV reC z0Z idR staR clkB;simp only[zaK,Bool.not_true,Bool.not_false,Bool.true_or,Bool.false_or,Bool.true_and,Bool.and_assoc]
 cases h0:decide (0≤id) with
 |false =>
  simp -implicitDefEqProofs only[c62,r62,go_sem,h0];exact Fini.ret rfl
 |true =>
 cases h1:decide (id≤2147483647) with
 |false =>
  simp -implicitDefEqProofs only[c62,r62,go_sem,h0,h1];exact Fini.ret rfl
 |true =>
 cases h2:decide (((st:Nat):Int)≤1099511627776) with
 |false =>
  simp -implicitDefEqProofs only[c62,r62,go_sem,h0,h1,h2];exact Fini.ret rfl
 |true =>
 cases h3:decide (((en:Nat):Int)≤1099511627776) with
 |false =>
  simp -implicitDefEqProofs only[c62,r62,go_sem,h0,h1,h2,h3];exact Fini.ret rfl
 |true =>
 cases h4:decide (0≤u0) with
 |false =>
  simp -implicitDefEqProofs only[c62,r62,go_sem,h0,h1,h2,h3,h4];exact Fini.ret rfl
 |true =>
 cases h5:decide (u0≤3) with
 |false =>
  simp -implicitDefEqProofs only[c62,r62,go_sem,h0,h1,h2,h3,h4,h5];exact Fini.ret rfl
 |true =>
 simp -implicitDefEqProofs only[c62,r62,go_sem,h0,h1,h2,h3,h4,h5];refine CO.intro b1 ?_
 cases h6:listB mt with
 |false =>
  simp -implicitDefEqProofs only[go_sem,];exact Fini.ret rfl
 |true =>
 simp -implicitDefEqProofs only[go_sem];refine CO.intro b4 ?_
 cases h7:setB ls with
 |false =>
  simp -implicitDefEqProofs only[go_sem,];exact Fini.ret rfl
 |true =>
 simp -implicitDefEqProofs only[go_sem];exact Fini.ret rfl
theorem zby (r:ReM):Ans Tryd.prog 61 [reV r,I 16] σ (Bo (zeroB r 16)) σ:=by
 obtain⟨tok,op,id,q0,st,en,y0,mt,any,lo,hi,⟨src,u0,ra,rl,rh,eq⟩,ls,val⟩:=r;have b1:=z0G σ (any,lo,hi);have b2:=z0P σ ⟨src,u0,ra,rl,rh,eq⟩;have b3:=z0C σ val;unfold bandV at b1;unfold ruV at b2;refine Ans.of_run t61 ?_;unfold reV reC zeroB;simp only[hs_16,Bool.true_or,Bool.false_or,Bool.true_and];unfold emS;unfold emU;unfold emI
 cases h0:(id==0) with
 |false =>
  simp -implicitDefEqProofs only[c61,r61,go_sem,h0];exact Fini.ret rfl
 |true =>
 cases h1:(q0.toList==(⟨#[]⟩:ByteArray).toList) with
 |false =>
  simp -implicitDefEqProofs only[c61,r61,go_sem,h0,h1];exact Fini.ret rfl
 |true =>
 cases h2:(((st:Nat):Int)==0) with
 |false =>
  simp -implicitDefEqProofs only[c61,r61,go_sem,h0,h1,h2];exact Fini.ret rfl
 |true =>
 cases h3:(((en:Nat):Int)==0) with
 |false =>
  simp -implicitDefEqProofs only[c61,r61,go_sem,h0,h1,h2,h3];exact Fini.ret rfl
 |true =>
 cases h4:(y0==0) with
 |false =>
  simp -implicitDefEqProofs only[c61,r61,go_sem,h0,h1,h2,h3,h4];exact Fini.ret rfl
 |true =>
 simp -implicitDefEqProofs only[c61,r61,go_sem,h0,h1,h2,h3,h4];refine CO.intro b1 ?_
 cases h5:noBd (any,lo,hi) with
 |false =>
  simp -implicitDefEqProofs only[go_sem];exact Fini.ret rfl
 |true =>
 simp -implicitDefEqProofs only[go_sem];refine CO.intro b2 ?_
 cases h6:noRl ⟨src,u0,ra,rl,rh,eq⟩ with
 |false =>
  simp -implicitDefEqProofs only[go_sem];exact Fini.ret rfl
 |true =>
 cases h7:(((ls.length:Nat):Int)==0) with
 |false =>
  simp -implicitDefEqProofs only[go_sem,h7];exact Fini.ret rfl
 |true =>
 simp -implicitDefEqProofs only[go_sem,h7];refine CO.intro b3 ?_
 cases h8:zF val with
 |false =>
  simp -implicitDefEqProofs only[go_sem];exact Fini.ret rfl
 |true =>
 simp -implicitDefEqProofs only[go_sem];exact Fini.ret rfl
theorem z9W (r:ReM):Ans Tryd.prog 62 [reV r,I 16] σ (Bo (z0Z r 16)) σ:=by
 obtain⟨tok,op,id,q0,st,en,u0,mt,any,lo,hi,⟨src,y0,ra,rl,rh,eq⟩,ls,val⟩:=r;have b0:=z24 σ q0;have b1:=z0U σ mt;have b2:=z1h σ any lo hi;have b3:=z1l σ ⟨src,y0,ra,rl,rh,eq⟩;have b4:=z1m σ ls;unfold ruV at b3;refine Ans.of_run t62 ?_;unfold reV reC z0Z idR staR clkB;simp only[hs_16,Bool.not_true,Bool.not_false,Bool.true_or,Bool.false_or,Bool.true_and,Bool.and_assoc]
 cases h0:decide (0≤id) with
 |false =>
  simp -implicitDefEqProofs only[c62,r62,go_sem,h0];exact Fini.ret rfl
 |true =>
 cases h1:decide (id≤2147483647) with
 |false =>
  simp -implicitDefEqProofs only[c62,r62,go_sem,h0,h1];exact Fini.ret rfl
 |true =>
 cases h2:decide (((st:Nat):Int)≤1099511627776) with
 |false =>
  simp -implicitDefEqProofs only[c62,r62,go_sem,h0,h1,h2];exact Fini.ret rfl
 |true =>
 cases h3:decide (((en:Nat):Int)≤1099511627776) with
 |false =>
  simp -implicitDefEqProofs only[c62,r62,go_sem,h0,h1,h2,h3];exact Fini.ret rfl
 |true =>
 cases h4:decide (0≤u0) with
 |false =>
  simp -implicitDefEqProofs only[c62,r62,go_sem,h0,h1,h2,h3,h4];exact Fini.ret rfl
 |true =>
 cases h5:decide (u0≤3) with
 |false =>
  simp -implicitDefEqProofs only[c62,r62,go_sem,h0,h1,h2,h3,h4,h5];exact Fini.ret rfl
 |true =>
 simp -implicitDefEqProofs only[c62,r62,go_sem,h0,h1,h2,h3,h4,h5];refine CO.intro b1 ?_
 cases h6:listB mt with
 |false =>
  simp -implicitDefEqProofs only[go_sem,];exact Fini.ret rfl
 |true =>
 simp -implicitDefEqProofs only[go_sem];exact Fini.ret rfl
end
section
variable (σ:St)
theorem z8N (r:ReM) (op:Int):Ans Tryd.prog 61 [reV r,I (fOf op).1] σ (Bo (zeroB r (fOf op).1)) σ:=by
 have h:=z6j op;generalize (fOf op).1=f at h;simp only[List.mem_cons,List.not_mem_nil,or_false]at h;rcases h with rfl|rfl|rfl|rfl|rfl|rfl|rfl|rfl|rfl
 · exact zcu σ r
 · exact zcv σ r
 · exact zcw σ r
 · exact z9S σ r
 · exact z9T σ r
 · exact zcx σ r
 · exact z9U σ r
 · exact z9V σ r
 · exact zby σ r
theorem z7A (r:ReM) (op:Int):Ans Tryd.prog 62 [reV r,I (fOf op).1] σ (Bo (z0Z r (fOf op).1)) σ:=by
 have h:=z6j op;generalize (fOf op).1=f at h;simp only[List.mem_cons,List.not_mem_nil,or_false]at h;rcases h with rfl|rfl|rfl|rfl|rfl|rfl|rfl|rfl|rfl
 · exact zbu σ r
 · exact zbv σ r
 · exact zbw σ r
 · exact z8J σ r
 · exact z8K σ r
 · exact zbx σ r
 · exact z8L σ r
 · exact z8M σ r
 · exact z9W σ r
theorem z1u (r:ReM):Ans Tryd.prog 52 [reV r] σ (Bo (mayR r)) σ:=by
 have h1:=z0F σ r.op;have h2:=z8N σ r r.op;have h3:=z7A σ r r.op;refine Ans.of_run t52 ?_;unfold mayR;unfold reV reC at *;simp -implicitDefEqProofs only[c52,r52,go_sem];refine CO.intro h1 ?_
 cases(fOf r.op).2 with
 |false =>
  simp -implicitDefEqProofs only[go_sem];exact Fini.ret rfl
 |true =>
  simp -implicitDefEqProofs only[go_sem];refine CO.intro h2 ?_
  cases zeroB r (fOf r.op).1 with
  |false =>
   simp -implicitDefEqProofs only[go_sem];exact Fini.ret rfl
  |true =>
   simp -implicitDefEqProofs only[go_sem];refine CO.intro h3 ?_;simp -implicitDefEqProofs only[go_sem];exact Fini.ret rfl
end
def x0 (op:Int):ReM:=⟨⟨#[]⟩,op,0,⟨#[]⟩,0,0,0,[],false,0,0,noRu,[],0⟩
def mk116 (op:Int) (p:Nat×Nat×List Mtr×Bnd):ReM:={ x0 op with st:=p.1,en:=p.2.1,mt:=p.2.2.1,any:=p.2.2.2.1,lo:=p.2.2.2.2.1,hi:=p.2.2.2.2.2 }
def mk117 (op:Int) (p:Nat×Nat×Nat×List Mtr×Bnd):ReM:={ mk116 op p.2 with id:=(p.1:Nat) }
def clR (f op:Int):Rd ReM :=
 if f=1 then z0W (numR 2147483647) fun n=>{ x0 op with id:=(n:Nat) }
 else if f=3 then z0W (seqR (numR 2147483647) (textR 16)) fun p=>{ x0 op with id:=(p.1:Nat),txt:=p.2 }
 else if f=116 then z0W (seqR (numR 1099511627776) (seqR (numR 1099511627776) (seqR listR bandR))) (mk116 op)
 else if f=117 then z0W (seqR (numR 2147483647) (seqR (numR 1099511627776) (seqR (numR 1099511627776) (seqR listR bandR)))) (mk117 op)
 else if f=8 then z0W byteR fun c=>{ x0 op with sta:=(c.toNat:Nat) }
 else if f=128 then z0W ruR fun r=>{ x0 op with ru:=r }
 else if f=768 then z0W (seqR setR valR) fun p=>{ x0 op with ls:=p.1,val:=p.2 }
 else if f=16 then z0W listR fun M=>{ x0 op with mt:=M }
 else fun b=>some (x0 op,b)
def clS (f op:Int) (b:Byt):Nat×Bool→ReM×(Nat×Bool) :=
 if f=1 then z19 (runR (numR 2147483647) 0 b) fun n=>{ x0 op with id:=(n:Nat) }
 else if f=3 then z19 (seqSt (runR (numR 2147483647) 0 b) (runR (textR 16) ⟨#[]⟩ b)) fun p=>{ x0 op with id:=(p.1:Nat),txt:=p.2 }
 else if f=116 then z19 (seqSt (runR (numR 1099511627776) 0 b) (seqSt (runR (numR 1099511627776) 0 b) (seqSt (runR listR [] b) (runR bandR (false,0,0) b)))) (mk116 op)
 else if f=117 then z19 (seqSt (runR (numR 2147483647) 0 b) (seqSt (runR (numR 1099511627776) 0 b) (seqSt (runR (numR 1099511627776) 0 b) (seqSt (runR listR [] b) (runR bandR (false,0,0) b))))) (mk117 op)
 else if f=8 then z19 (runR byteR 0 b) fun c=>{ x0 op with sta:=(c.toNat:Nat) }
 else if f=128 then z19 (runR ruR noRu b) fun r=>{ x0 op with ru:=r }
 else if f=768 then z19 (seqSt (runR setR [] b) (valS b)) fun p=>{ x0 op with ls:=p.1,val:=p.2 }
 else if f=16 then z19 (runR listR [] b) fun M=>{ x0 op with mt:=M }
 else fun q=>(x0 op,q)
theorem z7B {α:Type} (b:Byt) (x:α):StepsR b (fun b=>some (x,b)) (fun q=>(x,q)) where
 some_ a y t ha hr:=by
  simp only[Option.some.injEq,Prod.mk.injEq]at hr;obtain⟨rfl,rfl⟩:=hr;simp only[List.length_drop,Prod.mk.injEq,true_and];exact⟨by omega,trivial⟩
 none_ a ha hr:=by cases hr
 bad a:=rfl
 inb q hq:=hq
theorem z8O {α:Type} (x:α):EndsR (fun b=>some (x,b)):=fun b y t h=>by
 simp only[Option.some.injEq,Prod.mk.injEq]at h;exact⟨[],by rw[h.2];rfl⟩
theorem z2t (f op:Int) (b:Byt):StepsR b (clR f op) (clS f op b):=by
 unfold clR clS
 repeat' split
 · exact z0q (z0a _ _ _) _
 · exact z0q (z0i (z0a _ _ _) (z0a _ _ _) (ends_num _)) _
 · exact z0q (z0i (z0a _ _ _) (z0i (z0a _ _ _) (z0i (z0a _ _ _) (z0a _ _ _) ends_list) (ends_num _)) (ends_num _)) _
 · exact z0q (z0i (z0a _ _ _) (z0i (z0a _ _ _) (z0i (z0a _ _ _) (z0i (z0a _ _ _) (z0a _ _ _) ends_list) (ends_num _)) (ends_num _)) (ends_num _)) _
 · exact z0q (z0a _ _ _) _
 · exact z0q (z0a _ _ _) _
 · exact z0q (z0i (z0a _ _ _) (z0j b) ends_set) _
 · exact z0q (z0a _ _ _) _
 · exact z7B b _
theorem zbz (f op:Int):EndsR (clR f op):=by
 unfold clR
 repeat' split
 · exact z0E (ends_num _) _
 · exact z0E (z0J (ends_num _) (z1a _)) _
 · exact z0E (z0J (ends_num _) (z0J (ends_num _) (z0J ends_list ends_band))) _
 · exact z0E (z0J (ends_num _) (z0J (ends_num _) (z0J (ends_num _) (z0J ends_list ends_band)))) _
 · exact z0E ends_byte _
 · exact z0E ends_ru _
 · exact z0E (z0J ends_set z4Y) _
 · exact z0E ends_list _
 · exact z8O _
def bodyR:Rd ReM
 |[]=>none
 |c::t=>onlyR (clR (fOf (c.toNat:Int)).1 (c.toNat:Int)) mayR t
def bodyS (b:Byt) (q:Nat×Bool):ReM×(Nat×Bool) :=
 z0m (fun q1=>clS (fOf ((runR byteR 0 b q).1.toNat:Int)).1 ((runR byteR 0 b q).1.toNat:Int) b (took q1 0 (fOf ((runR byteR 0 b q).1.toNat:Int)).2)) mayR (runR byteR 0 b q).2
theorem z5H (q:Nat×Bool):took q 0 true=q:=by
 obtain⟨a,b⟩:=q;cases b<;>rfl
theorem z8P:EndsR bodyR:=fun b x t h=>by
 cases b with
 |nil=>cases h
 |cons c u =>
  obtain⟨w,hw⟩:=z5o (zbz _ _) mayR _ _ _ h;exact⟨c::w,by rw[hw];rfl⟩
theorem zbA {x:ReM} (h:mayR x=true):(fOf x.op).2=true:=by
 unfold mayR at h;simp only[Bool.and_eq_true]at h;exact h.1
theorem zcy {f op:Int} {b:Byt} {x:ReM} {t:Byt} (h:clR f op b=some (x,t)):x.op=op:=by
 unfold clR at h
 repeat' split at h
 all_goals first
  |(simp only[Option.some.injEq,Prod.mk.injEq]at h;rw[←h.1];rfl)
  |(simp only[z0W,Option.map_eq_some_iff]at h;obtain⟨p,_,hp⟩:=h;simp only[Prod.mk.injEq]at hp;rw[←hp.1];rfl)
theorem z7C (b:Byt):StepsR b bodyR (bodyS b) where
 some_ a x t ha hr:=by
  cases hd:b.drop a with
  |nil=>rw[hd]at hr;cases hr
  |cons c u =>
   have h1:byteR (b.drop a)=some (c,u):=by rw[hd];rfl
   obtain⟨e1,e2,e3⟩:=ends_byte.drop ha h1;rw[hd]at hr;have hr:onlyR (clR (fOf (c.toNat:Int)).1 (c.toNat:Int)) mayR u=some (x,t):=hr
   have u0:(fOf (c.toNat:Int)).2=true:=by
    simp only[onlyR]at hr
    cases h3:clR (fOf (c.toNat:Int)).1 (c.toNat:Int) u with
    |none=>simp[h3]at hr
    |some y =>
     simp only[h3,Option.bind_some]at hr;split at hr
     · rename_i hm;rw[←zcy h3];exact zbA hm
     · cases hr
   unfold bodyS;simp only[z0k h1,u0,z5H];exact(z0A (z2t _ _ b) mayR).some_ (b.length-u.length) x t (by omega) (by rw[e1];exact hr)
 none_ a ha hr:=by
  cases hd:b.drop a with
  |nil =>
   have h1:byteR (b.drop a)=none:=by rw[hd];rfl
   unfold bodyS;simp only[z0p h1];exact z20 (z0A (z2t _ _ b) mayR).bad _ (by cases(fOf (((0:UInt8).toNat:Nat):Int)).2<;>rfl)
  |cons c u =>
   have h1:byteR (b.drop a)=some (c,u):=by rw[hd];rfl
   obtain⟨e1,e2,e3⟩:=ends_byte.drop ha h1;rw[hd]at hr;have hr:onlyR (clR (fOf (c.toNat:Int)).1 (c.toNat:Int)) mayR u=none:=hr;unfold bodyS;simp only[z0k h1]
   cases u0:(fOf (c.toNat:Int)).2 with
   |true =>
    simp only[z5H];exact(z0A (z2t _ _ b) mayR).none_ (b.length-u.length) (by omega) (by rw[e1];exact hr)
   |false=>exact z20 (z0A (z2t _ _ b) mayR).bad _ rfl
 bad a:=by
  unfold bodyS;simp only[z0l];exact z20 (z0A (z2t _ _ b) mayR).bad _ (by cases(fOf (((0:UInt8).toNat:Nat):Int)).2<;>rfl)
 inb q hq:=by
  have h1:=z09 byteR 0 b q hq;unfold bodyS;exact(z0A (z2t _ _ b) mayR).inb _ (z0I b _ _ h1)
abbrev XC0 (c:UInt8):List AV:=[Sx ⟨#[]⟩,I (c.toNat:Nat),I 0,Sx ⟨#[]⟩,UN 0,UN 0,I 0,.nils,Bo false,Fl 0,Fl 0,.nils,.nils,Bo false,Fl 0,Fl 0,.nils,.nils,Fl 0]
abbrev XC1 (c:UInt8) (a2:AV):List AV:=[Sx ⟨#[]⟩,I (c.toNat:Nat),a2,Sx ⟨#[]⟩,UN 0,UN 0,I 0,.nils,Bo false,Fl 0,Fl 0,.nils,.nils,Bo false,Fl 0,Fl 0,.nils,.nils,Fl 0]
abbrev XC3 (c:UInt8) (a2 a3:AV):List AV:=[Sx ⟨#[]⟩,I (c.toNat:Nat),a2,a3,UN 0,UN 0,I 0,.nils,Bo false,Fl 0,Fl 0,.nils,.nils,Bo false,Fl 0,Fl 0,.nils,.nils,Fl 0]
abbrev XC116 (c:UInt8) (a4 a5 a7 a8 a9 a10:AV):List AV:=[Sx ⟨#[]⟩,I (c.toNat:Nat),I 0,Sx ⟨#[]⟩,a4,a5,I 0,a7,a8,a9,a10,.nils,.nils,Bo false,Fl 0,Fl 0,.nils,.nils,Fl 0]
abbrev XC117 (c:UInt8) (a2 a4 a5 a7 a8 a9 a10:AV):List AV:=[Sx ⟨#[]⟩,I (c.toNat:Nat),a2,Sx ⟨#[]⟩,a4,a5,I 0,a7,a8,a9,a10,.nils,.nils,Bo false,Fl 0,Fl 0,.nils,.nils,Fl 0]
abbrev XC8 (c:UInt8) (a6:AV):List AV:=[Sx ⟨#[]⟩,I (c.toNat:Nat),I 0,Sx ⟨#[]⟩,UN 0,UN 0,a6,.nils,Bo false,Fl 0,Fl 0,.nils,.nils,Bo false,Fl 0,Fl 0,.nils,.nils,Fl 0]
abbrev XC128 (c:UInt8) (a11 a12 a13 a14 a15 a16:AV):List AV:=[Sx ⟨#[]⟩,I (c.toNat:Nat),I 0,Sx ⟨#[]⟩,UN 0,UN 0,I 0,.nils,Bo false,Fl 0,Fl 0,a11,a12,a13,a14,a15,a16,.nils,Fl 0]
abbrev XC768 (c:UInt8) (a17 a18:AV):List AV:=[Sx ⟨#[]⟩,I (c.toNat:Nat),I 0,Sx ⟨#[]⟩,UN 0,UN 0,I 0,.nils,Bo false,Fl 0,Fl 0,.nils,.nils,Bo false,Fl 0,Fl 0,.nils,a17,a18]
abbrev XC16 (c:UInt8) (a7:AV):List AV:=[Sx ⟨#[]⟩,I (c.toNat:Nat),I 0,Sx ⟨#[]⟩,UN 0,UN 0,I 0,a7,Bo false,Fl 0,Fl 0,.nils,.nils,Bo false,Fl 0,Fl 0,.nils,.nils,Fl 0]
abbrev B19:Ob:=.box [Sx ⟨#[]⟩,I 0,I 0,Sx ⟨#[]⟩,UN 0,UN 0,I 0,.nils,Bo false,Fl 0,Fl 0,.nils,.nils,Bo false,Fl 0,Fl 0,.nils,.nils,Fl 0]
theorem ap4 {α:Type}:(∀a b c:List α,a++b++c=a++(b++c))∧(∀a b:List α,(a++b).length=a.length+b.length)∧(∀(x:α) a b,(x::a)++b=x::(a++b))∧∀a:List α,[]++a=a :=
 ⟨List.append_assoc,fun _ _=>List.length_append,fun _ _ _=>rfl,fun _=>rfl⟩
theorem rd_facts (A:Nat×Bool→St) (n p:Nat) (b:Byt) (hn:∀q,(A q).length=n) (hg:∀q,(A q)[p]?=some (rob b q)) (hs:∀q q',(A q).set p (rob b q')=A q') (q:Nat×Bool) :
  (∀q (ex:St),(A q++ex)[p]?=some (rob b q))∧(∀q q' (ex:St),(A q++ex).set p (rob b q')=A q'++ex) ∧
  (∀q (x:Ob) (ex:St),(A q++x::ex)[n]?=some x)∧(∀q (x y:Ob) (ex:St),(A q++x::y::ex)[n+1]?=some y) ∧
  (∀q (x u:Ob) (ex:St),(A q++x::ex).set n u=A q++u::ex)∧∀q (x y u:Ob) (ex:St),(A q++x::y::ex).set (n+1) u=A q++x::u::ex:=by
 have hp:p<n:=by have:=(List.getElem?_eq_some_iff.1 (hg q)).1;rw[hn]at this;exact this
 exact⟨fun q ex=>by rw[List.getElem?_append_left (by rw[hn];exact hp)];exact hg q,fun q q' ex=>by rw[List.set_append_left _ _ (by rw[hn];exact hp),hs],
  fun q x ex=>by rw[←hn q];exact g0 _ _ _,fun q x y ex=>by rw[←hn q];exact g1 _ _ _ _,
  fun q x u ex=>by rw[←hn q];exact s0 _ _ _ _,fun q x y u ex=>by rw[←hn q];exact s1 _ _ _ _ _⟩
theorem z25 (b:Byt) (q:Nat×Bool) {n:Nat}:∀c∈([.sl 1 (byv b),.pl (.int .i64 q.1),Bo q.2]:List AV),Bel n c:=by
 intro c hc;simp only[List.mem_cons,List.not_mem_nil,or_false]at hc;rcases hc with rfl|rfl|rfl
 · exact z1y _ _
 · exact .pl _
 · exact .pl _
section
variable (A:Nat×Bool→St) (n p:Nat) (b:Byt) (hn:∀q,(A q).length=n) (hg:∀q,(A q)[p]?=some (rob b q)) (hs:∀q q',(A q).set p (rob b q')=A q') (hb:b.length≤50000)
include hn hg hs hb
theorem zcz (q:Nat×Bool) (hq:Inb b q) (c:UInt8) (q1:Nat×Bool) (hc:runR byteR 0 b q=(c,q1)) (ok:Bool) (hf:fOf (c.toNat:Int)=(0,ok)) :
  Ans Tryd.prog 39 [.ptr p 0] (A q) (reV (bodyS b q).1) (A (bodyS b q).2):=by
 obtain⟨q0,y0,gs⟩:=rd_facts A n p b hn hg hs q;have k0:=z0B (A q++[B19]) p b q (q0 _ _) hq hb;have u0:=z09 byteR 0 b q hq
 have t0:bodyS b q=z0m (fun q1=>clS 0 (c.toNat:Int) b (took q1 0 ok)) mayR q1:=by
  unfold bodyS;rw[hc];simp only[hf]
 rw[hc]at k0 u0;rw[t0];simp only at k0 u0;rw[y0]at k0;have k1:=z0F (A q1++[B19,.box (XC0 c)]) (c.toNat:Int);rw[hf]at k1;have k2:=z08 (A q1++[B19,.box (XC0 c)]) p b q1 ok (q0 _ _) u0 hb;rw[y0]at k2;have j0:=z0I b q1 ok u0;unfold z0m;simp only;generalize took q1 0 ok=q2 at k2 j0⊢;have wc:IntKind.i64.wrap (c.toNat:Int)=(c.toNat:Int):=wrapI (by have:=c.toNat_lt;omega)
 have r0:clS 0 (c.toNat:Int) b q2=(x0 (c.toNat:Int),q2):=rfl;rw[r0];simp only;have n0:Sub (.agg (XC0 c)) (reV (x0 (c.toNat:Int))):=.agg (.cons (.refl _) <| .cons (.refl _) <| .cons (.refl _) <| .cons (.refl _) <| .cons (.refl _) <| .cons (.refl _) <| .cons (.refl _) <| .cons (.nils 3) <| .cons (.refl _) <| .cons (.refl _) <| .cons (.refl _) <| .cons (.nils 3) <| .cons (.nils 3) <| .cons (.refl _) <| .cons (.refl _) <| .cons (.refl _) <| .cons (.nils 1) <| .cons (.nils 2) <| .cons (.refl _) <| .nil);have km:=(z1u (A q2++[B19,.box (XC0 c)]) (x0 (c.toNat:Int))).subA (.cons n0 .nil);have ke:=z08 (A q2++[B19,.box (XC0 c)]) p b q2 (mayR (x0 (c.toNat:Int))) (q0 _ _) j0 hb;rw[y0]at ke;generalize mayR (x0 (c.toNat:Int))=okm at km ke⊢;generalize took q2 0 okm=qe at ke⊢;refine Ans.subR ?_ n0;refine Ans.of_run' t39 (fun m0 _=>?_)
 simp -implicitDefEqProofs only[c39,r39,go_sem,q0,y0,gs,hn,ap4];refine CO.intro k0 ?_;simp -implicitDefEqProofs only[go_sem,bc,wc,q0,y0,gs,hn,ap4];refine CO.intro k1 ?_;simp -implicitDefEqProofs only[go_sem];refine CO.intro k2 ?_;simp -implicitDefEqProofs only[go_sem,bc,q0,y0,gs,hn,ap4];refine CO.intro km ?_;simp -implicitDefEqProofs only[go_sem];refine CO.intro ke ?_;simp -implicitDefEqProofs only[go_sem,q0,y0,gs,hn,ap4]
 have d0:Bel (A qe).length (.agg (XC0 c)):=.agg _ (fun i hi=>by
  have:∀y∈(XC0 c:List AV),Bel (A qe).length y:=by
   intro y hy;simp only[List.mem_cons,List.not_mem_nil,or_false]at hy;rcases hy with rfl|rfl|rfl|rfl|rfl|rfl|rfl|rfl|rfl|rfl|rfl|rfl|rfl|rfl|rfl|rfl|rfl|rfl|rfl
   all_goals first|exact .pl _|exact .nils|exact z0K _ _|exact z1B _ _|exact z0V _ _
  exact this _ (List.getElem_mem hi))
 exact Fini.trim2 (σ':=A qe) (ex:=[_,_]) (by simp -implicitDefEqProofs only[go_sem,resA,z04,rvA,oneOf,gs]<;>rfl) rfl (Nat.le_of_eq (by simp only[hn])) d0 (fun o ho=>by
  rw[←hs q qe]at ho;rw[hn];rw[hn]at m0
  exact z1q (o:=rob b qe) m0 (z25 _ _) o ho)
theorem zcA (q:Nat×Bool) (hq:Inb b q) (c:UInt8) (q1:Nat×Bool) (hc:runR byteR 0 b q=(c,q1)) (ok:Bool) (hf:fOf (c.toNat:Int)=(1,ok)) :
  Ans Tryd.prog 39 [.ptr p 0] (A q) (reV (bodyS b q).1) (A (bodyS b q).2):=by
 obtain⟨y0,u0,gs⟩:=rd_facts A n p b hn hg hs q;have k0:=z0B (A q++[B19]) p b q (y0 _ _) hq hb;have q0:=z09 byteR 0 b q hq
 have f0:bodyS b q=z0m (fun q1=>clS 1 (c.toNat:Int) b (took q1 0 ok)) mayR q1:=by
  unfold bodyS;rw[hc];simp only[hf]
 rw[hc]at k0 q0;rw[f0];simp only at k0 q0;rw[u0]at k0;have k1:=z0F (A q1++[B19,.box (XC1 c (I 0))]) (c.toNat:Int);rw[hf]at k1;have k2:=z08 (A q1++[B19,.box (XC1 c (I 0))]) p b q1 ok (y0 _ _) q0 hb;rw[u0]at k2;have j0:=z0I b q1 ok q0;unfold z0m;simp only;generalize took q1 0 ok=q2 at k2 j0⊢;have wc:IntKind.i64.wrap (c.toNat:Int)=(c.toNat:Int):=wrapI (by have:=c.toNat_lt;omega)
 have d0:clS 1 (c.toNat:Int) b q2=({ x0 (c.toNat:Int) with id:=(((runR (numR 2147483647) 0 b q2).1:Nat):Int) },(runR (numR 2147483647) 0 b q2).2):=rfl
 rw[d0];simp only;have k3:=z1g (A q2++[B19,.box (XC1 c (I 0))]) p b q2 2147483647 (by decide) (y0 _ _) j0 hb
 rw[u0]at k3;have m0:=z09 (numR 2147483647) 0 b q2 j0;have t0:=z1A (most:=2147483647) b q2;generalize runR (numR 2147483647) 0 b q2=w0 at k3 m0 t0⊢;obtain⟨v0,q3⟩:=w0;simp only at k3 m0 t0⊢;have e0:IntKind.i64.wrap (v0:Int)=(v0:Int):=wrapI (by omega)
 have r0:Sub (.agg (XC1 c (I (v0:Nat)))) (reV ({ x0 (c.toNat:Int) with id:=((v0:Nat):Int) })):=.agg (.cons (.refl _) <| .cons (.refl _) <| .cons (.refl _) <| .cons (.refl _) <| .cons (.refl _) <| .cons (.refl _) <| .cons (.refl _) <| .cons (.nils 3) <| .cons (.refl _) <| .cons (.refl _) <| .cons (.refl _) <| .cons (.nils 3) <| .cons (.nils 3) <| .cons (.refl _) <| .cons (.refl _) <| .cons (.refl _) <| .cons (.nils 1) <| .cons (.nils 2) <| .cons (.refl _) <| .nil)
 have km:=(z1u (A q3++[B19,.box (XC1 c (I (v0:Nat)))]) ({ x0 (c.toNat:Int) with id:=((v0:Nat):Int) })).subA (.cons r0 .nil)
 have ke:=z08 (A q3++[B19,.box (XC1 c (I (v0:Nat)))]) p b q3 (mayR ({ x0 (c.toNat:Int) with id:=((v0:Nat):Int) })) (y0 _ _) m0 hb
 rw[u0]at ke;generalize mayR ({ x0 (c.toNat:Int) with id:=((v0:Nat):Int) })=okm at km ke⊢
 generalize took q3 0 okm=qe at ke⊢;refine Ans.subR ?_ r0;refine Ans.of_run' t39 (fun n0 _=>?_)
 simp -implicitDefEqProofs only[c39,r39,go_sem,y0,u0,gs,hn,ap4];refine CO.intro k0 ?_;simp -implicitDefEqProofs only[go_sem,bc,wc,y0,u0,gs,hn,ap4];refine CO.intro k1 ?_;simp -implicitDefEqProofs only[go_sem];refine CO.intro k2 ?_;simp -implicitDefEqProofs only[go_sem,bc,y0,u0,gs,hn,ap4];refine CO.intro k3 ?_;simp -implicitDefEqProofs only[go_sem,bc,e0,y0,u0,gs,hn,ap4];refine CO.intro km ?_;simp -implicitDefEqProofs only[go_sem];refine CO.intro ke ?_;simp -implicitDefEqProofs only[go_sem,y0,u0,gs,hn,ap4]
 have h0:Bel (A qe).length (.agg (XC1 c (I (v0:Nat)))):=.agg _ (fun i hi=>by
  have:∀y∈(XC1 c (I (v0:Nat)):List AV),Bel (A qe).length y:=by
   intro y hy;simp only[List.mem_cons,List.not_mem_nil,or_false]at hy;rcases hy with rfl|rfl|rfl|rfl|rfl|rfl|rfl|rfl|rfl|rfl|rfl|rfl|rfl|rfl|rfl|rfl|rfl|rfl|rfl
   all_goals first|exact .pl _|exact .nils|exact z0K _ _|exact z1B _ _|exact z0V _ _
  exact this _ (List.getElem_mem hi))
 exact Fini.trim2 (σ':=A qe) (ex:=[_,_]) (by simp -implicitDefEqProofs only[go_sem,resA,z04,rvA,oneOf,gs]<;>rfl) rfl (Nat.le_of_eq (by simp only[hn])) h0 (fun o ho=>by
  rw[←hs q qe]at ho;rw[hn];rw[hn]at n0
  exact z1q (o:=rob b qe) n0 (z25 _ _) o ho)
theorem zcB (q:Nat×Bool) (hq:Inb b q) (c:UInt8) (q1:Nat×Bool) (hc:runR byteR 0 b q=(c,q1)) (ok:Bool) (hf:fOf (c.toNat:Int)=(3,ok)) :
  Ans Tryd.prog 39 [.ptr p 0] (A q) (reV (bodyS b q).1) (A (bodyS b q).2):=by
 obtain⟨y0,u0,gs⟩:=rd_facts A n p b hn hg hs q;have k0:=z0B (A q++[B19]) p b q (y0 _ _) hq hb;have q0:=z09 byteR 0 b q hq
 have h0:bodyS b q=z0m (fun q1=>clS 3 (c.toNat:Int) b (took q1 0 ok)) mayR q1:=by
  unfold bodyS;rw[hc];simp only[hf]
 rw[hc]at k0 q0;rw[h0];simp only at k0 q0;rw[u0]at k0;have k1:=z0F (A q1++[B19,.box (XC3 c (I 0) (Sx ⟨#[]⟩))]) (c.toNat:Int);rw[hf]at k1;have k2:=z08 (A q1++[B19,.box (XC3 c (I 0) (Sx ⟨#[]⟩))]) p b q1 ok (y0 _ _) q0 hb;rw[u0]at k2;have m0:=z0I b q1 ok q0;unfold z0m;simp only;generalize took q1 0 ok=q2 at k2 m0⊢;have wc:IntKind.i64.wrap (c.toNat:Int)=(c.toNat:Int):=wrapI (by have:=c.toNat_lt;omega)
 have f0:clS 3 (c.toNat:Int) b q2=({ x0 (c.toNat:Int) with id:=(((runR (numR 2147483647) 0 b q2).1:Nat):Int),txt:=(runR (textR 16) ⟨#[]⟩ b (runR (numR 2147483647) 0 b q2).2).1 },(runR (textR 16) ⟨#[]⟩ b (runR (numR 2147483647) 0 b q2).2).2):=rfl
 rw[f0];simp only;have k3:=z1g (A q2++[B19,.box (XC3 c (I 0) (Sx ⟨#[]⟩))]) p b q2 2147483647 (by decide) (y0 _ _) m0 hb
 rw[u0]at k3;have j0:=z09 (numR 2147483647) 0 b q2 m0;have e0:=z1A (most:=2147483647) b q2;generalize runR (numR 2147483647) 0 b q2=w0 at k3 j0 e0⊢;obtain⟨v0,q3⟩:=w0;simp only at k3 j0 e0⊢;have d0:IntKind.i64.wrap (v0:Int)=(v0:Int):=wrapI (by omega)
 have k4:=z1I (A q3++[B19,.box (XC3 c (I (v0:Nat)) (Sx ⟨#[]⟩))]) p b q3 16 (by decide) (y0 _ _) j0 hb
 rw[u0]at k4;have n0:=z09 (textR 16) ⟨#[]⟩ b q3 j0;generalize runR (textR 16) ⟨#[]⟩ b q3=w1 at k4 n0⊢;obtain⟨v1,q4⟩:=w1;simp only at k4 n0⊢;have t0:Sub (.agg (XC3 c (I (v0:Nat)) (Sx v1))) (reV ({ x0 (c.toNat:Int) with id:=((v0:Nat):Int),txt:=v1 })):=.agg (.cons (.refl _) <| .cons (.refl _) <| .cons (.refl _) <| .cons (.refl _) <| .cons (.refl _) <| .cons (.refl _) <| .cons (.refl _) <| .cons (.nils 3) <| .cons (.refl _) <| .cons (.refl _) <| .cons (.refl _) <| .cons (.nils 3) <| .cons (.nils 3) <| .cons (.refl _) <| .cons (.refl _) <| .cons (.refl _) <| .cons (.nils 1) <| .cons (.nils 2) <| .cons (.refl _) <| .nil)
 have km:=(z1u (A q4++[B19,.box (XC3 c (I (v0:Nat)) (Sx v1))]) ({ x0 (c.toNat:Int) with id:=((v0:Nat):Int),txt:=v1 })).subA (.cons t0 .nil)
 have ke:=z08 (A q4++[B19,.box (XC3 c (I (v0:Nat)) (Sx v1))]) p b q4 (mayR ({ x0 (c.toNat:Int) with id:=((v0:Nat):Int),txt:=v1 })) (y0 _ _) n0 hb
 rw[u0]at ke;generalize mayR ({ x0 (c.toNat:Int) with id:=((v0:Nat):Int),txt:=v1 })=okm at km ke⊢
 generalize took q4 0 okm=qe at ke⊢;refine Ans.subR ?_ t0;refine Ans.of_run' t39 (fun r0 _=>?_)
 simp -implicitDefEqProofs only[c39,r39,go_sem,y0,u0,gs,hn,ap4];refine CO.intro k0 ?_;simp -implicitDefEqProofs only[go_sem,bc,wc,y0,u0,gs,hn,ap4];refine CO.intro k1 ?_;simp -implicitDefEqProofs only[go_sem];refine CO.intro k2 ?_;simp -implicitDefEqProofs only[go_sem,bc,y0,u0,gs,hn,ap4];refine CO.intro k3 ?_;simp -implicitDefEqProofs only[go_sem,bc,d0,y0,u0,gs,hn,ap4];refine CO.intro k4 ?_;simp -implicitDefEqProofs only[go_sem,bc,d0,y0,u0,gs,hn,ap4];refine CO.intro km ?_;simp -implicitDefEqProofs only[go_sem];refine CO.intro ke ?_;simp -implicitDefEqProofs only[go_sem,y0,u0,gs,hn,ap4]
 have l0:Bel (A qe).length (.agg (XC3 c (I (v0:Nat)) (Sx v1))):=.agg _ (fun i hi=>by
  have:∀y∈(XC3 c (I (v0:Nat)) (Sx v1):List AV),Bel (A qe).length y:=by
   intro y hy;simp only[List.mem_cons,List.not_mem_nil,or_false]at hy;rcases hy with rfl|rfl|rfl|rfl|rfl|rfl|rfl|rfl|rfl|rfl|rfl|rfl|rfl|rfl|rfl|rfl|rfl|rfl|rfl
   all_goals first|exact .pl _|exact .nils|exact z0K _ _|exact z1B _ _|exact z0V _ _
  exact this _ (List.getElem_mem hi))
 exact Fini.trim2 (σ':=A qe) (ex:=[_,_]) (by simp -implicitDefEqProofs only[go_sem,resA,z04,rvA,oneOf,gs]<;>rfl) rfl (Nat.le_of_eq (by simp only[hn])) l0 (fun o ho=>by
  rw[←hs q qe]at ho;rw[hn];rw[hn]at r0
  exact z1q (o:=rob b qe) r0 (z25 _ _) o ho)
end
end Go.Proofs.YteakobbdgehlgaaDoor
