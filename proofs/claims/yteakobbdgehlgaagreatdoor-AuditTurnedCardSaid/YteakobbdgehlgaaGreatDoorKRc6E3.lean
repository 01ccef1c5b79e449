/- Bands and rules as bytes: readers and writers. No condition. -/
import Derived.Test.YteakobbdgehlgaaGreatDoorKXMr2E3
import Derived.Test.YteakobbdgehlgaaGreatDoorKXPPar6E3
import Derived.Test.YteakobbdgehlgaaGreatDoorKShA1E3
import Derived.Test.YteakobbdgehlgaaGreatDoorKXVi3E3
import Derived.Test.YteakobbdgehlgaaGreatDoorAbArgE3
set_option linter.unusedSimpArgs false
set_option linter.unusedVariables false
set_option linter.unusedSectionVars false
set_option maxRecDepth 100000
namespace Go.Proofs.YteakobbdgehlgaaGreatDoor
open Go Go.Ab Go.Cod
def okV (u:Nat):Bool:=decide (bitsF u=u)
def valR:Rd Nat:=onlyR wordR okV
def putV (u:Nat):Byt:=wrdB (bitsF u)
theorem val_fits:Fits valR putV (fun u=>u<2^64∧bitsF u=u):=by
 have h:=z3F word_fits okV;refine⟨fun a t ho=>?_,fun b a t hr=>?_⟩
 · have:=h.fwd a t ⟨ho.1,by unfold okV;exact decide_eq_true ho.2⟩
   unfold putV;rw[ho.2];exact this
 · obtain⟨⟨h1,h2⟩,h3⟩:=h.bwd b a t hr;have h2:bitsF a=a:=by unfold okV at h2;exact of_decide_eq_true h2
   exact⟨⟨h1,h2⟩,by unfold putV;rw[h2];exact h3⟩
theorem z7z:EndsR valR:=val_fits.ends
abbrev Bnd:=Bool×Nat×Nat
def bnd0:Rd Bnd
 |[]=>none
 |c::t=>if c=0 then(seqR valR valR t).map (fun p=>((false,p.1.1,p.1.2),p.2)) else if c=1 then some ((true,0,0),t) else none
def bandR:Rd Bnd:=onlyR bnd0 (fun x=>mayB x.1 x.2.1 x.2.2)
def putBd (x:Bnd):Byt:=if x.1 then[1] else 0::(putV x.2.1++putV x.2.2)
def bndOk (x:Bnd):Prop:=if x.1 then x.2.1=0∧x.2.2=0 else(x.2.1<2^64∧bitsF x.2.1=x.2.1)∧(x.2.2<2^64∧bitsF x.2.2=x.2.2)
theorem zdl:Fits bnd0 putBd bndOk where
 fwd x t h:=by
  obtain⟨any,lo,hi⟩:=x
  cases any with
  |true =>
   obtain⟨rfl,rfl⟩:lo=0∧hi=0:=h;rfl
  |false =>
   have h:(lo<2^64∧bitsF lo=lo)∧(hi<2^64∧bitsF hi=hi):=h;have h2:=(z0N val_fits val_fits).fwd (lo,hi) t h;simp only at h2;simp only[putBd,Bool.false_eq_true,if_false,bnd0,List.cons_append,if_true,h2,Option.map_some]
 bwd b x t hr:=by
  cases b with
  |nil=>cases hr
  |cons c u =>
   simp only[bnd0]at hr;split at hr
   · rename_i hc
     cases h1:seqR valR valR u with
     |none=>simp[h1]at hr
     |some p =>
      simp only[h1,Option.map_some,Option.some.injEq,Prod.mk.injEq]at hr;obtain⟨rfl,rfl⟩:=hr;obtain⟨h2,h3⟩:=(z0N val_fits val_fits).bwd _ _ _ h1;refine⟨h2,?_⟩;rw[h3,hc];rfl
   · split at hr
     · rename_i hc;simp only[Option.some.injEq,Prod.mk.injEq]at hr;obtain⟨rfl,rfl⟩:=hr;exact⟨⟨rfl,rfl⟩,by rw[hc];rfl⟩
     · cases hr
def bMay (x:Bnd):Bool:=mayB x.1 x.2.1 x.2.2
def bSz (x:Bnd):Prop:=x.2.1<2^64∧x.2.2<2^64
theorem zbP {a b:Nat} (h:leF a b=true):nanF a=false∧nanF b=false:=by
 unfold leF Ieee.Format.order at h;unfold nanF Ieee.Format.order;generalize FloatKind.f64.format.read a=x at *;generalize FloatKind.f64.format.read b=y at *
 cases x with
 |nan s m=>simp[Ieee.Datum.order]at h
 |infinity s =>
  cases y with
  |nan t n=>simp[Ieee.Datum.order]at h
  |infinity t=>cases s<;>cases t<;>simp[Ieee.Datum.order]at h⊢
  |number t n j=>cases s<;>simp[Ieee.Datum.order]at h⊢
 |number s m i =>
  cases y with
  |nan t n=>simp[Ieee.Datum.order]at h
  |infinity t=>cases t<;>simp[Ieee.Datum.order]at h⊢
  |number t n j=>simp[Ieee.Datum.order]
theorem z8F {a:Nat} (h:nanF a=false):bitsF a=a:=by unfold bitsF;rw[h];rfl
theorem z3d {a:Nat} (h:bitsF a=0):a=0:=by
 unfold bitsF at h;split at h
 · cases h
 · exact h
theorem ziW {x:Bnd} (h:bMay x=true) (w:bSz x):bndOk x:=by
 obtain⟨any,lo,hi⟩:=x;unfold bMay mayB at h
 cases any with
 |true =>
  simp only[if_true,Bool.and_eq_true,beq_iff_eq]at h;exact⟨z3d (Int.ofNat.inj h.1),z3d (Int.ofNat.inj h.2)⟩
 |false =>
  obtain⟨h1,h2⟩:=zbP h;exact⟨⟨w.1,z8F h1⟩,⟨w.2,z8F h2⟩⟩
theorem ok_sz {x:Bnd} (h:bndOk x):bSz x:=by
 obtain⟨any,lo,hi⟩:=x
 cases any with
 |true =>
  obtain⟨rfl,rfl⟩:lo=0∧hi=0:=h;exact⟨by decide,by decide⟩
 |false =>
  have h:(lo<2^64∧bitsF lo=lo)∧(hi<2^64∧bitsF hi=hi):=h;exact⟨h.1.1,h.2.1⟩
theorem band_fits:Fits bandR putBd (fun x=>bMay x=true∧bSz x) :=
 (z3F zdl bMay).weaken fun x=>⟨fun h=>⟨h.2,ok_sz h.1⟩,fun h=>⟨ziW h.1 h.2,h.1⟩⟩
theorem ends_band:EndsR bandR:=band_fits.ends
def mkRu (x:List Mtr×List Mtr×Bnd×List ByteArray):RuM:=⟨x.1,x.2.1,x.2.2.1.1,x.2.2.1.2.1,x.2.2.1.2.2,x.2.2.2⟩
def ruR0:Rd RuM:=z1K (seqR listR (seqR listR (seqR bandR (rowR 4 (textR 12))))) mkRu
def ruR:Rd RuM:=onlyR ruR0 ruIs
def putR (r:RuM):Byt:=putL r.src++(putL r.tgt++(putBd (r.any,r.lo,r.hi)++z2x txtB r.eq))
def ruSz (r:RuM):Prop:=r.lo<2^64∧r.hi<2^64
theorem zfp:Fits ruR0 putR (fun r=>listB r.src=true∧listB r.tgt=true∧(mayB r.any r.lo r.hi=true∧ruSz r)∧(r.eq.length≤4∧∀a∈r.eq,a.size≤12)) :=
 dress_fits (z0N z3c (z0N z3c (z0N band_fits (z7m (by decide) (z1w (by decide)))))) (g:=fun r=>(r.src,r.tgt,(r.any,r.lo,r.hi),r.eq))
  (fun _ h=>⟨h,rfl⟩) (fun _ h=>⟨h,rfl⟩)
theorem z75 {s:ByteArray} (h:nameB s=true):s.size≤12:=by
 unfold nameB at h;simp only[Bool.and_eq_true,decide_eq_true_eq]at h;exact h.1.1.2
theorem ziX {e:List ByteArray} (h:eqB e=true):e.length≤4∧∀a∈e,a.size≤12:=by
 unfold eqB at h;simp only[Bool.and_eq_true,decide_eq_true_eq]at h;refine⟨h.1,fun a ha=>?_⟩
 obtain⟨i,hi,rfl⟩:=List.getElem_of_mem ha;have h2:=List.all_eq_true.1 h.2 i (List.mem_range.2 hi);unfold eqOk at h2;simp only[Bool.and_eq_true]at h2;have e2:e.getD i ⟨#[]⟩=e[i]:=by rw[List.getD_eq_getElem?_getD,List.getElem?_eq_getElem hi];rfl
 rw[e2]at h2;exact z75 h2.1
theorem z29 {r:RuM} (h:ruIs r=true):listB r.src=true∧listB r.tgt=true∧mayB r.any r.lo r.hi=true∧(r.eq.length≤4∧∀a∈r.eq,a.size≤12):=by
 unfold ruIs at h;simp only[Bool.and_eq_true]at h;exact⟨h.2.2.1,h.2.2.2.1,h.2.2.2.2.1,ziX h.2.2.2.2.2⟩
theorem ru_fits:Fits ruR putR (fun r=>ruIs r=true∧ruSz r) :=
 (z3F zfp ruIs).weaken fun r=>⟨fun h=>⟨h.2,h.1.2.2.1.2⟩,fun h=>⟨⟨(z29 h.1).1,(z29 h.1).2.1,⟨(z29 h.1).2.2.1,h.2⟩,(z29 h.1).2.2.2⟩,h.1⟩⟩
theorem ends_ru:EndsR ruR:=ru_fits.ends
theorem zdm {α:Type} {b:Byt} {rd:Rd α} {st st':Nat×Bool→α×(Nat×Bool)} (h:StepsR b rd st) (h2:∀q,(st' q).2=(st q).2) (h3:∀q,(st q).2.2=false→st' q=st q):StepsR b rd st' where
 some_ a x t ha hr:=by
  have:=h.some_ a x t ha hr;rw[h3 _ (by rw[this]),this]
 none_ a ha hr:=by rw[h2];exact h.none_ a ha hr
 bad a:=by rw[h2];exact h.bad a
 inb q hq:=by rw[h2];exact h.inb q hq
def valS (b:Byt) (q:Nat×Bool):Nat×(Nat×Bool):=(if okV (runR wordR 0 b q).1 then(runR wordR 0 b q).1 else 0,took (runR wordR 0 b q).2 0 (okV (runR wordR 0 b q).1))
theorem z0K (b:Byt):StepsR b valR (valS b):=by
 refine zdm (z1d (z0i b wordR 0) okV) (fun q=>rfl) fun q h=>?_
 unfold z0P took at h;unfold valS z0P;simp only at h⊢
 cases ho:okV (runR wordR 0 b q).1 with
 |true=>rfl
 |false=>rw[ho]at h;simp at h
def bnd0S (b:Byt) (q:Nat×Bool):Bnd×(Nat×Bool) :=
 if(runR byteR 0 b q).1=0 then((false,(valS b (runR byteR 0 b q).2).1,(valS b (valS b (runR byteR 0 b q).2).2).1),(valS b (valS b (runR byteR 0 b q).2).2).2)
 else if(runR byteR 0 b q).1=1 then((true,0,0),(runR byteR 0 b q).2) else((false,0,0),took (runR byteR 0 b q).2 0 false)
theorem zbQ (b:Byt):StepsR b bnd0 (bnd0S b) where
 some_ a x t ha hr:=by
  cases hd:b.drop a with
  |nil=>rw[hd]at hr;cases hr
  |cons c u =>
   have h1:byteR (b.drop a)=some (c,u):=by rw[hd];rfl
   obtain⟨e1,e2,e3⟩:=ends_byte.drop ha h1;rw[hd]at hr;simp only[bnd0]at hr;unfold bnd0S;simp only[z0L h1];split at hr
   · rename_i hc;rw[if_pos hc]
     cases h2:seqR valR valR u with
     |none=>simp[h2]at hr
     |some p =>
      simp only[h2,Option.map_some,Option.some.injEq,Prod.mk.injEq]at hr;obtain⟨rfl,rfl⟩:=hr;have:=(z0C (z0K b) (z0K b) z7z).some_ (b.length-u.length) p.1 p.2 (by omega) (by rw[e1];exact h2)
      unfold seqSt at this;simp only[Prod.ext_iff]at this⊢;simp only[this,and_self]
   · rename_i hc;rw[if_neg hc];split at hr
     · rename_i hc;rw[if_pos hc];simp only[Option.some.injEq,Prod.mk.injEq]at hr;obtain⟨rfl,rfl⟩:=hr;rfl
     · cases hr
 none_ a ha hr:=by
  cases hd:b.drop a with
  |nil =>
   have h1:byteR (b.drop a)=none:=by rw[hd];rfl
   unfold bnd0S;simp only[z0V h1,if_true];exact z3i (z0K b).bad _ ((z0K b).bad a)
  |cons c u =>
   have h1:byteR (b.drop a)=some (c,u):=by rw[hd];rfl
   obtain⟨e1,e2,e3⟩:=ends_byte.drop ha h1;rw[hd]at hr;simp only[bnd0]at hr;unfold bnd0S;simp only[z0L h1];split at hr
   · rename_i hc;rw[if_pos hc]
     cases h2:seqR valR valR u with
     |some p=>simp[h2]at hr
     |none =>
      exact(z0C (z0K b) (z0K b) z7z).none_ (b.length-u.length) (by omega) (by rw[e1];exact h2)
   · rename_i hc;rw[if_neg hc];split at hr
     · cases hr
     · rename_i hc;rw[if_neg hc];rfl
 bad a:=by
  unfold bnd0S;simp only[z0O,if_true];exact z3i (z0K b).bad _ ((z0K b).bad a)
 inb q hq:=by
  have h1:=z0h byteR 0 b q hq;unfold bnd0S;split
  · exact(z0K b).inb _ ((z0K b).inb _ h1)
  · split
    · exact h1
    · exact z1r b _ _ h1
def bandS (b:Byt):Nat×Bool→Bnd×(Nat×Bool):=z0P (bnd0S b) bMay
theorem zbR (b:Byt):StepsR b bandR (bandS b):=z1d (zbQ b) _
def ruS (b:Byt):Nat×Bool→RuM×(Nat×Bool) :=
 z0P (z1W (seqSt (runR listR [] b) (seqSt (runR listR [] b) (seqSt (runR bandR (false,0,0) b) (rowSt 4 b (runR (textR 12) ⟨#[]⟩ b))))) mkRu) ruIs
theorem zfq (b:Byt):StepsR b ruR (ruS b) :=
 z1d (z0W (z0C (z0i b listR []) (z0C (z0i b listR []) (z0C (z0i b bandR _) (z5P (z0i b (textR 12) _) (z1X 12) 4) ends_band) ends_list) ends_list) mkRu) ruIs
end Go.Proofs.YteakobbdgehlgaaGreatDoor
namespace Go.Ab
section
variable {P:Program} {f:FuncId} {args:List AV} {σ:St}
end
end Go.Ab
namespace Go.Proofs.YteakobbdgehlgaaGreatDoor
open Go Go.Ab Go.Cod
abbrev Zb:AV:=.pl (.int .u8 0)
abbrev bsv (bs:List Byt):List AV:=bs.map fun b=>.sl 1 (byv b)
theorem z23 (bs:List Byt):(bsv bs).length=bs.length:=List.length_map ..
theorem z3q (bs:List Byt) (i:Nat) (h:i<bs.length):(bsv bs)[i]?=some (.sl 1 (byv bs[i])):=by simp[h]
theorem z8G (bs:List Byt) (i:Nat) (h:i<bs.length):(bs.take (i+1)).flatten=(bs.take i).flatten++bs[i]:=by
 rw[List.take_succ_eq_append_getElem h,List.flatten_append];simp
theorem zdn (bs:List Byt) (i:Nat):((bs.take i).flatten).length≤bs.flatten.length:=by
 have:bs.flatten=(bs.take i).flatten++(bs.drop i).flatten:=by rw[←List.flatten_append,List.take_append_drop]
 rw[this,List.length_append];omega
section
variable (σ:St)
theorem zfr (n:Nat) (h:0<n) (hn:n≤1000000):Ans Tryz.prog 94 [.nils,I n] σ (.osl (σ.length+1) 0) (σ++[.dead,.row 1 []]):=by
 have d0:decide ((n:Int)<0)=false:=by simp
 have w1:IntKind.i64.wrap (n:Int)=n:=wrapI (by omega)
 have d1:decide ((0:Int)<n)=true:=by simp;omega
 have hz:((n:Int)=0)=False:=eq_false (by omega)
 have hp:((0:Int)<n)=True:=eq_true (by omega)
 have hle:((n:Int)≤4294967296)=True:=eq_true (by omega)
 have hc:(chunks 1 false n (z0b [Zb] n)).length=n:=z1y _ _ _ _;have z0:Int.toNat 0=0:=rfl;refine Ans.of_run t94 ?_;simp -implicitDefEqProofs only[c94,r94,go_sem,d0];have z0:Int.toNat 0=0:=rfl;have z1:Int.toNat ((n:Nat):Int)=n:=Int.toNat_natCast n;have w0:IntKind.i64.wrap 0=0:=rfl;simp -implicitDefEqProofs only[go_sem,d0,Int.sub_zero,w1,d1,w0,hz,hp,hle,z0,z1,g0,s0,hc,List.take_zero,List.drop_zero,Int.natCast_nonneg,Int.le_refl,Nat.sub_zero,List.length_append,List.length_cons,List.length_nil,List.append_assoc,List.cons_append,List.nil_append];exact Fini.ret rfl
theorem z76 (bs:List Byt) (hl:bs.length≤100) (h0:0<bs.flatten.length) (h1:bs.flatten.length≤1000000) :
  Ans Tryz.prog 58 [.sl 1 (bsv bs)] σ (.sl 1 (byv bs.flatten)) σ:=by
 refine Ans.of_run' t58 (fun y0 _=>?_)
 simp -implicitDefEqProofs only[c58,r58,go_sem,z23];refine Go.Ab.L.count bs.length (fun i=>mkE 36 [(0,.sl 1 (bsv bs)),(3,I ((bs.take i).flatten.length:Nat)),(9,.sl 1 (bsv bs)),(10,I bs.length),(11,I i)]) (fun _=>σ) ?_ ?_ rfl rfl
 · intro i hi J hJ;have hf:=zdn bs (i+1);rw[z8G bs i hi]at hJ hf;have hx:=z3q bs i hi;rw[List.length_append]at hJ hf;generalize bs[i]=c at hJ hf hx;generalize (bs.take i).flatten.length=t at hJ hf⊢;have ha:IntKind.i64.wrap ((t:Int)+(c.length:Int))=((t+c.length:Nat):Int):=by rw[wrapN (by omega) (by omega)];omega
   have d0:decide (((t+c.length:Nat):Int)<0)=false:=by simp;omega
   have u0:=wrap_succ (i:=i) (by omega)
   simp -implicitDefEqProofs only[mkE,go_sem,z23,z0e hi,dec_lt hi,hx,z05,ha,d0,u0];exact hJ
 · intro J;have d0:decide ((bs.length:Int)<bs.length)=false:=by simp
   simp -implicitDefEqProofs only[mkE,go_sem,z23,d0,List.take_length];refine CO.intro (zfr σ bs.flatten.length h0 h1) ?_;simp -implicitDefEqProofs only[go_sem,z23];refine Go.Ab.L.count bs.length (fun i=>mkE 36 [(6,.osl (σ.length+1) (bs.take i).flatten.length),(25,.sl 1 (bsv bs)),(26,I bs.length),(27,I i)]) (fun i=>σ++[.dead,.row 1 (byv (bs.take i).flatten)]) ?_ ?_ rfl rfl
   · intro i hi J hJ;have hf:=zdn bs (i+1);rw[z8G bs i hi]at hJ hf;have hx:=z3q bs i hi;rw[List.length_append]at hJ hf;generalize bs[i]=c at hJ hf hx;generalize (bs.take i).flatten=t at hJ hf⊢;have hle:t.length+c.length≤4294967296:=by omega
     have u0:=wrap_succ (i:=i) (by omega)
     simp -implicitDefEqProofs only[mkE,go_sem,z23,z0e hi,dec_lt hi,hx,z05,z0q,bc,u0,g1,s1,hle];simp only[z0t]at hJ;exact hJ
   · intro J;simp -implicitDefEqProofs only[mkE,go_sem,z23,d0,List.take_length];have gg:(σ++[Ob.dead,Ob.row 1 (byv bs.flatten)])[σ.length+1]?=some (.row 1 (byv bs.flatten)):=by rw[List.getElem?_append_right (by omega)];simp
     have gs:List.set (σ++[Ob.dead,Ob.row 1 (byv bs.flatten)]) (σ.length+1) Ob.dead=σ++[.dead,.dead]:=by rw[List.set_append_right _ _ (by omega)];simp
     simp only[gg,z05,if_true,gs];exact Fini.trim2 (σ':=σ) (ex:=[_,_]) rfl rfl (Nat.le_refl _) (z1j _ _) y0
theorem zdo (bs:List Byt) (hl:bs.length≤100) (h0:0<bs.flatten.length) (h1:bs.flatten.length≤1000000) :
  Ans Tryz.prog 58 [.sl 1 (bsv bs)] σ (.sl 1 (byv bs.flatten)) σ :=
 z76 σ bs hl h0 h1
end
theorem zfs (l z:List AV) (i:Nat) (h:i<l.length) (hz:l.length=z.length):(l.take i++z.drop i).set i l[i]=l.take (i+1)++z.drop (i+1):=by
 have h1:(l.take i).length=i:=by rw[List.length_take];omega
 rw[List.set_append_right _ _ (by omega),h1,Nat.sub_self,List.drop_eq_getElem_cons (by omega),List.set_cons_zero,List.take_succ_eq_append_getElem h,List.append_assoc]
 rfl
def fillW (n i:Nat):List AV:=(byv (wrdB n)).take i++(List.replicate 8 Zb).drop i
theorem wrdB_len (n:Nat):(wrdB n).length=8:=rfl
theorem z4y (n i:Nat) (h:i≤8):(fillW n i).length=8:=by
 unfold fillW;rw[List.length_append,List.length_take,List.length_drop,z05,wrdB_len,List.length_replicate];omega
theorem z8H (n i:Nat) (h:i<8):(fillW n i).set i (bc (n/2^(56-8*i)).toUInt8)=fillW n (i+1):=by
 have e:(byv (wrdB n))[i]'(by rw[z05,wrdB_len];exact h)=bc (n/2^(56-8*i)).toUInt8:=by
  match i,h with
  |0,_=>rfl
  |1,_=>rfl
  |2,_=>rfl
  |3,_=>rfl
  |4,_=>rfl
  |5,_=>rfl
  |6,_=>rfl
  |7,_=>show bc n.toUInt8=bc (n/2^0).toUInt8;rw[Nat.pow_zero,Nat.div_one]
 have:=zfs (byv (wrdB n)) (List.replicate 8 Zb) i (by rw[z05,wrdB_len];exact h) (by rw[z05,wrdB_len,List.length_replicate])
 rw[e]at this;exact this
theorem z8I (n i:Nat) (h:i<8):(fillW n i)[i]?=some Zb:=by
 unfold fillW;have h1:((byv (wrdB n)).take i).length=i:=by rw[List.length_take,z05,wrdB_len];omega
 rw[List.getElem?_append_right (by omega),h1,Nat.sub_self,List.getElem?_drop,List.getElem?_replicate,if_pos (by omega)]
theorem mks8:(chunks 1 false (8:Int).toNat (z0b [Zb] (8:Int).toNat)).take (8:Int).toNat=List.replicate 8 Zb:=rfl
theorem shrN (n k:Nat) (h:k≤64):((n:Int).fdiv (2^min ((k:Nat):Int).toNat 64))=((n/2^k:Nat):Int):=by
 have:min ((k:Nat):Int).toNat 64=k:=by rw[Int.toNat_natCast];omega
 rw[this,Int.fdiv_eq_ediv_of_nonneg _ (Int.pow_nonneg (by decide))]
 push_cast;rfl
theorem zgK (n:Nat):IntKind.u8.wrap (n:Int)=((n.toUInt8.toNat:Nat):Int):=by
 rw[z5L,toUInt8_mod]
section
variable (σ:St)
theorem z9J (n:Nat):Ans Tryz.prog 57 [UN n] σ (.sl 1 (byv (wrdB n))) σ:=by
 refine Ans.of_run' t57 (fun u0 _=>?_)
 have z8:Int.toNat 8=8:=rfl;simp -implicitDefEqProofs only[c57,r57,go_sem,mks8,z8,g0,s0,List.length_cons,List.length_nil];refine Go.Ab.L.count 8 (fun i=>mkE 22 [(0,UN n),(3,.osl σ.length 8),(7,I 8),(8,I i)]) (fun i=>σ++[.row 1 (fillW n i)]) ?_ ?_ rfl rfl
 · intro i hi J hJ;have hl:=z4y n i (by omega)
   have d0:decide ((i:Int)<8)=true:=by simp;omega
   have w1:IntKind.i64.wrap (8*(i:Int))=((8*i:Nat):Int):=by rw[wrapN (by omega) (by omega)];push_cast;rfl
   have w2:IntKind.i64.wrap (56-((8*i:Nat):Int))=((56-8*i:Nat):Int):=by rw[wrapN (by omega) (by omega)];omega
   have h3:=shrN n (56-8*i) (by omega)
   rw[Int.toNat_natCast]at h3;have j0:((i:Int)<((8:Nat):Int))=True:=eq_true (by omega)
   have y0:(fillW n i)[i]?=some Zb:=z8I n i hi;have k0:=wrap_succ (i:=i) (by omega)
   have q0:(fillW n i).set i (.pl (.int .u8 ((n/2^(56-8*i)).toUInt8.toNat:Nat)))=fillW n (i+1):=z8H n i hi;simp -implicitDefEqProofs only[mkE,go_sem,d0,w1,w2,h3,zgK,g0,s0,hl,k0,q0,j0,y0];exact hJ
 · intro J;have hl:=z4y n 8 (by omega)
   have d0:decide (((8:Nat):Int)<8)=false:=by decide
   have e8:fillW n 8=byv (wrdB n):=by unfold fillW;rw[List.take_of_length_le (by rw[z05,wrdB_len];omega)];simp
   simp -implicitDefEqProofs only[mkE,go_sem,d0,g0,s0,hl,e8];exact Fini.trim2 (σ':=σ) rfl rfl (Nat.le_refl _) (z1j _ _) u0
def wN (b:Byt):Nat:=b.foldl (fun a c=>a*256+c.toNat) 0
theorem zhE (b:Byt) (c:UInt8):wN (b++[c])=wN b*256+c.toNat:=by simp[wN]
theorem zgL:∀(b:Byt) (a:Nat),b.foldl (fun a c=>a*256+c.toNat) a<(a+1)*2^(8*b.length)
 |[],a=>by simp
 |c::b,a=>by
  have ih:=zgL b (a*256+c.toNat);have hc:=c.toNat_lt;have e:8*(c::b).length=8+8*b.length:=by simp only[List.length_cons];omega
  rw[List.foldl_cons,e,Nat.pow_add,←Nat.mul_assoc];exact Nat.lt_of_lt_of_le ih (Nat.mul_le_mul_right _ (by omega))
theorem wN_lt (b:Byt):wN b<2^(8*b.length):=by have:=zgL b 0;simpa[wN] using this
theorem zaK:∀b:Byt,wordR b=if 8≤b.length then some (wN (b.take 8),b.drop 8) else none
 |a::b::c::d::e::f::g::h::t=>by
  rw[if_pos (by simp only[List.length_cons];omega)]
  simp[wordR,wN]
 |[]=>rfl
 |[_]=>rfl
 |[_,_]=>rfl
 |[_,_,_]=>rfl
 |[_,_,_,_]=>rfl
 |[_,_,_,_,_]=>rfl
 |[_,_,_,_,_,_]=>rfl
 |[_,_,_,_,_,_,_]=>rfl
theorem ziY (n c:Nat) (hc:c<256) (hn:n<2^56):IntKind.u64.wrap ((BitVec.ofInt 64 (IntKind.u64.wrap ((n:Int)*2^min 8 64)) ||| BitVec.ofInt 64 (c:Int)).toNat:Int)=((n*256+c:Nat):Int):=by
 have h:=zgy c n 8 (by omega) (by decide) (by omega)
 rw[BitVec.or_comm];exact h.trans (by congr 1;omega)
def wordV (b:Byt):AV:=match wordR b with
 |none=>.tup [UN 0,Bo false]
 |some p=>.tup [UN p.1,Bo true]
theorem z9K (b:Byt) (hb:b.length≤100000):Ans Tryz.prog 150 [.sl 1 (byv b)] σ (wordV b) σ:=by
 refine Ans.of_run t150 ?_;unfold wordV;rw[zaK];by_cases h8:8≤b.length
 · have d0:decide ((b.length:Int)<8)=false:=by simp;omega
   have l8:(8:Int)≤(b.length:Nat):=by omega
   have u0:(b.take 8).length=8:=by rw[List.length_take];omega
   have z8:Int.toNat 8=8:=rfl;have z0:Int.toNat 0=0:=rfl;rw[if_pos h8];simp only;simp -implicitDefEqProofs only[c150,r150,go_sem,z05,d0,l8,z8,z0,z4m,z5e,List.drop_zero,u0];refine Go.Ab.L.count 8 (fun i=>mkE 24 [(4,UN (wN ((b.take 8).take i))),(11,.sl 1 (byv (b.take 8))),(12,I 8),(13,I i)]) (fun _=>σ) ?_ ?_ rfl rfl
   · intro i hi J hJ;have hx:=zcR (b.take 8) i (by omega)
     have hs:(b.take 8).take (i+1)=(b.take 8).take i++[(b.take 8)[i]]:=List.take_succ_eq_append_getElem (by omega)
     rw[hs,zhE]at hJ;have hl:=wN_lt ((b.take 8).take i);rw[List.length_take]at hl;have hl:wN ((b.take 8).take i)<2^56:=Nat.lt_of_lt_of_le hl (Nat.pow_le_pow_right (by decide) (by omega))
     have hc:=((b.take 8)[i]).toNat_lt;generalize (b.take 8)[i]=c at hx hJ hc;generalize wN ((b.take 8).take i)=w at hl hJ⊢;have k0:=ziY w c.toNat hc hl;have j0:=z1q (n:=c.toNat) (by omega)
     have d1:decide ((i:Int)<8)=true:=by simp;omega
     have y0:((i:Int)<((8:Nat):Int))=True:=eq_true (by omega)
     have q0:=wrap_succ (i:=i) (by omega)
     simp -implicitDefEqProofs only[mkE,go_sem,d1,z05,u0,y0,hx,bc,j0,z8,q0]
     have key:∀v:Int,v=((w*256+c.toNat:Nat):Int)→J (mkE 24 [(4,.pl (.int .u64 v)),(11,.sl 1 (byv (b.take 8))),(12,I 8),(13,I ((i+1:Nat):Int))]) σ:=by
      rintro _ rfl;exact hJ
     exact key _ k0
   · intro J;have d1:decide (((8:Nat):Int)<8)=false:=by decide
     have e8:(b.take 8).take 8=b.take 8:=List.take_of_length_le (by omega)
     simp -implicitDefEqProofs only[mkE,go_sem,d1,e8];exact Fini.ret rfl
 · have d0:decide ((b.length:Int)<8)=true:=by simp;omega
   rw[if_neg h8];simp -implicitDefEqProofs only[c150,r150,go_sem,z05,d0];exact Fini.ret rfl
theorem z8J (u:Nat):Ans Tryz.prog 148 [UN u] σ (Fl u) σ:=ext_frombits.ok _ _ _ _ rfl
theorem zgM (u:Nat):Ans Tryz.prog 129 [UN u] σ (.tup [Fl (if okV u then u else 0),Bo (okV u)]) σ:=by
 have e:(((bitsF u:Nat):Int) != (u:Nat))= !okV u:=by
  unfold okV;rw[bne];congr 1
  rw[Bool.eq_iff_iff];simp only[beq_iff_eq,decide_eq_true_eq];omega
 refine Ans.of_run t129 ?_;simp -implicitDefEqProofs only[c129,r129,go_sem];refine CO.intro (z8J σ u) ?_;simp -implicitDefEqProofs only[go_sem];refine CO.intro (z5k σ u) ?_;simp -implicitDefEqProofs only[go_sem,e]
 cases h:okV u with
 |true =>
  simp -implicitDefEqProofs only[go_sem];exact Fini.ret rfl
 |false =>
  simp -implicitDefEqProofs only[go_sem];exact Fini.ret rfl
section
variable (p:Nat) (b:Byt) (q:Nat×Bool)
theorem zaL (h:σ[p]?=some (rob b q)) (hq:Inb b q) (hb:b.length≤50000) :
  Ans Tryz.prog 130 [.ptr p 0] σ (UN (runR wordR 0 b q).1) (σ.set p (rob b (runR wordR 0 b q).2)):=by
 refine Ans.of_run t130 ?_;simp -implicitDefEqProofs only[c130,r130,go_sem];refine CO.intro (z18 σ p b q h hq) ?_;simp -implicitDefEqProofs only[go_sem];refine CO.intro (z9K σ (b.drop q.1) (by rw[List.length_drop];omega)) ?_
 obtain⟨a,bad⟩:=q;simp only at hq h⊢;have hq:a≤b.length:=hq;unfold wordV;have hw:=zaK (b.drop a);have ht:=z19 σ p b (a,bad) 8 (wordR (b.drop a)).isSome h (by simp only;omega)
 cases hg:wordR (b.drop a) with
 |none =>
  rw[hg]at ht;have e:took (a,bad) 8 (none:Option (Nat×Byt)).isSome=(a,true):=by cases bad<;>rfl
  rw[e]at ht;simp -implicitDefEqProofs only[go_sem];refine CO.intro ht ?_;simp -implicitDefEqProofs only[go_sem]
  cases bad with
  |true=>rw[z0O];exact Fini.ret rfl
  |false=>rw[z0V hg];exact Fini.ret rfl
 |some x =>
  obtain⟨n,t⟩:=x;rw[hg]at ht hw
  have hl:t.length=b.length-(a+8)∧a+8≤b.length:=by
   split at hw
   · rename_i h8;simp only[Option.some.injEq,Prod.mk.injEq]at hw;rw[hw.2,List.length_drop,List.length_drop];rw[List.length_drop]at h8;omega
   · cases hw
  simp -implicitDefEqProofs only[go_sem];refine CO.intro ht ?_
  cases bad with
  |true =>
   have e:took (a,true) 8 (some (n,t)).isSome=(a,true):=rfl;rw[e,z0O];simp -implicitDefEqProofs only[go_sem];exact Fini.ret rfl
  |false =>
   have e:took (a,false) 8 (some (n,t)).isSome=(b.length-t.length,false):=by
    simp only[took,Option.isSome_some,Bool.false_or,Bool.not_true,Bool.false_eq_true,if_false];congr 1;omega
   rw[e,z0L hg];simp -implicitDefEqProofs only[go_sem];exact Fini.ret rfl
theorem zaM (h:σ[p]?=some (rob b q)) (hq:Inb b q) (hb:b.length≤50000) :
  Ans Tryz.prog 144 [.ptr p 0] σ (Fl (valS b q).1) (σ.set p (rob b (valS b q).2)):=by
 refine Ans.of_run t144 ?_;simp -implicitDefEqProofs only[c144,r144,go_sem];refine CO.intro (zaL σ p b q h hq hb) ?_;have u0:=z0h wordR 0 b q hq;unfold valS;generalize runR wordR 0 b q=w at u0⊢;simp -implicitDefEqProofs only[go_sem];refine CO.intro (zgM _ w.1) ?_;simp -implicitDefEqProofs only[go_sem];have h2:=z0d (σ.set p (rob b w.2)) p b w.2 (okV w.1) (z5Q h _) u0 hb;rw[List.set_set]at h2;refine CO.intro h2 ?_;simp -implicitDefEqProofs only[go_sem];exact Fini.ret rfl
end
end
def vals8:List ByteArray:=values++[⟨#[]⟩]
abbrev Mz:=Int×ByteArray×ByteArray
abbrev mv (x:Mz):AV:=mat x.1 x.2.1 x.2.2
def mvs (M:List Mz):List AV:=M.map mv
abbrev noM':Mz:=(0,⟨#[]⟩,⟨#[]⟩)
theorem z24 (M:List Mz):(mvs M).length=M.length:=List.length_map ..
theorem zhF (M:List Mz) (i:Nat) (h:i<M.length):(mvs M)[i]?=some (mv M[i]):=by simp[mvs,h]
theorem z7A (L:List Mz) (k:Nat):(mvs L).take k=mvs (L.take k):=by simp[mvs]
theorem z7B (L:List Mz) (k:Nat):(mvs L).drop k=mvs (L.drop k):=by simp[mvs]
theorem z9L (L:List Mz) (f:AV→Bool) (h:∀x:Mz,f (mv x)=true):(mvs L).all f=true:=by
 simp only[mvs,List.all_map,List.all_eq_true];exact fun x _=>h x
theorem z9M:mvs []=[]:=rfl
theorem z6d (L:List Mz):(mvs L).isEmpty=L.isEmpty:=by simp[mvs]
theorem z9N (A B:List Mz) (x:Mz):mvs (A++[x]++B)=mvs A++mv x::mvs B:=by simp[mvs]
theorem z49 (n:Nat) (L:List Mz):Bel n (.sl 3 (mvs L)):=by
 refine .sl 3 _ fun i hi=>?_
 have:∀y∈mvs L,Bel n y:=by
  intro y hy;simp only[mvs,List.mem_map]at hy;obtain⟨x,_,rfl⟩:=hy;exact z9s n _ _ _
 exact this _ (List.getElem_mem hi)
theorem B_mvs (n:Nat) (L:List Mz):Bel n (.sl 3 (mvs L))=True:=eq_true (z49 n L)
theorem B_mat (n:Nat) (k:Int) (a b:ByteArray):Bel n (mat k a b)=True:=eq_true (z9s n k a b)
theorem B_m1 (n:Nat) (k:Int) (a b:ByteArray):Bel n (.sl 3 [mat k a b])=True:=eq_true (z49 n [(k,a,b)])
theorem z7C (n:Nat) (L:List Mz) (k:Int) (a b:ByteArray):Bel n (.sl 3 (mat k a b::mvs L))=True:=eq_true (z49 n ((k,a,b)::L))
theorem zaN (n:Nat) (A B:List Mz) (k:Int) (a b:ByteArray):Bel n (.sl 3 (mvs A++mat k a b::mvs B))=True:=eq_true (by have:=z49 n (A++[(k,a,b)]++B);rwa [z9N]at this)
theorem B_rp3 (n:Nat) (k:Int) (a b:ByteArray):Bel n (.rp [I k,Sx a,Sx b])=True:=eq_true (.rp _ fun i hi=>by
 have:∀y∈[I k,Sx a,Sx b],Bel n y:=by
  intro y hy;simp only[List.mem_cons,List.not_mem_nil,or_false]at hy;rcases hy with rfl|rfl|rfl<;>exact .pl _
 exact this _ (List.getElem_mem hi))
abbrev dv (d:Int×Int×Int):AV:=.agg [I d.1,I d.2.1,I d.2.2]
theorem B_ds (n:Nat) (ds:List (Int×Int×Int)):Bel n (.sl 3 (ds.map dv))=True:=eq_true (.sl 3 _ fun i hi=>by
 have:∀y∈ds.map dv,Bel n y:=by
  intro y hy;simp only[List.mem_map]at hy;obtain⟨x,_,rfl⟩:=hy;refine .agg _ fun i hi=>?_
  have:∀y∈[I x.1,I x.2.1,I x.2.2],Bel n y:=by
   intro y hy;simp only[List.mem_cons,List.not_mem_nil,or_false]at hy;rcases hy with rfl|rfl|rfl<;>exact .pl _
  exact this _ (List.getElem_mem hi)
 exact this _ (List.getElem_mem hi))
theorem B_d3 (n:Nat) (a b c:Int):Bel n (.agg [I a,I b,I c])=True:=eq_true (.agg _ fun i hi=>by
 have:∀y∈[I a,I b,I c],Bel n y:=by
  intro y hy;simp only[List.mem_cons,List.not_mem_nil,or_false]at hy;rcases hy with rfl|rfl|rfl<;>exact .pl _
 exact this _ (List.getElem_mem hi))
theorem B_rpd (n:Nat) (a b c:Int):Bel n (.rp [I a,I b,I c])=True:=eq_true (.rp _ fun i hi=>by
 have:∀y∈[I a,I b,I c],Bel n y:=by
  intro y hy;simp only[List.mem_cons,List.not_mem_nil,or_false]at hy;rcases hy with rfl|rfl|rfl<;>exact .pl _
 exact this _ (List.getElem_mem hi))
def z3e (x y:Mz):Bool :=
 if !(x.2.1.toList==y.2.1.toList) then Op.bytesLess x.2.1.toList y.2.1.toList
 else if x.1 != y.1 then decide (x.1<y.1) else Op.bytesLess x.2.2.toList y.2.2.toList
def eqM (x y:Mz):Bool:=x.1==y.1&&(x.2.1.toList==y.2.1.toList&&x.2.2.toList==y.2.2.toList)
def posM (out:List Mz) (x:Mz):Nat→Nat
 |0=>0
 |n+1=>if z3e x (out.getD n noM') then posM out x n else n+1
def insM (out:List Mz) (x:Mz):List Mz :=
 let p:=posM out x out.length
 if decide (0<p)&&eqM (out.getD (p-1) noM') x then out else out.take p++[x]++out.drop p
def matOf (d:Int×Int×Int):Mz:=(inD d.1 1 4,nameOf d.2.1,z35 d.1 d.2.2)
def z0y:List (Int×Int×Int)→List Mz→List Mz
 |[],out=>out
 |d::ds,out=>if out.length<5 then z0y ds (insM out (matOf d)) else out
section
variable (σ:St)
theorem zdp (x y:Mz):Ans Tryz.prog 113 [mv x,mv y] σ (Bo (z3e x y)) σ:=by
 unfold z3e;refine Ans.of_run t113 ?_;simp -implicitDefEqProofs only[c113,r113,go_sem];cases h1:x.2.1.toList==y.2.1.toList
 · simp -implicitDefEqProofs only[go_sem];exact Fini.ret rfl
 · simp -implicitDefEqProofs only[go_sem];cases h2:x.1 != y.1
   · simp -implicitDefEqProofs only[go_sem];exact Fini.ret rfl
   · simp -implicitDefEqProofs only[go_sem];exact Fini.ret rfl
def mustL (b:Bool) (L:List Mz):List Mz:=if b&&L.isEmpty then[(1,⟨#[115,101,118]⟩,⟨#[97]⟩)] else L
def slotM (L:List Mz):AV:=if L.isEmpty then .nils else .sl 3 (mvs L)
theorem zdq:slotM []=.nils:=rfl
theorem z7D {L:List Mz} (h:L≠[]):slotM L=.sl 3 (mvs L):=by
 unfold slotM
 cases L with
 |nil=>exact absurd rfl h
 |cons _ _=>rfl
theorem z7E (out:List Mz) (x:Mz):insM out x≠[]:=by
 unfold insM;simp only;split
 · rename_i h;intro e;subst e;simp[posM]at h
 · simp
theorem z6e:∀(ds:List (Int×Int×Int)) (out:List Mz),out≠[]→z0y ds out≠[]
 |[],out,h=>h
 |d::ds,out,h=>by
  rw[z0y];split
  · exact z6e ds _ (z7E _ _)
  · exact h
theorem zhG (must:Bool) (ds:List (Int×Int×Int)) (hne:ds≠[]) (hl:ds.length≤9223372036854775807):Ans Tryz.prog 87 [.sl 3 (ds.map dv),Bo must] σ (.sl 3 (mvs (z0y ds []))) σ:=by
 have q0:z0y ds []≠[]:=by
  cases ds with
  |nil=>exact absurd rfl hne
  |cons d ds =>
   rw[z0y,if_pos (by decide)]
   exact z6e ds _ (z7E _ _)
 refine Ans.of_run' t87 (fun o0 _=>?_)
 have y0:(∀o∈σ,BelO σ.length o)=True:=eq_true o0;simp -implicitDefEqProofs only[c87,r87,go_sem,B_pl,B_any,z2y,B_tup,B_osl,B_ptr,B_sl0,B_mvs,B_mat,B_m1,z7C,zaN,B_rp3,B_ds,B_d3,B_rpd,List.take_left,y0,g0,s0,List.length_append,Nat.le_add_right];generalize f0:z0y ds []=res at q0⊢;have t0:(((ds.map dv).length:Nat):Int)=(ds.length:Nat):=by simp
 refine Go.Ab.L.intro (α:={ x:Nat×List Mz // x.1≤ds.length∧x.2.length≤5∧z0y (ds.drop x.1) x.2=res }) (fun x=>ds.length-x.1.1)
  (fun x=>mkE 73 [(0,.sl 3 (ds.map dv)),(1,Bo must),(5,slotM x.1.2),(6,I x.1.1)]) (fun _=>σ)
  (fun x J hJ=>?_) ⟨(0,[]),Nat.zero_le _,Nat.zero_le _,f0⟩ rfl rfl
 obtain⟨⟨i,out⟩,hi,ho,hg⟩:=x;simp only at hi ho hg hJ⊢;by_cases hout:out=[]
 · subst hout;by_cases hlt:i<ds.length
   · have k0:(ds.map dv)[i]?=some (dv ds[i]):=by simp[hlt]
     rw[List.drop_eq_getElem_cons hlt,z0y,if_pos (by decide)]at hg
     have m0:IntKind.i64.wrap ((i:Int)+1)=((i+1:Nat):Int):=by rw[wrapN (by omega) (by omega)];rfl
     have k1:insM [] (matOf ds[i])=[matOf ds[i]]:=rfl;rw[k1]at hg;have u0:=hJ ⟨(i+1,[matOf ds[i]]),hlt,by simp,hg⟩ (by simp only;omega)
     simp only at u0;rw[z7D (by simp)]at u0
     clear hJ hg;rw[zdq];simp -implicitDefEqProofs only[mkE,go_sem,t0,z0e hlt,dec_lt hlt,k0];refine CO.intro (z5H σ _ _ _) ?_;have l0:matOf ds[i]=(inD ds[i].1 1 4,nameOf ds[i].2.1,z35 ds[i].1 ds[i].2.2):=rfl;rw[l0]at u0;generalize inD ds[i].1 1 4=xk at u0⊢;generalize nameOf ds[i].2.1=xn at u0⊢;generalize z35 ds[i].1 ds[i].2.2=xv at u0⊢;simp -implicitDefEqProofs only[go_sem,z24]
     refine Go.Ab.L.intro (α:=Unit) (fun x=>0)
      (fun x=>mkE 73 [(0,.sl 3 (ds.map dv)),(1,Bo must),(5,.sl 3 []),(6,I i),(7,.rp [I xk,Sx xn,Sx xv]),(8,I 0)]) (fun _=>σ)
      (fun x J2 n0=>?_) () rfl rfl
     have h1:(1≤2^32)=True:=by simp
     have m1:(1≤4294967296)=True:=by simp
     have j1:mvs [(xk,xn,xv)]=[.agg [I xk,Sx xn,Sx xv]]:=rfl;rw[j1]at u0;simp -implicitDefEqProofs only[mkE,go_sem,Int.natCast_zero,Int.le_refl,Int.toNat_zero,List.take_length,List.drop_zero,List.drop_nil,z9M,z7A,z7B,z9L,z6d,z24,g0,s0,B_pl,B_any,z2y,B_tup,B_osl,B_ptr,B_sl0,B_mvs,B_mat,B_m1,z7C,zaN,B_rp3,B_ds,B_d3,B_rpd,h1,m1,List.take_left,y0,List.length_append,List.append_assoc,Nat.le_add_right,m0,m0];exact u0
   · have:i=ds.length:=by omega
     subst this;rw[List.drop_length,z0y]at hg;exact absurd hg.symm q0
 rw[z7D hout]
 have n0:∀(a':{ x:Nat×List Mz // x.1≤ds.length∧x.2.length≤5∧z0y (ds.drop x.1) x.2=res }),a'.1.2≠[]→ds.length-a'.1.1<ds.length-i→J (mkE 73 [(0,.sl 3 (ds.map dv)),(1,Bo must),(5,.sl 3 (mvs a'.1.2)),(6,I a'.1.1)]) σ:=fun a' h1 h2=>by
  have:=hJ a' h2;rw[z7D h1]at this;exact this
 clear hJ;by_cases hlt:i<ds.length
 · have k0:(ds.map dv)[i]?=some (dv ds[i]):=by simp[hlt]
   have d5:decide (((out.length:Nat):Int)<5)=decide (out.length<5):=by rw[Bool.eq_iff_iff];simp only[decide_eq_true_eq];omega
   rw[List.drop_eq_getElem_cons hlt,z0y]at hg;simp -implicitDefEqProofs only[mkE,go_sem,t0,z0e hlt,dec_lt hlt,z24,d5];by_cases h5:out.length<5
   · rw[if_pos h5]at hg;have e0:decide (out.length<5)=true:=by simpa using h5
     have m0:IntKind.i64.wrap ((i:Int)+1)=((i+1:Nat):Int):=by rw[wrapN (by omega) (by omega)];rfl
     have u0:=n0 ⟨(i+1,insM out (matOf ds[i])),hlt,by
      unfold insM;simp only;split
      · exact ho
      · simp;omega,hg⟩ (z7E _ _) (by simp only;omega)
     simp only at u0;clear n0 hg;simp -implicitDefEqProofs only[go_sem,e0,k0,t0,z0e hlt];refine CO.intro (z5H σ _ _ _) ?_;simp -implicitDefEqProofs only[go_sem,z24];have hx:mat (inD ds[i].1 1 4) (nameOf ds[i].2.1) (z35 ds[i].1 ds[i].2.2)=mv (matOf ds[i]):=rfl;unfold insM at u0;simp only at u0;generalize hp:posM out (matOf ds[i]) out.length=p at u0;have l0:matOf ds[i]=(inD ds[i].1 1 4,nameOf ds[i].2.1,z35 ds[i].1 ds[i].2.2):=rfl;rw[l0]at hp u0;generalize inD ds[i].1 1 4=xk at hp u0⊢;generalize nameOf ds[i].2.1=xn at hp u0⊢;generalize z35 ds[i].1 ds[i].2.2=xv at hp u0⊢
     refine Go.Ab.L.intro (α:={ n:Nat // n≤out.length∧posM out (xk,xn,xv) n=p }) (fun x=>x.1)
      (fun x=>mkE 73 [(0,.sl 3 (ds.map dv)),(1,Bo must),(5,.sl 3 (mvs out)),(6,I i),(7,.rp [I xk,Sx xn,Sx xv]),(8,I x.1)]) (fun _=>σ)
      (fun x J2 n0=>?_) ⟨out.length,Nat.le_refl _,hp⟩ rfl rfl
     obtain⟨n,hn,j0⟩:=x;simp only at n0⊢
     cases n with
     |zero =>
      rw[posM]at j0;subst j0;have h1:(1≤2^32)=True:=by simp
      have y1:decide ((0:Int)<((0:Nat):Int))=false:=by decide
      have u1:(1+out.length≤2^32)=True:=by simp;omega
      have q1:(1+out.length=out.length+1)=True:=by simp;omega
      rw[show decide (0<0)=false from rfl,Bool.false_and,if_neg Bool.false_ne_true,z9N]at u0
      simp -implicitDefEqProofs only[mkE,go_sem,q1,y1,Int.natCast_zero,Int.le_refl,Int.toNat_zero,List.take_length,List.drop_zero,List.drop_nil,z9M,z7A,z7B,z9L,z6d,z24,g0,s0,B_pl,B_any,z2y,B_tup,B_osl,B_ptr,B_sl0,B_mvs,B_mat,B_m1,z7C,zaN,B_rp3,B_ds,B_d3,B_rpd,u1,h1,List.take_left,y0,List.length_append,List.append_assoc,Nat.le_add_right,m0];exact u0
     |succ n =>
      have hy:=zhF out n hn;have x1:out.getD n noM'=out[n]:=by rw[List.getD_eq_getElem?_getD,List.getElem?_eq_getElem hn];rfl
      have d0:decide ((0:Int)<((n+1:Nat):Int))=true:=by simp
      have e1:IntKind.i64.wrap (((n+1:Nat):Int)-1)=(n:Int):=by rw[wrapN (by omega) (by omega)];omega
      rw[posM,x1]at j0;have ha:=fun s=>zdp s (xk,xn,xv) out[n]
      have heq:∀y:Mz,eqM y (xk,xn,xv)=(y.1==xk&&(y.2.1.toList==xn.toList&&y.2.2.toList==xv.toList)):=fun _=>rfl
      simp -implicitDefEqProofs only[mkE,go_sem,z01,d0,e1,z24,z0e hn,hy]
      first|refine CO.intro (ha _) ?_|refine CD.intro (ha _) ?_|refine CS.intro ha ?_
      cases hb:z3e (xk,xn,xv) out[n]
      · rw[hb,if_neg Bool.false_ne_true]at j0;subst j0;rw[show decide (0<n+1)=true by simp,Bool.true_and,show n+1-1=n from rfl,x1,heq]at u0
        have p1:(((n+1:Nat):Int)≤(out.length:Nat))=True:=by simp;omega
        have p2:(out.take (n+1)).isEmpty=false:=by
         cases h:out.take (n+1) with
         |nil =>
          have:(out.take (n+1)).length=0:=by rw[h];rfl
          rw[List.length_take]at this;omega
         |cons _ _=>rfl
        have p3:(out.take (n+1)).length=n+1:=by simp;omega
        have p4:(out.drop (n+1)).length=out.length-(n+1):=by simp
        have p5:(n+1≤2^32)=True:=by simp;omega
        have p6:(n+1+1≤2^32)=True:=by simp;omega
        have p7:(n+1+1+(out.length-(n+1))≤2^32)=True:=by simp;omega
        have q2:(n+1+1+(out.length-(n+1))=n+1+(out.length-(n+1)+1))=True:=by simp;omega
        simp -implicitDefEqProofs only[go_sem,z01,d0,e1,z24,z0e hn,hy];cases he:(out[n].1==xk&&(out[n].2.1.toList==xn.toList&&out[n].2.2.toList==xv.toList))
        · rw[he,if_neg Bool.false_ne_true,z9N]at u0;simp -implicitDefEqProofs only[go_sem,he,q2,Int.natCast_zero,Int.le_refl,Int.toNat_zero,List.take_length,List.drop_zero,List.drop_nil,z9M,z7A,z7B,z9L,z6d,z24,g0,s0,B_pl,B_any,z2y,B_tup,B_osl,B_ptr,B_sl0,B_mvs,B_mat,B_m1,z7C,zaN,B_rp3,B_ds,B_d3,B_rpd,List.take_left,y0,List.length_append,List.append_assoc,Nat.le_add_right,m0,p1,p2,p3,p4,p5,p6,p7];exact u0
        · rw[he,if_pos rfl]at u0;simp -implicitDefEqProofs only[go_sem,he,m0];exact u0
      · rw[hb,if_pos rfl]at j0;have r0:=n0 ⟨n,by omega,j0⟩ (Nat.lt_succ_self n)
        simp only at r0;simp -implicitDefEqProofs only[mkE,go_sem,z01,d0,e1,z24,z0e hn,hy];exact r0
   · rw[if_neg h5]at hg;have e0:decide (out.length<5)=false:=by simpa using h5
     have h0:((out.length:Int)==0)=false:=by simp;omega
     subst hg
     cases must with
     |true =>
      simp -implicitDefEqProofs only[go_sem,e0,z24,h0];exact Fini.ret rfl
     |false =>
      simp -implicitDefEqProofs only[go_sem,e0,z24];exact Fini.ret rfl
 · have:i=ds.length:=by omega
   subst this;rw[List.drop_length,z0y]at hg
   have h0:((out.length:Int)==0)=false:=by
    cases out with
    |nil=>exact absurd rfl hout
    |cons a b=>simp;omega
   subst hg
   cases must with
   |true =>
    simp -implicitDefEqProofs only[mkE,go_sem,t0,z3g hlt,z3h hlt,z24,h0];exact Fini.ret rfl
   |false =>
    simp -implicitDefEqProofs only[mkE,go_sem,t0,z3g hlt,z3h hlt,z24];exact Fini.ret rfl
theorem z3J (must:Bool) (ds:List (Int×Int×Int)) (hl:ds.length≤9223372036854775807):Ans Tryz.prog 87 [.sl 3 (ds.map dv),Bo must] σ (.sl 3 (mvs (mustL must (z0y ds [])))) σ:=by
 cases ds with
 |cons d ds =>
  have q0:z0y (d::ds) []≠[]:=by
   rw[z0y,if_pos (by decide)]
   exact z6e ds _ (z7E _ _)
  have e:mustL must (z0y (d::ds) [])=z0y (d::ds) []:=by
   unfold mustL
   cases h:z0y (d::ds) [] with
   |nil=>exact absurd h q0
   |cons _ _=>simp
  rw[e];exact zhG σ must (d::ds) (by simp) hl
 |nil =>
  have d0:decide ((0:Int)<((0:Nat):Int))=false:=by decide
  cases must with
  |false =>
   have:Ans Tryz.prog 87 [.sl 3 (([]:List (Int×Int×Int)).map dv),Bo false] σ .nils σ:=by
    refine Ans.of_run t87 ?_;simp -implicitDefEqProofs only[c87,r87,go_sem];refine Go.Ab.L.intro (α:=Unit) (fun x=>0) (fun x=>mkE 73 [(0,.sl 3 []),(1,Bo false),(5,.nils),(6,I 0)]) (fun _=>σ) (fun x J2 y0=>?_) () rfl rfl
    simp -implicitDefEqProofs only[mkE,go_sem,d0];exact Fini.ret rfl
   exact this.subR (.nils 3)
  |true =>
   refine Ans.of_run' t87 (fun u0 _=>?_)
   have h1:(1≤2^32)=True:=by simp
   simp -implicitDefEqProofs only[c87,r87,go_sem];refine Go.Ab.L.intro (α:=Unit) (fun x=>0) (fun x=>mkE 73 [(0,.sl 3 []),(1,Bo true),(5,.nils),(6,I 0)]) (fun _=>σ) (fun x J2 y0=>?_) () rfl rfl
   have b0:(((0:Nat):Int)==0)=true:=by decide
   simp -implicitDefEqProofs only[mkE,go_sem,d0,b0,h1,g0,s0];exact Fini.trim2 (σ':=σ) rfl rfl (Nat.le_refl _) (z49 _ [(1,⟨#[115,101,118]⟩,⟨#[97]⟩)]) u0
end
def allV:List ByteArray:=vals8++pats
instance:DecidableEq ByteArray:=fun a b=>decidable_of_iff (a.data=b.data) (by cases a;cases b;simp)
theorem zdr:∀a∈names,∀b∈names,(a.toList==b.toList||(Op.bytesLess a.toList b.toList||Op.bytesLess b.toList a.toList))=true:=by decide +kernel
theorem zft:∀a∈allV,∀b∈allV,(a.toList==b.toList||(Op.bytesLess a.toList b.toList||Op.bytesLess b.toList a.toList))=true:=by decide +kernel
structure MOK (x:Mz):Prop where
 lo:1≤x.1
 hi:x.1≤4
 nm:x.2.1∈names
 low:x.1<3→x.2.2∈vals8
 high:¬x.1<3→x.2.2∈pats
theorem MOK.val {x:Mz} (h:MOK x):x.2.2∈allV:=by
 unfold allV;by_cases h3:x.1<3
 · exact List.mem_append_left _ (h.low h3)
 · exact List.mem_append_right _ (h.high h3)
theorem zbS (k v:Int) (h:inD k 1 4<3):z35 k v∈vals8:=by
 unfold z35;rw[if_pos h];split
 · simp[vals8]
 · have:=z5G v;simp[vals8,this]
theorem z9O (k v:Int) (h:¬inD k 1 4<3):z35 k v∈pats:=by
 unfold z35;rw[if_neg h];exact zcA v
theorem zaO (d:Int×Int×Int):MOK (matOf d) :=
 ⟨(z4V d.1 1 4 (by omega)).1,(z4V d.1 1 4 (by omega)).2,z6K _,zbS _ _,z9O _ _⟩
theorem z8K (a b:List UInt8):(a==b)=(b==a):=by rw[Bool.eq_iff_iff,beq_iff_eq,beq_iff_eq];exact eq_comm
theorem tri {x y:Mz} (hx:MOK x) (hy:MOK y) (h:z3e x y=false) (he:eqM y x=false):z3e y x=true:=by
 have h1:=zdr _ hx.nm _ hy.nm;have h2:=zft _ hx.val _ hy.val;unfold z3e at h⊢;unfold eqM at he;rw[z8K y.2.1.toList]at he⊢;rw[z8K y.2.2.toList]at he;cases e1:x.2.1.toList==y.2.1.toList
 · rw[e1]at h h1;simp only[Bool.not_false,if_true,Bool.false_or]at h h1⊢;rw[h]at h1;simpa using h1
 · rw[e1]at h he;simp only[Bool.not_true,Bool.false_eq_true,if_false,Bool.true_and]at h he⊢;by_cases e2:x.1=y.1
   · have n1:(x.1 != y.1)=false:=by simp[e2]
     have n2:(y.1 != x.1)=false:=by simp[e2]
     have n3:(y.1==x.1)=true:=by simp[e2]
     rw[n1]at h;rw[n3]at he;rw[n2];simp only[Bool.false_eq_true,if_false,Bool.true_and]at h he⊢;rw[he,h]at h2;simpa using h2
   · have n1:(x.1 != y.1)=true:=by simp[e2]
     have n2:(y.1 != x.1)=true:=by simp[Ne.symm e2]
     rw[n1]at h;rw[n2];simp only[if_true,decide_eq_false_iff_not,decide_eq_true_eq]at h⊢;omega
def Adj (M:List Mz):Prop:=∀i a b,M[i]?=some a→M[i+1]?=some b→z3e a b=true
theorem z8L (out:List Mz) (x:Mz):∀n,posM out x n≤n∧(0<posM out x n→z3e x (out.getD (posM out x n-1) noM')=false)∧(posM out x n<n→z3e x (out.getD (posM out x n) noM')=true)
 |0=>⟨Nat.le_refl _,fun h=>absurd h (Nat.lt_irrefl _),fun h=>absurd h (Nat.lt_irrefl _)⟩
 |n+1=>by
  rw[posM];cases h:z3e x (out.getD n noM')
  · simp only[Bool.false_eq_true,if_false];exact⟨Nat.le_refl _,fun _=>h,fun h=>absurd h (Nat.lt_irrefl _)⟩
  · simp only[if_true];obtain⟨h1,h2,h3⟩:=z8L out x n;refine⟨Nat.le_succ_of_le h1,h2,fun hlt=>?_⟩
    rcases Nat.lt_or_ge (posM out x n) n with h4|h4
    · exact h3 h4
    · have:posM out x n=n:=by omega
      rw[this];exact h
theorem zhH (out:List Mz) (x:Mz) (p:Nat) (hp:p≤out.length) (j:Nat):(out.take p++[x]++out.drop p)[j]?=if j<p then out[j]? else if j=p then some x else out[j-1]?:=by
 have hl:(out.take p).length=p:=by simp;omega
 rw[List.append_assoc];split
 · rename_i h;rw[List.getElem?_append_left (by omega),List.getElem?_take,if_pos h]
 · rename_i h;rw[List.getElem?_append_right (by omega),hl]
   split
   · rename_i h2;subst h2;simp
   · rename_i h2;rw[List.singleton_append,show j-p=(j-1-p)+1 by omega,List.getElem?_cons_succ,List.getElem?_drop]
     congr 1
     omega
theorem zds {out:List Mz} {i:Nat} {a:Mz} (h:out[i]?=some a):out.getD i noM'=a:=by
 rw[List.getD_eq_getElem?_getD,h];rfl
theorem zfu {out:List Mz} {x:Mz} (hx:MOK x) (ho:∀y∈out,MOK y) (ha:Adj out):Adj (insM out x):=by
 obtain⟨h1,h2,h3⟩:=z8L out x out.length;unfold insM;simp only;generalize posM out x out.length=p at h1 h2 h3;split
 · exact ha
 · rename_i hc;intro i a b u0 y0;rw[zhH out x p h1]at u0 y0;by_cases c1:i+1<p
   · rw[if_pos (by omega)]at u0
     rw[if_pos c1]at y0;exact ha i a b u0 y0
   · by_cases c2:i+1=p
     · rw[if_pos (by omega)]at u0
       rw[if_neg c1,if_pos c2]at y0;simp only[Option.some.injEq]at y0;subst y0;have q0:0<p:=by omega
       have hg:=zds u0;have h4:=h2 q0;rw[show p-1=i by omega,hg]at h4
       have he:eqM a x=false:=by
        cases h:eqM a x
        · rfl
        · rw[show p-1=i by omega,hg,h]at hc
          simp[q0]at hc
       exact tri hx (ho a (List.mem_of_getElem? u0)) h4 he
     · by_cases c3:i=p
       · rw[if_neg (by omega),if_pos c3]at u0
         rw[if_neg c1,if_neg c2,show i+1-1=i by omega,c3]at y0
         simp only[Option.some.injEq]at u0;subst u0;have j0:p<out.length:=(List.getElem?_eq_some_iff.1 y0).1;have h4:=h3 j0
         rwa [zds y0]at h4
       · rw[if_neg (by omega),if_neg c3]at u0
         rw[if_neg c1,if_neg c2]at y0;refine ha (i-1) a b u0 ?_;rw[show i-1+1=i+1-1 by omega]
         exact y0
theorem zhI {out:List Mz} {x:Mz} (hx:MOK x) (ho:∀y∈out,MOK y):∀y∈insM out x,MOK y:=by
 unfold insM;simp only;split
 · exact ho
 · intro y hy;rcases List.mem_append.1 hy with hy|hy
   · rcases List.mem_append.1 hy with hy|hy
     · exact ho y (List.mem_of_mem_take hy)
     · simp only[List.mem_cons,List.not_mem_nil,or_false]at hy;subst hy;exact hx
   · exact ho y (List.mem_of_mem_drop hy)
theorem zfv (out:List Mz) (x:Mz):(insM out x).length≤out.length+1:=by
 unfold insM;simp only;split
 · omega
 · simp;omega
theorem zdt (ds:List (Int×Int×Int)):∀out,out.length≤5→(∀y∈out,MOK y)→Adj out→(z0y ds out).length≤5∧(∀y∈z0y ds out,MOK y)∧Adj (z0y ds out):=by
 induction ds with
 |nil=>intro out h1 h2 h3;exact⟨h1,h2,h3⟩
 |cons d ds ih =>
  intro out h1 h2 h3;rw[z0y];split
  · have:=zfv out (matOf d);exact ih _ (by omega) (zhI (zaO d) h2) (zfu (zaO d) h2 h3)
  · exact⟨h1,h2,h3⟩
theorem zdu (ds:List (Int×Int×Int)):(z0y ds []).length≤5∧(∀y∈z0y ds [],MOK y)∧Adj (z0y ds []) :=
 zdt ds [] (Nat.zero_le _) (fun y hy=>by cases hy) (fun i a b h=>by simp at h)
def z2l (ns:List Int):List Lab:=if z3A (setL (labs ns)) then setL (labs ns) else[]
theorem zdv (σ:St) (ns:List Int):Ans Tryz.prog 90 [.sl 1 (ns.map I)] σ (.sl 2 (lvs (z2l ns))) σ:=by
 refine(zbx σ ns).subR ?_;unfold setV z2l;split
 · exact .refl _
 · exact .nils 2
def bandV (b:Bool×Nat×Nat):AV:=.agg [Bo b.1,Fl b.2.1,Fl b.2.2]
theorem z1N (n:Nat) (b:Bool×Nat×Nat):Bel n (bandV b):=.agg _ fun i hi=>by
 have:∀y∈([Bo b.1,Fl b.2.1,Fl b.2.2]:List AV),Bel n y:=by
  intro y hy;simp only[List.mem_cons,List.not_mem_nil,or_false]at hy;rcases hy with rfl|rfl|rfl<;>exact .pl _
 exact this _ (List.getElem_mem hi)
def ltF (a b:Nat):Bool:=FloatKind.f64.format.order a b==some .lt
theorem zhJ (a b:Nat):(FloatKind.f64.format.order a b==some .lt)=ltF a b:=rfl
def z0I (sel:Int) (lo hi:Nat):Bool×Nat×Nat :=
 if sel.tmod 3==0||(nanF lo||nanF hi) then(true,0,0) else if ltF hi lo then(false,hi,lo) else(false,lo,hi)
section
variable (σ:St)
theorem z7F (sel:Int) (lo hi:Nat):Ans Tryz.prog 88 [.agg [I sel,Fl lo,Fl hi]] σ (bandV (z0I sel lo hi)) σ:=by
 have y0:=fun b=>z1N σ.length b
 unfold bandV at y0⊢;refine Ans.of_run' t88 (fun u0 _=>?_)
 unfold z0I
 cases h1:(sel.tmod 3==0) with
 |true =>
  simp -implicitDefEqProofs only[c88,r88,go_sem,h1,List.append_assoc,List.length_append,g0,s0,g1,s1,Bool.true_or];exact Fini.trim2 (σ':=σ) (ex:=[_,_]) (by simp -implicitDefEqProofs only[go_sem,resA,z03,rvA,oneOf,g0]) rfl (Nat.le_refl _) (y0 (true,0,0)) u0
 |false =>
  simp -implicitDefEqProofs only[c88,r88,go_sem,h1,List.append_assoc,List.length_append,g0,s0,g1,s1,z5j,Bool.false_or]
  cases h2:nanF lo with
  |true =>
   simp -implicitDefEqProofs only[go_sem,g0,s0,g1,s1,Bool.true_or];exact Fini.trim2 (σ':=σ) (ex:=[_,_]) (by simp -implicitDefEqProofs only[go_sem,resA,z03,rvA,oneOf,g0]) rfl (Nat.le_refl _) (y0 (true,0,0)) u0
  |false =>
   simp -implicitDefEqProofs only[go_sem,g0,s0,g1,s1,z5j,Bool.false_or]
   cases h3:nanF hi with
   |true =>
    simp -implicitDefEqProofs only[go_sem,g0,s0,g1,s1];exact Fini.trim2 (σ':=σ) (ex:=[_,_]) (by simp -implicitDefEqProofs only[go_sem,resA,z03,rvA,oneOf,g0]) rfl (Nat.le_refl _) (y0 (true,0,0)) u0
   |false =>
    simp -implicitDefEqProofs only[go_sem,g0,s0,g1,s1,zhJ]
    cases h4:ltF hi lo with
    |true =>
     simp -implicitDefEqProofs only[go_sem,g0,s0,g1,s1];exact Fini.trim2 (σ':=σ) (ex:=[_,_]) (by simp -implicitDefEqProofs only[go_sem,resA,z03,rvA,oneOf,g0]) rfl (Nat.le_refl _) (y0 (false,hi,lo)) u0
    |false =>
     simp -implicitDefEqProofs only[go_sem,g0,s0,g1,s1];exact Fini.trim2 (σ':=σ) (ex:=[_,_]) (by simp -implicitDefEqProofs only[go_sem,resA,z03,rvA,oneOf,g0]) rfl (Nat.le_refl _) (y0 (false,lo,hi)) u0
end
theorem z7G (l:List ByteArray) (s:ByteArray):txs (l++[s])=txs l++[Sx s]:=by simp[txs]
theorem z3r:txs []=[]:=rfl
theorem zdw (l:List ByteArray) (f:AV→Bool) (h:∀x:ByteArray,f (Sx x)=true):(txs l).all f=true:=by
 simp only[txs,List.all_map,List.all_eq_true];exact fun x _=>h x
theorem z0F (n:Nat) (L:List ByteArray):Bel n (.sl 1 (txs L)):=by
 refine .sl 1 _ fun i hi=>?_
 have:∀y∈txs L,Bel n y:=by
  intro y hy;simp only[txs,List.mem_map]at hy;obtain⟨x,_,rfl⟩:=hy;exact .pl _
 exact this _ (List.getElem_mem hi)
def nm5:List ByteArray:=[⟨#[90,111,110,101,57]⟩,⟨#[95,120]⟩,⟨#[104,111,115,116]⟩,⟨#[106,111,98]⟩,⟨#[115,101,118]⟩]
def hasN (ns:List Int) (s:ByteArray):Bool:=ns.any fun k=>(nameOf k).toList==s.toList
def eqGo (ns:List Int):List ByteArray→List ByteArray→List ByteArray
 |[],e=>e
 |s::r,e=>if e.length<4 then eqGo ns r (if hasN (ns.take 9) s then e++[s] else e) else e
def z4a (ns:List Int):List ByteArray:=eqGo ns nm5 []
theorem g2 (σ:St) (x y z:Ob) (ex:St):(σ++x::y::z::ex)[σ.length+2]?=some z:=by rw[List.getElem?_append_right (by simp)];simp
theorem s2 (σ:St) (x y z u:Ob) (ex:St):(σ++x::y::z::ex).set (σ.length+2) u=σ++x::y::u::ex:=by rw[List.set_append_right _ _ (by simp)];simp
def rwC (σ:St) (e:List ByteArray):AV:=if e.isEmpty then .nils else .osl (σ.length+2) e.length
def rwS (e:List ByteArray):St:=if e.isEmpty then[] else[.row 1 (txs e)]
theorem z6f (σ:St) {e:List ByteArray} (h:e.isEmpty=false):rwC σ e=.osl (σ.length+2) e.length:=by unfold rwC;rw[h];rfl
theorem z6g {e:List ByteArray} (h:e.isEmpty=false):rwS e=[.row 1 (txs e)]:=by unfold rwS;rw[h];rfl
section
variable (σ:St)
theorem zhK (ds es:List (Int×Int×Int)) (sel:Int) (lo hi:Nat) (ns:List Int) (b:Bool×Nat×Nat) (xs ys:List AV)
  (hS:∀σ,Ans Tryz.prog 87 [.sl 3 (ds.map dv),Bo true] σ (.sl 3 xs) σ) (hT:∀σ,Ans Tryz.prog 87 [.sl 3 (es.map dv),Bo true] σ (.sl 3 ys) σ)
  (hxs:∀n,Bel n (.sl 3 xs)) (hys:∀n,Bel n (.sl 3 ys)) (hb:∀σ,Ans Tryz.prog 88 [.agg [I sel,Fl lo,Fl hi]] σ (.agg [Bo b.1,Fl b.2.1,Fl b.2.2]) σ) :
  Ans Tryz.prog 89 [.agg [.sl 3 (ds.map dv),.sl 3 (es.map dv),I sel,Fl lo,Fl hi,.sl 1 (ns.map I)]] σ (.agg [.sl 3 xs,.sl 3 ys,Bo b.1,Fl b.2.1,Fl b.2.2,.sl 1 (txs (z4a ns))]) σ:=by
 have e1:∀L,Bel σ.length (.agg [.sl 3 xs,.sl 3 ys,Bo b.1,Fl b.2.1,Fl b.2.2,.sl 1 (txs L)]):=fun L=>.agg _ fun i hi=>by
  have:∀y∈([.sl 3 xs,.sl 3 ys,Bo b.1,Fl b.2.1,Fl b.2.2,.sl 1 (txs L)]:List AV),Bel σ.length y:=by
   intro y hy;simp only[List.mem_cons,List.not_mem_nil,or_false]at hy;rcases hy with rfl|rfl|rfl|rfl|rfl|rfl
   · exact hxs _
   · exact hys _
   · exact .pl _
   · exact .pl _
   · exact .pl _
   · exact z0F _ L
  exact this _ (List.getElem_mem hi)
 refine Ans.of_run' t89 (fun q0 _=>?_)
 have u1:(∀o∈σ,BelO σ.length o)=True:=eq_true q0;simp -implicitDefEqProofs only[c89,r89,go_sem,g0,s0,List.append_assoc,List.length_append,z01,List.take_left,u1,Nat.le_add_right]
 first|refine CD.intro (hS _) ?_|refine CS.intro hS ?_
 simp -implicitDefEqProofs only[go_sem,g0,s0,z01]
 first|refine CD.intro (hT _) ?_|refine CS.intro hT ?_
 simp -implicitDefEqProofs only[go_sem,g0,s0,z01]
 first|refine CD.intro (hb _) ?_|refine CS.intro hb ?_
 simp -implicitDefEqProofs only[go_sem,g0,s0,z01];obtain⟨b1,b2,b3⟩:=b;simp only;generalize m1:z4a ns=res;clear hS hT hb;generalize hD:AV.sl 3 (ds.map dv)=D1;generalize hE:AV.sl 3 (es.map dv)=D2;have d0:∀i (h:i<ns.length),(ns.map I)[i]?=some (I ns[i]):=fun i h=>by simp[h]
 have r0:(ns.map I).length=ns.length:=by simp
 generalize ns.map I=nsI at d0 r0⊢
 refine Go.Ab.L.intro (α:={ x:Nat×List ByteArray // x.1≤5∧x.2.length≤x.1∧eqGo ns (nm5.drop x.1) x.2=res }) (fun x=>5-x.1.1)
  (fun x=>mkE 56 [(1,.rp [D1,D2,I sel,Fl lo,Fl hi,.sl 1 nsI]),(2,.ptr σ.length 0),(3,.ptr (σ.length+1) 0),(4,I x.1.1)])
  (fun x=>σ++[.box [.nils,.nils,Bo false,Fl 0,Fl 0,.nils]]++[.box [AV.sl 3 xs,AV.sl 3 ys,Bo b1,Fl b2,Fl b3,rwC σ x.1.2]]++rwS x.1.2)
  (fun x J hJ=>?_) ⟨(0,[]),Nat.zero_le _,Nat.zero_le _,m1⟩ (by simp[mkE]) (by simp[rwC,rwS])
 obtain⟨⟨n,e⟩,hn,he,hg⟩:=x;simp only at hn he hg hJ⊢
 have t1:∀m e',n<m→m≤5→e'.length≤m→eqGo ns (nm5.drop m) e'=res→J (mkE 56 [(1,.rp [D1,D2,I sel,Fl lo,Fl hi,.sl 1 nsI]),(2,.ptr σ.length 0),(3,.ptr (σ.length+1) 0),(4,I m)]) (σ++[.box [.nils,.nils,Bo false,Fl 0,Fl 0,.nils]]++[.box [AV.sl 3 xs,AV.sl 3 ys,Bo b1,Fl b2,Fl b3,rwC σ e']]++rwS e') :=
  fun m e' h1 h2 h3 h4=>hJ ⟨(m,e'),h2,h3,h4⟩ (by simp only;omega)
 clear hJ;have d4:decide (((e.length:Nat):Int)<4)=decide (e.length<4):=by rw[Bool.eq_iff_iff];simp only[decide_eq_true_eq];omega
 have d5:decide ((n:Int)<5)=decide (n<5):=by rw[Bool.eq_iff_iff];simp only[decide_eq_true_eq];omega
 have n21:(σ.length+2≠σ.length+1)=True:=eq_true (by omega)
 have n12:(σ.length+1≠σ.length+2)=True:=eq_true (by omega)
 have n0:∀env (ex:St) z,env=z→resA env (σ++.box [.sl 3 xs,.sl 3 ys,Bo b1,Fl b2,Fl b3,.sl 1 (txs res)]::ex) [RV.cell 2 6 true]=some (.agg [.sl 3 xs,.sl 3 ys,Bo b1,Fl b2,Fl b3,.sl 1 (txs res)]) →
   (∀o∈σ,BelO σ.length o)→Fini σ.length [RV.cell 2 6 true] (.agg [.sl 3 xs,.sl 3 ys,Bo b1,Fl b2,Fl b3,.sl 1 (txs res)]) σ .ret z (σ++.box [.sl 3 xs,.sl 3 ys,Bo b1,Fl b2,Fl b3,.sl 1 (txs res)]::ex):=by
  intro env ex z hz h1 h2;subst hz;exact Fini.trim2 (σ':=σ) h1 rfl (Nat.le_refl _) (e1 res) h2
 by_cases h5:n<5
 · obtain⟨s,hs1,hs2⟩:∃s,nm5.drop n=s::nm5.drop (n+1)∧(List.drop n [Sx ⟨#[90,111,110,101,57]⟩,Sx ⟨#[95,120]⟩,Sx ⟨#[104,111,115,116]⟩,Sx ⟨#[106,111,98]⟩,Sx ⟨#[115,101,118]⟩]).head?=some (Sx s):=by
    have:n=0∨n=1∨n=2∨n=3∨n=4:=by omega
    rcases this with rfl|rfl|rfl|rfl|rfl<;>exact⟨_,rfl,rfl⟩
   have f0:decide (n<5)=true:=by simpa using h5
   have k1:((n:Int)<5)=True:=eq_true (by omega)
   have k2:(n+1≤5)=True:=eq_true (by omega)
   have e0:IntKind.i64.wrap ((n:Int)+1)=((n+1:Nat):Int):=by rw[wrapN (by omega) (by omega)];rfl
   rw[hs1,eqGo]at hg;have q1:(e.length+1≤4294967296)=True:=eq_true (by omega)
   have q3:(1≤2^32)=True:=eq_true (by decide)
   have q2:(e.length+1≤2^32)=True:=eq_true (by omega)
   by_cases h4:e.length<4
   · have y1:decide (e.length<4)=true:=by simpa using h4
     rw[if_pos h4]at hg;generalize d1:hasN (ns.take 9) s=fd at hg;have hle:(if fd then e++[s] else e).length≤n+1:=by cases fd<;>simp<;>omega
     have u0:=t1 (n+1) (if fd then e++[s] else e) (by omega) (by omega) hle hg
     clear t1
     cases y0:e.isEmpty with
     |true =>
      have j1:e=[]:=List.isEmpty_iff.1 y0;subst j1;have hr0:rwC σ []=.nils:=rfl;have o0:rwS []=[]:=rfl;rw[hr0,o0];simp -implicitDefEqProofs only[mkE,go_sem,g0,s0,g1,s1,g2,s2,List.append_assoc,List.length_append,List.length_cons,List.length_nil,Nat.add_assoc,Int.reduceToNat,Int.cast_ofNat_Int,Int.toNat_zero,d5,f0,k1,k2,Nat.mul_one,hs2]
      refine Go.Ab.L.intro (α:={ i:Nat // i≤ns.length∧i≤9∧hasN ((ns.take 9).drop i) s=fd }) (fun x=>ns.length-x.1)
       (fun x=>mkE 56 [(1,.rp [D1,D2,I sel,Fl lo,Fl hi,.sl 1 nsI]),(2,.ptr σ.length 0),(3,.ptr (σ.length+1) 0),(4,I n),(5,Sx s),(6,I x.1)])
       (fun x=>σ++[.box [.nils,.nils,Bo false,Fl 0,Fl 0,.nils],.box [.sl 3 xs,.sl 3 ys,Bo b1,Fl b2,Fl b3,.nils]])
       (fun x J2 m0=>?_) ⟨0,Nat.zero_le _,Nat.zero_le _,d1⟩ rfl rfl
      obtain⟨i,hi,r1,hf⟩:=x;simp only at hi r1 hf m0⊢
      have h0:(¬i<ns.length∨¬i<9)→fd=false:=fun h=>by
       rw[List.drop_of_length_le (by rw[List.length_take];omega)]at hf
       exact hf.symm
      have e9:decide ((i:Int)<9)=decide (i<9):=by rw[Bool.eq_iff_iff];simp only[decide_eq_true_eq];omega
      by_cases hlt:i<ns.length
      · by_cases h9:i<9
        · have j0:decide (i<9)=true:=by simpa using h9
          have n1:=d0 i hlt;have x1:IntKind.i64.wrap ((i:Int)+1)=((i+1:Nat):Int):=by rw[wrapN (by omega) (by omega)];rfl
          have hdr:(ns.take 9).drop i=ns[i]::(ns.take 9).drop (i+1):=by
           rw[List.drop_eq_getElem_cons (by rw[List.length_take];omega),List.getElem_take]
          rw[hdr,hasN,List.any_cons]at hf;have l0:=fun h=>m0 ⟨i+1,hlt,h9,h⟩ (by simp only;omega)
          simp only at l0;clear m0;simp -implicitDefEqProofs only[mkE,go_sem,g0,s0,g1,s1,g2,s2,List.append_assoc,List.length_append,List.length_cons,List.length_nil,Nat.add_assoc,Int.reduceToNat,Int.cast_ofNat_Int,Int.toNat_zero,r0,z0e hlt,dec_lt hlt,e9,j0,n1];refine CO.intro (z5c _ _) ?_;simp -implicitDefEqProofs only[go_sem,g0,s0,g1,s1,g2,s2,List.append_assoc,List.length_append,List.length_cons,List.length_nil,Nat.add_assoc,Int.reduceToNat,Int.cast_ofNat_Int,Int.toNat_zero]
          cases hq:((nameOf ns[i]).toList==s.toList) with
          |true =>
           have k0:fd=true:=by rw[hq,Bool.true_or]at hf;exact hf.symm
           rw[k0,if_pos rfl,z6f σ (by simp),z6g (by simp),z7G,List.length_append]at u0
           simp -implicitDefEqProofs only[go_sem,g0,s0,g1,s1,g2,s2,List.append_assoc,List.length_append,List.length_cons,List.length_nil,Nat.add_assoc,Int.reduceToNat,Int.cast_ofNat_Int,Int.toNat_zero,hq,z0M,zdw,e0,q1,q2,q3,z3r];simp only[List.append_assoc,List.cons_append,List.nil_append,List.append_nil,List.length_cons,List.length_nil,Nat.zero_add,z3r]at u0;exact u0
          |false =>
           rw[hq,Bool.false_or]at hf;simp -implicitDefEqProofs only[go_sem,g0,s0,g1,s1,g2,s2,List.append_assoc,List.length_append,List.length_cons,List.length_nil,Nat.add_assoc,Int.reduceToNat,Int.cast_ofNat_Int,Int.toNat_zero,hq,x1];exact l0 hf
        · have j0:decide (i<9)=false:=by simpa using h9
          have t0:=h0 (Or.inr h9);rw[t0,if_neg Bool.false_ne_true]at u0;rw[hr0,o0]at u0;simp -implicitDefEqProofs only[mkE,go_sem,g0,s0,g1,s1,g2,s2,List.append_assoc,List.length_append,List.length_cons,List.length_nil,Nat.add_assoc,Int.reduceToNat,Int.cast_ofNat_Int,Int.toNat_zero,r0,z0e hlt,dec_lt hlt,e9,j0,e0];simp only[List.append_assoc,List.cons_append,List.nil_append,List.append_nil,List.length_cons,List.length_nil,Nat.zero_add,z3r]at u0;exact u0
      · have t0:=h0 (Or.inl hlt);rw[t0,if_neg Bool.false_ne_true]at u0;rw[hr0,o0]at u0;simp -implicitDefEqProofs only[mkE,go_sem,g0,s0,g1,s1,g2,s2,List.append_assoc,List.length_append,List.length_cons,List.length_nil,Nat.add_assoc,Int.reduceToNat,Int.cast_ofNat_Int,Int.toNat_zero,r0,z3g hlt,z3h hlt,e0];simp only[List.append_assoc,List.cons_append,List.nil_append,List.append_nil,List.length_cons,List.length_nil,Nat.zero_add,z3r]at u0;exact u0
     |false =>
      rw[z6f σ y0,z6g y0];simp -implicitDefEqProofs only[mkE,go_sem,g0,s0,g1,s1,g2,s2,List.append_assoc,List.length_append,List.length_cons,List.length_nil,Nat.add_assoc,Int.reduceToNat,Int.cast_ofNat_Int,Int.toNat_zero,d4,d5,y1,f0,k1,k2,Nat.mul_one,hs2,z0M]
      refine Go.Ab.L.intro (α:={ i:Nat // i≤ns.length∧i≤9∧hasN ((ns.take 9).drop i) s=fd }) (fun x=>ns.length-x.1)
       (fun x=>mkE 56 [(1,.rp [D1,D2,I sel,Fl lo,Fl hi,.sl 1 nsI]),(2,.ptr σ.length 0),(3,.ptr (σ.length+1) 0),(4,I n),(5,Sx s),(6,I x.1)])
       (fun x=>σ++[.box [.nils,.nils,Bo false,Fl 0,Fl 0,.nils],.box [.sl 3 xs,.sl 3 ys,Bo b1,Fl b2,Fl b3,.osl (σ.length+2) e.length],.row 1 (txs e)])
       (fun x J2 m0=>?_) ⟨0,Nat.zero_le _,Nat.zero_le _,d1⟩ rfl rfl
      obtain⟨i,hi,r1,hf⟩:=x;simp only at hi r1 hf m0⊢
      have h0:(¬i<ns.length∨¬i<9)→fd=false:=fun h=>by
       rw[List.drop_of_length_le (by rw[List.length_take];omega)]at hf
       exact hf.symm
      have e9:decide ((i:Int)<9)=decide (i<9):=by rw[Bool.eq_iff_iff];simp only[decide_eq_true_eq];omega
      by_cases hlt:i<ns.length
      · by_cases h9:i<9
        · have j0:decide (i<9)=true:=by simpa using h9
          have n1:=d0 i hlt;have x1:IntKind.i64.wrap ((i:Int)+1)=((i+1:Nat):Int):=by rw[wrapN (by omega) (by omega)];rfl
          have hdr:(ns.take 9).drop i=ns[i]::(ns.take 9).drop (i+1):=by
           rw[List.drop_eq_getElem_cons (by rw[List.length_take];omega),List.getElem_take]
          rw[hdr,hasN,List.any_cons]at hf;have l0:=fun h=>m0 ⟨i+1,hlt,h9,h⟩ (by simp only;omega)
          simp only at l0;clear m0;simp -implicitDefEqProofs only[mkE,go_sem,g0,s0,g1,s1,g2,s2,List.append_assoc,List.length_append,List.length_cons,List.length_nil,Nat.add_assoc,Int.reduceToNat,Int.cast_ofNat_Int,Int.toNat_zero,r0,z0e hlt,dec_lt hlt,e9,j0,n1];refine CO.intro (z5c _ _) ?_;simp -implicitDefEqProofs only[go_sem,g0,s0,g1,s1,g2,s2,List.append_assoc,List.length_append,List.length_cons,List.length_nil,Nat.add_assoc,Int.reduceToNat,Int.cast_ofNat_Int,Int.toNat_zero]
          cases hq:((nameOf ns[i]).toList==s.toList) with
          |true =>
           have k0:fd=true:=by rw[hq,Bool.true_or]at hf;exact hf.symm
           rw[k0,if_pos rfl,z6f σ (by simp),z6g (by simp),z7G,List.length_append]at u0
           simp -implicitDefEqProofs only[go_sem,g0,s0,g1,s1,g2,s2,List.append_assoc,List.length_append,List.length_cons,List.length_nil,Nat.add_assoc,Int.reduceToNat,Int.cast_ofNat_Int,Int.toNat_zero,hq,z0M,zdw,e0,q1,q2,q3,z3r];simp only[List.append_assoc,List.cons_append,List.nil_append,List.append_nil,List.length_cons,List.length_nil,Nat.zero_add,z3r]at u0;exact u0
          |false =>
           rw[hq,Bool.false_or]at hf;simp -implicitDefEqProofs only[go_sem,g0,s0,g1,s1,g2,s2,List.append_assoc,List.length_append,List.length_cons,List.length_nil,Nat.add_assoc,Int.reduceToNat,Int.cast_ofNat_Int,Int.toNat_zero,hq,x1];exact l0 hf
        · have j0:decide (i<9)=false:=by simpa using h9
          have t0:=h0 (Or.inr h9);rw[t0,if_neg Bool.false_ne_true]at u0;rw[z6f σ y0,z6g y0]at u0;simp -implicitDefEqProofs only[mkE,go_sem,g0,s0,g1,s1,g2,s2,List.append_assoc,List.length_append,List.length_cons,List.length_nil,Nat.add_assoc,Int.reduceToNat,Int.cast_ofNat_Int,Int.toNat_zero,r0,z0e hlt,dec_lt hlt,e9,j0,e0];simp only[List.append_assoc,List.cons_append,List.nil_append,List.append_nil,List.length_cons,List.length_nil,Nat.zero_add,z3r]at u0;exact u0
      · have t0:=h0 (Or.inl hlt);rw[t0,if_neg Bool.false_ne_true]at u0;rw[z6f σ y0,z6g y0]at u0;simp -implicitDefEqProofs only[mkE,go_sem,g0,s0,g1,s1,g2,s2,List.append_assoc,List.length_append,List.length_cons,List.length_nil,Nat.add_assoc,Int.reduceToNat,Int.cast_ofNat_Int,Int.toNat_zero,r0,z3g hlt,z3h hlt,e0];simp only[List.append_assoc,List.cons_append,List.nil_append,List.append_nil,List.length_cons,List.length_nil,Nat.zero_add,z3r]at u0;exact u0
   · have y1:decide (e.length<4)=false:=by simpa using h4
     rw[if_neg h4]at hg;subst hg;have y0:e.isEmpty=false:=by cases e with|nil=>simp at h4|cons _ _=>rfl
     rw[z6f σ y0,z6g y0];simp -implicitDefEqProofs only[mkE,go_sem,g0,s0,g1,s1,g2,s2,List.append_assoc,List.length_append,List.length_cons,List.length_nil,Nat.add_assoc,Int.reduceToNat,Int.cast_ofNat_Int,Int.toNat_zero,d4,d5,y1,f0,z0M,n21,n12];exact n0 _ _ _ rfl (by simp -implicitDefEqProofs only[go_sem,resA,z03,rvA,oneOf,g0]) q0
 · have:n=5:=by omega
   subst this;rw[show nm5.drop 5=[] from rfl,eqGo]at hg
   subst hg;have f0:decide ((5:Nat)<5)=false:=by decide
   cases y0:e.isEmpty with
   |true =>
    have j1:e=[]:=List.isEmpty_iff.1 y0;subst j1;have hr0:rwC σ []=.nils:=rfl;have o0:rwS []=[]:=rfl;rw[hr0,o0];simp -implicitDefEqProofs only[mkE,go_sem,g0,s0,g1,s1,g2,s2,List.append_assoc,List.length_append,List.length_cons,List.length_nil,Nat.add_assoc,Int.reduceToNat,Int.cast_ofNat_Int,Int.toNat_zero,d5,f0,n21,n12];exact n0 _ _ _ rfl (by simp -implicitDefEqProofs only[go_sem,resA,z03,rvA,oneOf,g0]) q0
   |false =>
    rw[z6f σ y0,z6g y0];simp -implicitDefEqProofs only[mkE,go_sem,g0,s0,g1,s1,g2,s2,List.append_assoc,List.length_append,List.length_cons,List.length_nil,Nat.add_assoc,Int.reduceToNat,Int.cast_ofNat_Int,Int.toNat_zero,d5,f0,z0M,n21,n12];exact n0 _ _ _ rfl (by simp -implicitDefEqProofs only[go_sem,resA,z03,rvA,oneOf,g0]) q0
end
theorem Inb0 (b:Byt):Inb b (0,false):=Nat.zero_le _
section
variable (σ:St)
theorem zgN (n:Nat) (hn:n<18446744073709551616):Ans Tryz.prog 50 [UN n] σ (.sl 1 (byv (putN n))) σ:=(z9y σ n hn).shut (by rw[z05]) (z1j _ _)
theorem z54 (b:Byt) (hb:b.length≤50000):Ans Tryz.prog 124 [.sl 1 (byv b)] σ (readV (bandR b) b bandV (bandV (false,0,0))) σ:=by
 have hS:=(zbR b).top;refine Ans.of_run' t124 (fun q0 _=>?_)
 simp -implicitDefEqProofs only[c124,r124,go_sem];refine CO.intro (new_ans _ b) ?_;simp -implicitDefEqProofs only[go_sem,List.append_assoc,List.length_append];generalize k0:runR byteR 0 b (0,false)=q1;have y0:Inb b q1.2:=by rw[←k0];exact z0h _ _ _ _ (Inb0 b)
 have n0:=z1e (σ++[.box [Bo false,Fl 0,Fl 0],rob b (0,false),.box [Bo false,Fl 0,Fl 0]]) (σ.length+1) b (0,false) (g1 _ _ _ _) (Inb0 b) hb;rw[k0,s1]at n0;refine CO.intro n0 ?_;obtain⟨c,q⟩:=q1;simp only at y0⊢;by_cases h0:c=0
 · subst h0;have v1:=zaM (σ++[.box [Bo false,Fl 0,Fl 0],rob b q,.box [Bo false,Fl 0,Fl 0]]) (σ.length+1) b q (g1 _ _ _ _) y0 hb;have j0:=(z0K b).inb q y0
   have hL:bandS b (0,false)=((false,(valS b q).1,(valS b (valS b q).2).1),took (valS b (valS b q).2).2 0 (mayB false (valS b q).1 (valS b (valS b q).2).1)):=by
    unfold bandS z0P bnd0S;rw[k0];rfl
   generalize valS b q=w1 at v1 j0 hL;obtain⟨lo,p1⟩:=w1;simp only at v1 j0 hL;rw[s1]at v1;have v2:=zaM (σ++[.box [Bo false,Fl 0,Fl 0],rob b p1,.box [Bo false,Fl 0,Fl 0]]) (σ.length+1) b p1 (g1 _ _ _ _) j0 hb;have m0:=(z0K b).inb p1 j0;generalize valS b p1=w2 at v2 m0 hL;obtain⟨hi,p2⟩:=w2;simp only at v2 m0 hL;rw[s1]at v2;have e0:((((0:UInt8).toNat:Nat):Int)==0)=true:=rfl;simp -implicitDefEqProofs only[go_sem,bc,e0,g0,g1,g2,s0,s1,s2];refine CO.intro v1 ?_;simp -implicitDefEqProofs only[go_sem];refine CO.intro v2 ?_;have h1:=z0d (σ++[.box [Bo false,Fl 0,Fl 0],rob b p2,.box [Bo false,Fl lo,Fl hi]]) (σ.length+1) b p2 (mayB false lo hi) (g1 _ _ _ _) m0 hb;rw[s1]at h1;have hL:bandS b (0,false)=((false,lo,hi),took p2 0 (mayB false lo hi)):=hL;rw[hL]at hS;generalize took p2 0 (mayB false lo hi)=qe at h1 hS;have h2:=z2z (σ++[.box [Bo false,Fl 0,Fl 0],rob b qe,.box [Bo false,Fl lo,Fl hi]]) (σ.length+1) b qe (g1 _ _ _ _);simp -implicitDefEqProofs only[go_sem,g0,g1,g2,s0,s1,s2];refine CO.intro (z22 _ false lo hi) ?_;simp -implicitDefEqProofs only[go_sem];refine CO.intro h1 ?_;simp -implicitDefEqProofs only[go_sem];refine CO.intro h2 ?_
   cases hr:bandR b with
   |none =>
    have u0:=hS.2 hr;obtain⟨qa,qb⟩:=qe;simp only at u0;subst u0;simp -implicitDefEqProofs only[go_sem,g0,g1,g2,s0,s1,s2];exact tr_ (σ':=σ) (ex:=[_,_,_]) rfl (by unfold readV;exact z1u (z1N _ _)) q0
   |some p =>
    obtain⟨M,t⟩:=p;have u0:=hS.1 M t hr;simp only[Prod.mk.injEq]at u0;obtain⟨rfl,rfl⟩:=u0;simp -implicitDefEqProofs only[go_sem,g0,g1,g2,s0,s1,s2];exact tr_ (σ':=σ) (ex:=[_,_,_]) rfl (by unfold readV;exact z1u (z1N _ _)) q0
 · have e0:(((c.toNat:Nat):Int)==0)=false:=by
    rw[Bool.eq_false_iff];intro h;rw[beq_iff_eq]at h;exact h0 (UInt8.toNat_inj.1 (by rw[show(0:UInt8).toNat=0 from rfl];omega))
   by_cases h1:c=1
   · subst h1
     have hL:bandS b (0,false)=((true,0,0),took q 0 (mayB true 0 0)):=by
      unfold bandS z0P bnd0S;rw[k0];rfl
     have e1:((((1:UInt8).toNat:Nat):Int)==1)=true:=rfl;simp -implicitDefEqProofs only[go_sem,bc,e0,e1,g0,g1,g2,s0,s1,s2];have h1:=z0d (σ++[.box [Bo false,Fl 0,Fl 0],rob b q,.box [Bo true,Fl 0,Fl 0]]) (σ.length+1) b q (mayB true 0 0) (g1 _ _ _ _) y0 hb;rw[s1]at h1;have hL:bandS b (0,false)=((true,0,0),took q 0 (mayB true 0 0)):=hL;rw[hL]at hS;generalize took q 0 (mayB true 0 0)=qe at h1 hS;have h2:=z2z (σ++[.box [Bo false,Fl 0,Fl 0],rob b qe,.box [Bo true,Fl 0,Fl 0]]) (σ.length+1) b qe (g1 _ _ _ _);refine CO.intro (z22 _ true 0 0) ?_;simp -implicitDefEqProofs only[go_sem];refine CO.intro h1 ?_;simp -implicitDefEqProofs only[go_sem];refine CO.intro h2 ?_
     cases hr:bandR b with
     |none =>
      have u0:=hS.2 hr;obtain⟨qa,qb⟩:=qe;simp only at u0;subst u0;simp -implicitDefEqProofs only[go_sem,g0,g1,g2,s0,s1,s2];exact tr_ (σ':=σ) (ex:=[_,_,_]) rfl (by unfold readV;exact z1u (z1N _ _)) q0
     |some p =>
      obtain⟨M,t⟩:=p;have u0:=hS.1 M t hr;simp only[Prod.mk.injEq]at u0;obtain⟨rfl,rfl⟩:=u0;simp -implicitDefEqProofs only[go_sem,g0,g1,g2,s0,s1,s2];exact tr_ (σ':=σ) (ex:=[_,_,_]) rfl (by unfold readV;exact z1u (z1N _ _)) q0
   · have hL:bandS b (0,false)=((false,0,0),took (took q 0 false) 0 (mayB false 0 0)):=by
      unfold bandS z0P bnd0S;rw[k0];simp only[h0,h1,if_false];rfl
     have e1:(((c.toNat:Nat):Int)==1)=false:=by
      rw[Bool.eq_false_iff];intro h;rw[beq_iff_eq]at h;exact h1 (UInt8.toNat_inj.1 (by rw[show(1:UInt8).toNat=1 from rfl];omega))
     have v1:=z0d (σ++[.box [Bo false,Fl 0,Fl 0],rob b q,.box [Bo false,Fl 0,Fl 0]]) (σ.length+1) b q false (g1 _ _ _ _) y0 hb;rw[s1]at v1;have j0:=z1r b q false y0;generalize took q 0 false=p1 at v1 j0 hL;simp -implicitDefEqProofs only[go_sem,bc,e0,e1,g0,g1,g2,s0,s1,s2];refine CO.intro v1 ?_;have h1:=z0d (σ++[.box [Bo false,Fl 0,Fl 0],rob b p1,.box [Bo false,Fl 0,Fl 0]]) (σ.length+1) b p1 (mayB false 0 0) (g1 _ _ _ _) j0 hb;rw[s1]at h1;have hL:bandS b (0,false)=((false,0,0),took p1 0 (mayB false 0 0)):=hL;rw[hL]at hS;generalize took p1 0 (mayB false 0 0)=qe at h1 hS;have h2:=z2z (σ++[.box [Bo false,Fl 0,Fl 0],rob b qe,.box [Bo false,Fl 0,Fl 0]]) (σ.length+1) b qe (g1 _ _ _ _);simp -implicitDefEqProofs only[go_sem,g0,g1,g2,s0,s1,s2];refine CO.intro (z22 _ false 0 0) ?_;simp -implicitDefEqProofs only[go_sem];refine CO.intro h1 ?_;simp -implicitDefEqProofs only[go_sem];refine CO.intro h2 ?_
     cases hr:bandR b with
     |none =>
      have u0:=hS.2 hr;obtain⟨qa,qb⟩:=qe;simp only at u0;subst u0;simp -implicitDefEqProofs only[go_sem,g0,g1,g2,s0,s1,s2];exact tr_ (σ':=σ) (ex:=[_,_,_]) rfl (by unfold readV;exact z1u (z1N _ _)) q0
     |some p =>
      obtain⟨M,t⟩:=p;have u0:=hS.1 M t hr;simp only[Prod.mk.injEq]at u0;obtain⟨rfl,rfl⟩:=u0;simp -implicitDefEqProofs only[go_sem,g0,g1,g2,s0,s1,s2];exact tr_ (σ':=σ) (ex:=[_,_,_]) rfl (by unfold readV;exact z1u (z1N _ _)) q0
end
theorem z3Q {α:Type} {r:Option (α×Byt)} {b:Byt} {enc:α→AV} {z:AV} (h:r=none):readV r b enc z=.tup [z,I 0,Bo false]:=by subst h;rfl
theorem z3R {α:Type} {r:Option (α×Byt)} {b:Byt} {enc:α→AV} {z:AV} {x:α} {t:Byt} (h:r=some (x,t)):readV r b enc z=.tup [enc x,I (b.length-t.length:Nat),Bo true]:=by subst h;rfl
abbrev mlV (M:List Mtr):AV:=.sl 3 (mvs3 M)
section
variable (σ:St) (p:Nat) (b:Byt) (q:Nat×Bool)
theorem z8M (h:σ[p]?=some (rob b q)) (hq:Inb b q) (hb:b.length≤50000):Ans Tryz.prog 121 [.ptr p 0,.fn 122 [] []] σ (mlV (runR listR [] b q).1) (σ.set p (rob b (runR listR [] b q).2)):=by
 obtain⟨a,bad⟩:=q;have hq:a≤b.length:=hq;have hl:(b.drop a).length≤50000:=by rw[List.length_drop];omega
 cases hr:listR (b.drop a) with
 |none =>
  have u0:=z8D σ (b.drop a) hl;rw[z3Q hr]at u0
  have e:runR listR [] b (a,bad)=([],(a,true)):=by
   cases bad
   · exact z0V hr
   · exact z0O _ _ _ _
  have e2:took (a,bad) 0 false=(a,true):=by cases bad<;>rfl
  have ht:=z19 σ p b (a,bad) 0 false h (by simp only;omega)
  rw[e2]at ht;rw[e]
  have:Ans Tryz.prog 121 [.ptr p 0,.fn 122 [] []] σ .nils (σ.set p (rob b (a,true))):=by
   refine Ans.of_run t121 ?_;simp -implicitDefEqProofs only[c121,r121,go_sem];refine CO.intro (z18 σ p b (a,bad) h hq) ?_;simp -implicitDefEqProofs only[go_sem];refine CO.intro u0 ?_;simp -implicitDefEqProofs only[go_sem];refine CO.intro ht ?_;simp -implicitDefEqProofs only[go_sem];exact Fini.ret rfl
  exact this.subR (.nils 3)
 |some x =>
  obtain⟨x,t⟩:=x;have u0:=z8D σ (b.drop a) hl;rw[z3R hr]at u0;have hdr:=ends_list.drop hq hr;have ht:=z19 σ p b (a,bad) ((b.drop a).length-t.length) true h (by simp only[List.length_drop];omega)
  cases bad with
  |true =>
   have e2:took (a,true) ((b.drop a).length-t.length) true=(a,true):=rfl;rw[e2]at ht;rw[z0O]
   have:Ans Tryz.prog 121 [.ptr p 0,.fn 122 [] []] σ .nils (σ.set p (rob b (a,true))):=by
    refine Ans.of_run t121 ?_;simp -implicitDefEqProofs only[c121,r121,go_sem];refine CO.intro (z18 σ p b (a,true) h hq) ?_;simp -implicitDefEqProofs only[go_sem];refine CO.intro u0 ?_;simp -implicitDefEqProofs only[go_sem];refine CO.intro ht ?_;simp -implicitDefEqProofs only[go_sem];exact Fini.ret rfl
   exact this.subR (.nils 3)
  |false =>
   have e2:took (a,false) ((b.drop a).length-t.length) true=(b.length-t.length,false):=by
    simp only[took,Bool.false_or,Bool.not_true,Bool.false_eq_true,if_false,List.length_drop];congr 1;omega
   rw[e2]at ht;rw[z0L hr];refine Ans.of_run t121 ?_;simp -implicitDefEqProofs only[c121,r121,go_sem];refine CO.intro (z18 σ p b (a,false) h hq) ?_;simp -implicitDefEqProofs only[go_sem];refine CO.intro u0 ?_;simp -implicitDefEqProofs only[go_sem];refine CO.intro ht ?_;simp -implicitDefEqProofs only[go_sem];exact Fini.ret rfl
theorem zdx (h:σ[p]?=some (rob b q)) (hq:Inb b q) (hb:b.length≤50000):Ans Tryz.prog 123 [.ptr p 0,.fn 124 [] []] σ (bandV (runR bandR (false,0,0) b q).1) (σ.set p (rob b (runR bandR (false,0,0) b q).2)):=by
 obtain⟨a,bad⟩:=q;have hq:a≤b.length:=hq;have hl:(b.drop a).length≤50000:=by rw[List.length_drop];omega
 have hp:p<σ.length:=(List.getElem?_eq_some_iff.1 h).1;have hz:∀ob,(σ++[ob])[p]?=some (rob b (a,bad)):=fun ob=>by rw[List.getElem?_append_left hp];exact h
 have k0:∀ob X,(σ++[ob]).set p X=σ.set p X++[ob]:=fun ob X=>by rw[List.set_append_left _ _ hp]
 have hlen:∀X,(σ.set p X).length=σ.length:=fun X=>List.length_set
 have gx:∀(X:Ob) (o:Ob) (ex:St),(σ.set p X++o::ex)[σ.length]?=some o:=fun X o ex=>by rw[←hlen X];exact g0 _ _ _
 have sx:∀(X:Ob) (o u:Ob) (ex:St),(σ.set p X++o::ex).set σ.length u=σ.set p X++u::ex:=fun X o u ex=>by rw[←hlen X];exact s0 _ _ _ _
 have j0:∀(X:Ob) (o o2:Ob) (ex:St),(σ.set p X++o::o2::ex)[σ.length+1]?=some o2:=fun X o o2 ex=>by rw[←hlen X];exact g1 _ _ _ _
 have q0:∀(u0:∀o∈σ,BelO σ.length o) (q:Nat×Bool),∀o∈σ.set p (rob b q),BelO (σ.set p (rob b q)).length o:=fun u0 q=>by
  rw[hlen]
  exact z1Z u0 (fun c hc=>by
   simp only[List.mem_cons,List.not_mem_nil,or_false]at hc;rcases hc with rfl|rfl|rfl
   · exact z1j _ _
   · exact .pl _
   · exact .pl _)
 cases hr:bandR (b.drop a) with
 |none =>
  have y0:=fun s=>z54 s (b.drop a) hl
  simp only[z3Q hr]at y0
  have e:runR bandR (false,0,0) b (a,bad)=((false,0,0),(a,true)):=by
   cases bad
   · exact z0V hr
   · exact z0O _ _ _ _
  have e2:took (a,bad) 0 false=(a,true):=by cases bad<;>rfl
  have ht:=fun ob=>z19 (σ++[ob]) p b (a,bad) 0 false (hz ob) (by simp only;omega)
  simp only[e2,k0]at ht;rw[e];refine Ans.of_run' t123 (fun u0 _=>?_)
  simp -implicitDefEqProofs only[c123,r123,go_sem];refine CO.intro (z18 _ p b (a,bad) (hz _) hq) ?_;simp -implicitDefEqProofs only[go_sem];refine CO.intro (y0 _) ?_;simp -implicitDefEqProofs only[go_sem,bandV];refine CO.intro (ht _) ?_;simp -implicitDefEqProofs only[go_sem,gx,sx,j0,List.append_assoc,List.length_append,hlen];exact Fini.trim2 (σ':=σ.set p (rob b (a,true))) (ex:=[_,_]) (by simp -implicitDefEqProofs only[go_sem,resA,z03,rvA,oneOf,gx]<;>rfl) rfl (by rw[hlen];exact Nat.le_refl _) (z1N _ (false,0,0)) (q0 u0 _)
 |some x =>
  obtain⟨x,t⟩:=x;have y0:=fun s=>z54 s (b.drop a) hl
  simp only[z3R hr]at y0;have hdr:=ends_band.drop hq hr;have ht:=fun ob=>z19 (σ++[ob]) p b (a,bad) ((b.drop a).length-t.length) true (hz ob) (by simp only[List.length_drop];omega)
  simp only[k0]at ht
  cases bad with
  |true =>
   have e2:took (a,true) ((b.drop a).length-t.length) true=(a,true):=rfl;rw[e2]at ht;rw[z0O];refine Ans.of_run' t123 (fun u0 _=>?_)
   simp -implicitDefEqProofs only[c123,r123,go_sem];refine CO.intro (z18 _ p b (a,true) (hz _) hq) ?_;simp -implicitDefEqProofs only[go_sem];refine CO.intro (y0 _) ?_;simp -implicitDefEqProofs only[go_sem,bandV];refine CO.intro (ht _) ?_;simp -implicitDefEqProofs only[go_sem,gx,sx,j0,List.append_assoc,List.length_append,hlen];exact Fini.trim2 (σ':=σ.set p (rob b (a,true))) (ex:=[_,_]) (by simp -implicitDefEqProofs only[go_sem,resA,z03,rvA,oneOf,gx]<;>rfl) rfl (by rw[hlen];exact Nat.le_refl _) (z1N _ (false,0,0)) (q0 u0 _)
  |false =>
   have e2:took (a,false) ((b.drop a).length-t.length) true=(b.length-t.length,false):=by
    simp only[took,Bool.false_or,Bool.not_true,Bool.false_eq_true,if_false,List.length_drop];congr 1;omega
   rw[e2]at ht;rw[z0L hr];refine Ans.of_run' t123 (fun u0 _=>?_)
   simp -implicitDefEqProofs only[c123,r123,go_sem];refine CO.intro (z18 _ p b (a,false) (hz _) hq) ?_;simp -implicitDefEqProofs only[go_sem];refine CO.intro (y0 _) ?_;simp -implicitDefEqProofs only[go_sem,bandV];refine CO.intro (ht _) ?_;simp -implicitDefEqProofs only[go_sem,gx,sx,j0,List.append_assoc,List.length_append,hlen];exact Fini.trim2 (σ':=σ.set p (rob b (b.length-t.length,false))) (ex:=[_]) (by simp -implicitDefEqProofs only[go_sem,resA,z03,rvA,oneOf,gx]<;>rfl) rfl (by rw[hlen];exact Nat.le_refl _) (z1N _ x) (q0 u0 _)
end
def headR (r:RuM):Byt:=putL r.src++(putL r.tgt++(putBd (r.any,r.lo,r.hi)++putN r.eq.length))
def preR (r:RuM) (i:Nat):Byt:=headR r++z17 txtB (r.eq.take i)
theorem z8N (r:RuM) (i:Nat) (h:i<r.eq.length):preR r (i+1)=preR r i++txtB r.eq[i]:=by
 unfold preR z17;rw[List.take_succ_eq_append_getElem h,List.flatMap_append,List.append_assoc];simp
theorem z7H (r:RuM):preR r r.eq.length=putR r:=by unfold preR putR headR z2x;rw[List.take_length];simp[List.append_assoc]
theorem z6h (r:RuM):preR r 0=headR r:=by unfold preR z17;simp
theorem z6i (x:Bnd):(putBd x).length≤17:=by
 unfold putBd;split
 · simp
 · simp[putV,wrdB_len]
theorem z7I {M:List Mtr} (h:listB M=true):(putL M).length≤510:=by
 have:=z7y h M.length (Nat.le_refl _);rw[z7x]at this;have:=(z3p h).1;omega
theorem zaP (M:List Mtr):0<(putL M).length:=by
 have:=z9t M.length;unfold putL z2x
 cases h:putN M.length with
 |nil=>exact absurd h this
 |cons a b=>simp
theorem z8O {r:RuM} (h:ruIs r=true):(headR r).length≤1050:=by
 obtain⟨h1,h2,h3,h4,h5⟩:=z29 h;have:=z7I h1;have:=z7I h2;have:=z6i (r.any,r.lo,r.hi);have:=z0n (n:=r.eq.length) (by omega)
 unfold headR;simp only[List.length_append];omega
theorem z5m {r:RuM} (h:ruIs r=true):∀i,i≤r.eq.length→(preR r i).length≤1050+30*i
 |0,_=>by rw[z6h];have:=z8O h;omega
 |i+1,hi=>by
  have ih:=z5m h i (by omega)
  have hx:=(z29 h).2.2.2.2 r.eq[i] (List.getElem_mem (by omega))
  have h1:=z1B r.eq[i] (by omega)
  rw[z8N r i (by omega),List.length_append]
  omega
def z1H (r:RuM):Byt:=if ruIs r then putR r else[]
section
variable (σ:St)
end
end Go.Proofs.YteakobbdgehlgaaGreatDoor
