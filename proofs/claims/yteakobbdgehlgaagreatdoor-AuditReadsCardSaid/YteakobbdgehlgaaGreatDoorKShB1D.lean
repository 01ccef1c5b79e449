/- Bands and rules as bytes: readers and writers. No condition. -/
import Derived.Test.YteakobbdgehlgaaGreatDoorKXMr2D
import Derived.Test.YteakobbdgehlgaaGreatDoorKMRunD
import Derived.Test.YteakobbdgehlgaaGreatDoorKShA1D
import Derived.Test.YteakobbdgehlgaaGreatDoorAbArgD
import Derived.Test.YteakobbdgehlgaaGreatDoorRows
import Derived.Test.YteakobbdgehlgaaGreatDoorKXCmpD
import Derived.Test.YteakobbdgehlgaaGreatDoorAbGloD
set_option linter.unusedSimpArgs false
set_option linter.unusedVariables false
set_option linter.unusedSectionVars false
namespace Go.Proofs.YteakobbdgehlgaaGreatDoor
open Go Go.Ab Go.Cod
set_option maxRecDepth 100000
def okV (u:Nat):Bool:=decide (bitsF u=u)
def valR:Rd Nat:=onlyR wordR okV
def putV (u:Nat):Byt:=wrdB (bitsF u)
theorem val_fits:Fits valR putV (fun u=>u<2^64∧bitsF u=u):=by
 have h:=z3k zaN okV;refine⟨fun a t ho=>?_,fun b a t hr=>?_⟩
 · have:=h.fwd a t ⟨ho.1,by unfold okV;exact decide_eq_true ho.2⟩
   unfold putV;rw[ho.2];exact this
 · obtain⟨⟨h1,h2⟩,h3⟩:=h.bwd b a t hr;have h2:bitsF a=a:=by unfold okV at h2;exact of_decide_eq_true h2
   exact⟨⟨h1,h2⟩,by unfold putV;rw[h2];exact h3⟩
theorem ends_val:EndsR valR:=val_fits.ends
abbrev Bnd:=Bool×Nat×Nat
def bnd0:Rd Bnd
 |[]=>none
 |c::t=>if c=0 then(seqR valR valR t).map (fun p=>((false,p.1.1,p.1.2),p.2)) else if c=1 then some ((true,0,0),t) else none
def bandR:Rd Bnd:=onlyR bnd0 (fun x=>mayB x.1 x.2.1 x.2.2)
def putBd (x:Bnd):Byt:=if x.1 then[1] else 0::(putV x.2.1++putV x.2.2)
def bndOk (x:Bnd):Prop:=if x.1 then x.2.1=0∧x.2.2=0 else(x.2.1<2^64∧bitsF x.2.1=x.2.1)∧(x.2.2<2^64∧bitsF x.2.2=x.2.2)
theorem zbn:Fits bnd0 putBd bndOk where
 fwd x t h:=by
  obtain⟨any,lo,hi⟩:=x
  cases any with
  |true =>
   obtain⟨rfl,rfl⟩:lo=0∧hi=0:=h;rfl
  |false =>
   have h:(lo<2^64∧bitsF lo=lo)∧(hi<2^64∧bitsF hi=hi):=h;have h2:=(z1V val_fits val_fits).fwd (lo,hi) t h;simp only at h2;simp only[putBd,Bool.false_eq_true,if_false,bnd0,List.cons_append,if_true,h2,Option.map_some]
 bwd b x t hr:=by
  cases b with
  |nil=>cases hr
  |cons c u =>
   simp only[bnd0]at hr;split at hr
   · rename_i hc
     cases h1:seqR valR valR u with
     |none=>simp[h1]at hr
     |some p =>
      simp only[h1,Option.map_some,Option.some.injEq,Prod.mk.injEq]at hr;obtain⟨rfl,rfl⟩:=hr;obtain⟨h2,h3⟩:=(z1V val_fits val_fits).bwd _ _ _ h1;refine⟨h2,?_⟩;rw[h3,hc];rfl
   · split at hr
     · rename_i hc;simp only[Option.some.injEq,Prod.mk.injEq]at hr;obtain⟨rfl,rfl⟩:=hr;exact⟨⟨rfl,rfl⟩,by rw[hc];rfl⟩
     · cases hr
def bMay (x:Bnd):Bool:=mayB x.1 x.2.1 x.2.2
def bSz (x:Bnd):Prop:=x.2.1<2^64∧x.2.2<2^64
theorem za6 {a b:Nat} (h:leF a b=true):nanF a=false∧nanF b=false:=by
 unfold leF Ieee.Format.order at h;unfold nanF Ieee.Format.order;generalize FloatKind.f64.format.read a=x at *;generalize FloatKind.f64.format.read b=y at *
 cases x with
 |nan s m=>simp[Ieee.Datum.order]at h
 |infinity s =>
  cases y with
  |nan t n=>simp[Ieee.Datum.order]at h
  |infinity t=>cases s<;>cases t<;>simp[Ieee.Datum.order]at h⊢
  |number t n j=>cases s<;>simp[Ieee.Datum.order]at h⊢
 |number s m i =>
  cases y with
  |nan t n=>simp[Ieee.Datum.order]at h
  |infinity t=>cases t<;>simp[Ieee.Datum.order]at h⊢
  |number t n j=>simp[Ieee.Datum.order]
theorem z7x {a:Nat} (h:nanF a=false):bitsF a=a:=by unfold bitsF;rw[h];rfl
theorem z3v {a:Nat} (h:bitsF a=0):a=0:=by
 unfold bitsF at h;split at h
 · cases h
 · exact h
theorem zfM {x:Bnd} (h:bMay x=true) (w:bSz x):bndOk x:=by
 obtain⟨any,lo,hi⟩:=x;unfold bMay mayB at h
 cases any with
 |true =>
  simp only[if_true,Bool.and_eq_true,beq_iff_eq]at h;exact⟨z3v (Int.ofNat.inj h.1),z3v (Int.ofNat.inj h.2)⟩
 |false =>
  obtain⟨h1,h2⟩:=za6 h;exact⟨⟨w.1,z7x h1⟩,⟨w.2,z7x h2⟩⟩
theorem ok_sz {x:Bnd} (h:bndOk x):bSz x:=by
 obtain⟨any,lo,hi⟩:=x
 cases any with
 |true =>
  obtain⟨rfl,rfl⟩:lo=0∧hi=0:=h;exact⟨by decide,by decide⟩
 |false =>
  have h:(lo<2^64∧bitsF lo=lo)∧(hi<2^64∧bitsF hi=hi):=h;exact⟨h.1.1,h.2.1⟩
theorem band_fits:Fits bandR putBd (fun x=>bMay x=true∧bSz x) :=
 (z3k zbn bMay).weaken fun x=>⟨fun h=>⟨h.2,ok_sz h.1⟩,fun h=>⟨zfM h.1 h.2,h.1⟩⟩
theorem ends_band:EndsR bandR:=band_fits.ends
def mkRu (x:List Mtr×List Mtr×Bnd×List ByteArray):RuM:=⟨x.1,x.2.1,x.2.2.1.1,x.2.2.1.2.1,x.2.2.1.2.2,x.2.2.2⟩
def ruR0:Rd RuM:=z0U (seqR listR (seqR listR (seqR bandR (rowR 4 (textR 12))))) mkRu
def ruR:Rd RuM:=onlyR ruR0 ruIs
def putR (r:RuM):Byt:=putL r.src++(putL r.tgt++(putBd (r.any,r.lo,r.hi)++z4g txtB r.eq))
def ruSz (r:RuM):Prop:=r.lo<2^64∧r.hi<2^64
theorem zcU:Fits ruR0 putR (fun r=>listB r.src=true∧listB r.tgt=true∧(mayB r.any r.lo r.hi=true∧ruSz r)∧(r.eq.length≤4∧∀a∈r.eq,a.size≤12)) :=
 dress_fits (z1V listB_fits (z1V listB_fits (z1V band_fits (z6w (by decide) (z0T (by decide)))))) (g:=fun r=>(r.src,r.tgt,(r.any,r.lo,r.hi),r.eq))
  (fun _ h=>⟨h,rfl⟩) (fun _ h=>⟨h,rfl⟩)
theorem z6j {s:ByteArray} (h:nameB s=true):s.size≤12:=by
 unfold nameB at h;simp only[Bool.and_eq_true,decide_eq_true_eq]at h;exact h.1.1.2
theorem zfN {e:List ByteArray} (h:eqB e=true):e.length≤4∧∀a∈e,a.size≤12:=by
 unfold eqB at h;simp only[Bool.and_eq_true,decide_eq_true_eq]at h;refine⟨h.1,fun a ha=>?_⟩
 obtain⟨i,hi,rfl⟩:=List.getElem_of_mem ha;have h2:=List.all_eq_true.1 h.2 i (List.mem_range.2 hi);unfold eqOk at h2;simp only[Bool.and_eq_true]at h2;have e2:e.getD i ⟨#[]⟩=e[i]:=by rw[List.getD_eq_getElem?_getD,List.getElem?_eq_getElem hi];rfl
 rw[e2]at h2;exact z6j h2.1
theorem z3a {r:RuM} (h:ruIs r=true):listB r.src=true∧listB r.tgt=true∧mayB r.any r.lo r.hi=true∧(r.eq.length≤4∧∀a∈r.eq,a.size≤12):=by
 unfold ruIs at h;simp only[Bool.and_eq_true]at h;exact⟨h.2.2.1,h.2.2.2.1,h.2.2.2.2.1,zfN h.2.2.2.2.2⟩
theorem ru_fits:Fits ruR putR (fun r=>ruIs r=true∧ruSz r) :=
 (z3k zcU ruIs).weaken fun r=>⟨fun h=>⟨h.2,h.1.2.2.1.2⟩,fun h=>⟨⟨(z3a h.1).1,(z3a h.1).2.1,⟨(z3a h.1).2.2.1,h.2⟩,(z3a h.1).2.2.2⟩,h.1⟩⟩
theorem ends_ru:EndsR ruR:=ru_fits.ends
theorem zbo {α:Type} {b:Byt} {rd:Rd α} {st st':Nat×Bool→α×(Nat×Bool)} (h:StepsR b rd st) (h2:∀q,(st' q).2=(st q).2) (h3:∀q,(st q).2.2=false→st' q=st q):StepsR b rd st' where
 some_ a x t ha hr:=by
  have:=h.some_ a x t ha hr;rw[h3 _ (by rw[this]),this]
 none_ a ha hr:=by rw[h2];exact h.none_ a ha hr
 bad a:=by rw[h2];exact h.bad a
 inb q hq:=by rw[h2];exact h.inb q hq
def valS (b:Byt) (q:Nat×Bool):Nat×(Nat×Bool):=(if okV (runR wordR 0 b q).1 then(runR wordR 0 b q).1 else 0,took (runR wordR 0 b q).2 0 (okV (runR wordR 0 b q).1))
theorem z0D (b:Byt):StepsR b valR (valS b):=by
 refine zbo (z1d (z0h b wordR 0) okV) (fun q=>rfl) fun q h=>?_
 unfold z0L took at h;unfold valS z0L;simp only at h⊢
 cases ho:okV (runR wordR 0 b q).1 with
 |true=>rfl
 |false=>rw[ho]at h;simp at h
def bnd0S (b:Byt) (q:Nat×Bool):Bnd×(Nat×Bool) :=
 if(runR byteR 0 b q).1=0 then((false,(valS b (runR byteR 0 b q).2).1,(valS b (valS b (runR byteR 0 b q).2).2).1),(valS b (valS b (runR byteR 0 b q).2).2).2)
 else if(runR byteR 0 b q).1=1 then((true,0,0),(runR byteR 0 b q).2) else((false,0,0),took (runR byteR 0 b q).2 0 false)
theorem za7 (b:Byt):StepsR b bnd0 (bnd0S b) where
 some_ a x t ha hr:=by
  cases hd:b.drop a with
  |nil=>rw[hd]at hr;cases hr
  |cons c u =>
   have h1:byteR (b.drop a)=some (c,u):=by rw[hd];rfl
   obtain⟨e1,e2,e3⟩:=ends_byte.drop ha h1;rw[hd]at hr;simp only[bnd0]at hr;unfold bnd0S;simp only[z0H h1];split at hr
   · rename_i hc;rw[if_pos hc]
     cases h2:seqR valR valR u with
     |none=>simp[h2]at hr
     |some p =>
      simp only[h2,Option.map_some,Option.some.injEq,Prod.mk.injEq]at hr;obtain⟨rfl,rfl⟩:=hr;have:=(z0u (z0D b) (z0D b) ends_val).some_ (b.length-u.length) p.1 p.2 (by omega) (by rw[e1];exact h2)
      unfold seqSt at this;simp only[Prod.ext_iff]at this⊢;simp only[this,and_self]
   · rename_i hc;rw[if_neg hc];split at hr
     · rename_i hc;rw[if_pos hc];simp only[Option.some.injEq,Prod.mk.injEq]at hr;obtain⟨rfl,rfl⟩:=hr;rfl
     · cases hr
 none_ a ha hr:=by
  cases hd:b.drop a with
  |nil =>
   have h1:byteR (b.drop a)=none:=by rw[hd];rfl
   unfold bnd0S;simp only[z0V h1,if_true];exact z30 (z0D b).bad _ ((z0D b).bad a)
  |cons c u =>
   have h1:byteR (b.drop a)=some (c,u):=by rw[hd];rfl
   obtain⟨e1,e2,e3⟩:=ends_byte.drop ha h1;rw[hd]at hr;simp only[bnd0]at hr;unfold bnd0S;simp only[z0H h1];split at hr
   · rename_i hc;rw[if_pos hc]
     cases h2:seqR valR valR u with
     |some p=>simp[h2]at hr
     |none =>
      exact(z0u (z0D b) (z0D b) ends_val).none_ (b.length-u.length) (by omega) (by rw[e1];exact h2)
   · rename_i hc;rw[if_neg hc];split at hr
     · cases hr
     · rename_i hc;rw[if_neg hc];rfl
 bad a:=by
  unfold bnd0S;simp only[z0K,if_true];exact z30 (z0D b).bad _ ((z0D b).bad a)
 inb q hq:=by
  have h1:=z0f byteR 0 b q hq;unfold bnd0S;split
  · exact(z0D b).inb _ ((z0D b).inb _ h1)
  · split
    · exact h1
    · exact z1v b _ _ h1
def bandS (b:Byt):Nat×Bool→Bnd×(Nat×Bool):=z0L (bnd0S b) bMay
theorem za8 (b:Byt):StepsR b bandR (bandS b):=z1d (za7 b) _
def ruS (b:Byt):Nat×Bool→RuM×(Nat×Bool) :=
 z0L (z1X (seqSt (runR listR [] b) (seqSt (runR listR [] b) (seqSt (runR bandR (false,0,0) b) (rowSt 4 b (runR (textR 12) ⟨#[]⟩ b))))) mkRu) ruIs
theorem zcV (b:Byt):StepsR b ruR (ruS b) :=
 z1d (z0W (z0u (z0h b listR []) (z0u (z0h b listR []) (z0u (z0h b bandR _) (z5b (z0h b (textR 12) _) (z0I 12) 4) ends_band) ends_list) ends_list) mkRu) ruIs
end Go.Proofs.YteakobbdgehlgaaGreatDoor
namespace Go.Ab
open Go
section
variable {P:Program} {f:FuncId} {args:List AV} {σ:St}
end
end Go.Ab
namespace Go.Proofs.YteakobbdgehlgaaGreatDoor
open Go Go.Ab Go.Cod
set_option maxRecDepth 100000
abbrev Zb:AV:=.pl (.int .u8 0)
abbrev bsv (bs:List Byt):List AV:=bs.map fun b=>.sl 1 (byv b)
theorem z24 (bs:List Byt):(bsv bs).length=bs.length:=List.length_map ..
theorem z4k (bs:List Byt) (i:Nat) (h:i<bs.length):(bsv bs)[i]?=some (.sl 1 (byv bs[i])):=by simp[h]
theorem z7y (bs:List Byt) (i:Nat) (h:i<bs.length):(bs.take (i+1)).flatten=(bs.take i).flatten++bs[i]:=by
 rw[List.take_succ_eq_append_getElem h,List.flatten_append];simp
theorem zbp (bs:List Byt) (i:Nat):((bs.take i).flatten).length≤bs.flatten.length:=by
 have:bs.flatten=(bs.take i).flatten++(bs.drop i).flatten:=by rw[←List.flatten_append,List.take_append_drop]
 rw[this,List.length_append];omega
section
variable (σ:St)
theorem zcW (n:Nat) (h:0<n) (hn:n≤1000000):Ans Tryz.prog 94 [.nils,I n] σ (.osl (σ.length+1) 0) (σ++[.dead,.row 1 []]):=by
 have d0:decide ((n:Int)<0)=false:=by simp
 have w1:IntKind.i64.wrap (n:Int)=n:=wrapI (by omega)
 have d1:decide ((0:Int)<n)=true:=by simp;omega
 have hz:((n:Int)=0)=False:=eq_false (by omega)
 have hp:((0:Int)<n)=True:=eq_true (by omega)
 have hle:((n:Int)≤4294967296)=True:=eq_true (by omega)
 have hc:(chunks 1 false n (z08 [Zb] n)).length=n:=z1B _ _ _ _;have z0:Int.toNat 0=0:=rfl;refine Ans.of_run t94 ?_;simp -implicitDefEqProofs only[c94,r94,go_sem,d0];have z0:Int.toNat 0=0:=rfl;have z1:Int.toNat ((n:Nat):Int)=n:=Int.toNat_natCast n;have w0:IntKind.i64.wrap 0=0:=rfl;simp -implicitDefEqProofs only[go_sem,d0,Int.sub_zero,w1,d1,w0,hz,hp,hle,z0,z1,g0,s0,hc,List.take_zero,List.drop_zero,Int.natCast_nonneg,Int.le_refl,Nat.sub_zero,List.length_append,List.length_cons,List.length_nil,List.append_assoc,List.cons_append,List.nil_append];exact Fini.ret rfl
theorem z6k (bs:List Byt) (hl:bs.length≤100) (h0:0<bs.flatten.length) (h1:bs.flatten.length≤1000000) :
  Ans Tryz.prog 58 [.sl 1 (bsv bs)] σ (.sl 1 (byv bs.flatten)) σ:=by
 refine Ans.of_run' t58 (fun hbel _=>?_)
 simp -implicitDefEqProofs only[c58,r58,go_sem,z24];refine Go.Ab.L.count bs.length (fun i=>mkE 36 [(0,.sl 1 (bsv bs)),(3,I ((bs.take i).flatten.length:Nat)),(9,.sl 1 (bsv bs)),(10,I bs.length),(11,I i)]) (fun _=>σ) ?_ ?_ rfl rfl
 · intro i hi J hJ;have hf:=zbp bs (i+1);rw[z7y bs i hi]at hJ hf;have hx:=z4k bs i hi;rw[List.length_append]at hJ hf;generalize bs[i]=c at hJ hf hx;generalize (bs.take i).flatten.length=t at hJ hf⊢;have ha:IntKind.i64.wrap ((t:Int)+(c.length:Int))=((t+c.length:Nat):Int):=by rw[wrapN (by omega) (by omega)];omega
   have d0:decide (((t+c.length:Nat):Int)<0)=false:=by simp;omega
   have hin:=wrap_succ (i:=i) (by omega)
   simp -implicitDefEqProofs only[mkE,go_sem,z24,z0F hi,dec_lt hi,hx,z02,ha,d0,hin];exact hJ
 · intro J;have d0:decide ((bs.length:Int)<bs.length)=false:=by simp
   simp -implicitDefEqProofs only[mkE,go_sem,z24,d0,List.take_length];refine CO.intro (zcW σ bs.flatten.length h0 h1) ?_;simp -implicitDefEqProofs only[go_sem,z24];refine Go.Ab.L.count bs.length (fun i=>mkE 36 [(6,.osl (σ.length+1) (bs.take i).flatten.length),(25,.sl 1 (bsv bs)),(26,I bs.length),(27,I i)]) (fun i=>σ++[.dead,.row 1 (byv (bs.take i).flatten)]) ?_ ?_ rfl rfl
   · intro i hi J hJ;have hf:=zbp bs (i+1);rw[z7y bs i hi]at hJ hf;have hx:=z4k bs i hi;rw[List.length_append]at hJ hf;generalize bs[i]=c at hJ hf hx;generalize (bs.take i).flatten=t at hJ hf⊢;have hle:t.length+c.length≤4294967296:=by omega
     have hin:=wrap_succ (i:=i) (by omega)
     simp -implicitDefEqProofs only[mkE,go_sem,z24,z0F hi,dec_lt hi,hx,z02,z1N,bc,hin,g1,s1,hle];simp only[z1c]at hJ;exact hJ
   · intro J;simp -implicitDefEqProofs only[mkE,go_sem,z24,d0,List.take_length];have gg:(σ++[Ob.dead,Ob.row 1 (byv bs.flatten)])[σ.length+1]?=some (.row 1 (byv bs.flatten)):=by rw[List.getElem?_append_right (by omega)];simp
     have gs:List.set (σ++[Ob.dead,Ob.row 1 (byv bs.flatten)]) (σ.length+1) Ob.dead=σ++[.dead,.dead]:=by rw[List.set_append_right _ _ (by omega)];simp
     simp only[gg,z02,if_true,gs];exact Fini.trim2 (σ':=σ) (ex:=[_,_]) rfl rfl (Nat.le_refl _) (z1P _ _) hbel
theorem zbq (bs:List Byt) (hl:bs.length≤100) (h0:0<bs.flatten.length) (h1:bs.flatten.length≤1000000) :
  Ans Tryz.prog 58 [.sl 1 (bsv bs)] σ (.sl 1 (byv bs.flatten)) σ :=
 z6k σ bs hl h0 h1
end
end Go.Proofs.YteakobbdgehlgaaGreatDoor
namespace Go.Proofs.YteakobbdgehlgaaGreatDoor
open Go Go.Ab Go.Cod
set_option maxRecDepth 100000
theorem zcX (l z:List AV) (i:Nat) (h:i<l.length) (hz:l.length=z.length):(l.take i++z.drop i).set i l[i]=l.take (i+1)++z.drop (i+1):=by
 have h1:(l.take i).length=i:=by rw[List.length_take];omega
 rw[List.set_append_right _ _ (by omega),h1,Nat.sub_self,List.drop_eq_getElem_cons (by omega),List.set_cons_zero,List.take_succ_eq_append_getElem h,List.append_assoc]
 rfl
def fillW (n i:Nat):List AV:=(byv (wrdB n)).take i++(List.replicate 8 Zb).drop i
theorem wrdB_len (n:Nat):(wrdB n).length=8:=rfl
theorem z45 (n i:Nat) (h:i≤8):(fillW n i).length=8:=by
 unfold fillW;rw[List.length_append,List.length_take,List.length_drop,z02,wrdB_len,List.length_replicate];omega
theorem z7z (n i:Nat) (h:i<8):(fillW n i).set i (bc (n/2^(56-8*i)).toUInt8)=fillW n (i+1):=by
 have e:(byv (wrdB n))[i]'(by rw[z02,wrdB_len];exact h)=bc (n/2^(56-8*i)).toUInt8:=by
  match i,h with
  |0,_=>rfl
  |1,_=>rfl
  |2,_=>rfl
  |3,_=>rfl
  |4,_=>rfl
  |5,_=>rfl
  |6,_=>rfl
  |7,_=>show bc n.toUInt8=bc (n/2^0).toUInt8;rw[Nat.pow_zero,Nat.div_one]
 have:=zcX (byv (wrdB n)) (List.replicate 8 Zb) i (by rw[z02,wrdB_len];exact h) (by rw[z02,wrdB_len,List.length_replicate])
 rw[e]at this;exact this
theorem z7A (n i:Nat) (h:i<8):(fillW n i)[i]?=some Zb:=by
 unfold fillW;have h1:((byv (wrdB n)).take i).length=i:=by rw[List.length_take,z02,wrdB_len];omega
 rw[List.getElem?_append_right (by omega),h1,Nat.sub_self,List.getElem?_drop,List.getElem?_replicate,if_pos (by omega)]
theorem mks8:(chunks 1 false (8:Int).toNat (z08 [Zb] (8:Int).toNat)).take (8:Int).toNat=List.replicate 8 Zb:=rfl
theorem shrN (n k:Nat) (h:k≤64):((n:Int).fdiv (2^min ((k:Nat):Int).toNat 64))=((n/2^k:Nat):Int):=by
 have:min ((k:Nat):Int).toNat 64=k:=by rw[Int.toNat_natCast];omega
 rw[this,Int.fdiv_eq_ediv_of_nonneg _ (Int.pow_nonneg (by decide))]
 push_cast;rfl
theorem ze5 (n:Nat):IntKind.u8.wrap (n:Int)=((n.toUInt8.toNat:Nat):Int):=by
 rw[z63,toUInt8_mod]
section
variable (σ:St)
theorem z8k (n:Nat):Ans Tryz.prog 57 [UN n] σ (.sl 1 (byv (wrdB n))) σ:=by
 refine Ans.of_run' t57 (fun hbel _=>?_)
 have z8:Int.toNat 8=8:=rfl;simp -implicitDefEqProofs only[c57,r57,go_sem,mks8,z8,g0,s0,List.length_cons,List.length_nil];refine Go.Ab.L.count 8 (fun i=>mkE 22 [(0,UN n),(3,.osl σ.length 8),(7,I 8),(8,I i)]) (fun i=>σ++[.row 1 (fillW n i)]) ?_ ?_ rfl rfl
 · intro i hi J hJ;have hl:=z45 n i (by omega)
   have d0:decide ((i:Int)<8)=true:=by simp;omega
   have w1:IntKind.i64.wrap (8*(i:Int))=((8*i:Nat):Int):=by rw[wrapN (by omega) (by omega)];push_cast;rfl
   have w2:IntKind.i64.wrap (56-((8*i:Nat):Int))=((56-8*i:Nat):Int):=by rw[wrapN (by omega) (by omega)];omega
   have h3:=shrN n (56-8*i) (by omega)
   rw[Int.toNat_natCast]at h3;have hlt:((i:Int)<((8:Nat):Int))=True:=eq_true (by omega)
   have hget:(fillW n i)[i]?=some Zb:=z7A n i hi;have hin:=wrap_succ (i:=i) (by omega)
   have hset:(fillW n i).set i (.pl (.int .u8 ((n/2^(56-8*i)).toUInt8.toNat:Nat)))=fillW n (i+1):=z7z n i hi;simp -implicitDefEqProofs only[mkE,go_sem,d0,w1,w2,h3,ze5,g0,s0,hl,hin,hset,hlt,hget];exact hJ
 · intro J;have hl:=z45 n 8 (by omega)
   have d0:decide (((8:Nat):Int)<8)=false:=by decide
   have e8:fillW n 8=byv (wrdB n):=by unfold fillW;rw[List.take_of_length_le (by rw[z02,wrdB_len];omega)];simp
   simp -implicitDefEqProofs only[mkE,go_sem,d0,g0,s0,hl,e8];exact Fini.trim2 (σ':=σ) rfl rfl (Nat.le_refl _) (z1P _ _) hbel
def wN (b:Byt):Nat:=b.foldl (fun a c=>a*256+c.toNat) 0
theorem zbr (b:Byt) (c:UInt8):wN (b++[c])=wN b*256+c.toNat:=by simp[wN]
theorem ze6:∀(b:Byt) (a:Nat),b.foldl (fun a c=>a*256+c.toNat) a<(a+1)*2^(8*b.length)
 |[],a=>by simp
 |c::b,a=>by
  have ih:=ze6 b (a*256+c.toNat);have hc:=c.toNat_lt;have e:8*(c::b).length=8+8*b.length:=by simp only[List.length_cons];omega
  rw[List.foldl_cons,e,Nat.pow_add,←Nat.mul_assoc];exact Nat.lt_of_lt_of_le ih (Nat.mul_le_mul_right _ (by omega))
theorem wN_lt (b:Byt):wN b<2^(8*b.length):=by have:=ze6 b 0;simpa[wN] using this
theorem z3w:∀b:Byt,wordR b=if 8≤b.length then some (wN (b.take 8),b.drop 8) else none
 |a::b::c::d::e::f::g::h::t=>by
  rw[if_pos (by simp only[List.length_cons];omega)]
  simp[wordR,wN]
 |[]=>rfl
 |[_]=>rfl
 |[_,_]=>rfl
 |[_,_,_]=>rfl
 |[_,_,_,_]=>rfl
 |[_,_,_,_,_]=>rfl
 |[_,_,_,_,_,_]=>rfl
 |[_,_,_,_,_,_,_]=>rfl
theorem ze7 (n c:Nat) (hc:c<256) (hn:n<2^56):IntKind.u64.wrap ((BitVec.ofInt 64 (IntKind.u64.wrap ((n:Int)*2^min 8 64)) ||| BitVec.ofInt 64 (c:Int)).toNat:Int)=((n*256+c:Nat):Int):=by
 have h:=zaW c n 8 (by omega) (by decide) (by omega)
 rw[BitVec.or_comm];exact h.trans (by congr 1;omega)
def wordV (b:Byt):AV:=match wordR b with
 |none=>.tup [UN 0,Bo false]
 |some p=>.tup [UN p.1,Bo true]
theorem z8l (b:Byt) (hb:b.length≤100000):Ans Tryz.prog 150 [.sl 1 (byv b)] σ (wordV b) σ:=by
 refine Ans.of_run t150 ?_;unfold wordV;rw[z3w];by_cases h8:8≤b.length
 · have d0:decide ((b.length:Int)<8)=false:=by simp;omega
   have l8:(8:Int)≤(b.length:Nat):=by omega
   have lt8:(b.take 8).length=8:=by rw[List.length_take];omega
   have z8:Int.toNat 8=8:=rfl;have z0:Int.toNat 0=0:=rfl;rw[if_pos h8];simp only;simp -implicitDefEqProofs only[c150,r150,go_sem,z02,d0,l8,z8,z0,z0q,z0r,List.drop_zero,lt8];refine Go.Ab.L.count 8 (fun i=>mkE 24 [(4,UN (wN ((b.take 8).take i))),(11,.sl 1 (byv (b.take 8))),(12,I 8),(13,I i)]) (fun _=>σ) ?_ ?_ rfl rfl
   · intro i hi J hJ;have hx:=z59 (b.take 8) i (by omega)
     have hs:(b.take 8).take (i+1)=(b.take 8).take i++[(b.take 8)[i]]:=List.take_succ_eq_append_getElem (by omega)
     rw[hs,zbr]at hJ;have hl:=wN_lt ((b.take 8).take i);rw[List.length_take]at hl;have hl:wN ((b.take 8).take i)<2^56:=Nat.lt_of_lt_of_le hl (Nat.pow_le_pow_right (by decide) (by omega))
     have hc:=((b.take 8)[i]).toNat_lt;generalize (b.take 8)[i]=c at hx hJ hc;generalize wN ((b.take 8).take i)=w at hl hJ⊢;have hor:=ze7 w c.toNat hc hl;have hwc:=z1u (n:=c.toNat) (by omega)
     have d1:decide ((i:Int)<8)=true:=by simp;omega
     have hlt:((i:Int)<((8:Nat):Int))=True:=eq_true (by omega)
     have hin:=wrap_succ (i:=i) (by omega)
     simp -implicitDefEqProofs only[mkE,go_sem,d1,z02,lt8,hlt,hx,bc,hwc,z8,hin]
     have key:∀v:Int,v=((w*256+c.toNat:Nat):Int)→J (mkE 24 [(4,.pl (.int .u64 v)),(11,.sl 1 (byv (b.take 8))),(12,I 8),(13,I ((i+1:Nat):Int))]) σ:=by
      rintro _ rfl;exact hJ
     exact key _ hor
   · intro J;have d1:decide (((8:Nat):Int)<8)=false:=by decide
     have e8:(b.take 8).take 8=b.take 8:=List.take_of_length_le (by omega)
     simp -implicitDefEqProofs only[mkE,go_sem,d1,e8];exact Fini.ret rfl
 · have d0:decide ((b.length:Int)<8)=true:=by simp;omega
   rw[if_neg h8];simp -implicitDefEqProofs only[c150,r150,go_sem,z02,d0];exact Fini.ret rfl
theorem z4x (u:Nat):Ans Tryz.prog 148 [UN u] σ (Fl u) σ:=ext_frombits.ok _ _ _ _ rfl
theorem ze8 (u:Nat):Ans Tryz.prog 129 [UN u] σ (.tup [Fl (if okV u then u else 0),Bo (okV u)]) σ:=by
 have e:(((bitsF u:Nat):Int) != (u:Nat))= !okV u:=by
  unfold okV;rw[bne];congr 1
  rw[Bool.eq_iff_iff];simp only[beq_iff_eq,decide_eq_true_eq];omega
 refine Ans.of_run t129 ?_;simp -implicitDefEqProofs only[c129,r129,go_sem];refine CO.intro (z4x σ u) ?_;simp -implicitDefEqProofs only[go_sem];refine CO.intro (z4O σ u) ?_;simp -implicitDefEqProofs only[go_sem,e]
 cases h:okV u with
 |true =>
  simp -implicitDefEqProofs only[go_sem];exact Fini.ret rfl
 |false =>
  simp -implicitDefEqProofs only[go_sem];exact Fini.ret rfl
section
variable (p:Nat) (b:Byt) (q:Nat×Bool)
theorem z9e (h:σ[p]?=some (rob b q)) (hq:Inb b q) (hb:b.length≤50000) :
  Ans Tryz.prog 130 [.ptr p 0] σ (UN (runR wordR 0 b q).1) (σ.set p (rob b (runR wordR 0 b q).2)):=by
 refine Ans.of_run t130 ?_;simp -implicitDefEqProofs only[c130,r130,go_sem];refine CO.intro (z17 σ p b q h hq) ?_;simp -implicitDefEqProofs only[go_sem];refine CO.intro (z8l σ (b.drop q.1) (by rw[List.length_drop];omega)) ?_
 obtain⟨a,bad⟩:=q;simp only at hq h⊢;have hq:a≤b.length:=hq;unfold wordV;have hw:=z3w (b.drop a);have ht:=z18 σ p b (a,bad) 8 (wordR (b.drop a)).isSome h (by simp only;omega)
 cases hg:wordR (b.drop a) with
 |none =>
  rw[hg]at ht;have e:took (a,bad) 8 (none:Option (Nat×Byt)).isSome=(a,true):=by cases bad<;>rfl
  rw[e]at ht;simp -implicitDefEqProofs only[go_sem];refine CO.intro ht ?_;simp -implicitDefEqProofs only[go_sem]
  cases bad with
  |true=>rw[z0K];exact Fini.ret rfl
  |false=>rw[z0V hg];exact Fini.ret rfl
 |some x =>
  obtain⟨n,t⟩:=x;rw[hg]at ht hw
  have hl:t.length=b.length-(a+8)∧a+8≤b.length:=by
   split at hw
   · rename_i h8;simp only[Option.some.injEq,Prod.mk.injEq]at hw;rw[hw.2,List.length_drop,List.length_drop];rw[List.length_drop]at h8;omega
   · cases hw
  simp -implicitDefEqProofs only[go_sem];refine CO.intro ht ?_
  cases bad with
  |true =>
   have e:took (a,true) 8 (some (n,t)).isSome=(a,true):=rfl;rw[e,z0K];simp -implicitDefEqProofs only[go_sem];exact Fini.ret rfl
  |false =>
   have e:took (a,false) 8 (some (n,t)).isSome=(b.length-t.length,false):=by
    simp only[took,Option.isSome_some,Bool.false_or,Bool.not_true,Bool.false_eq_true,if_false];congr 1;omega
   rw[e,z0H hg];simp -implicitDefEqProofs only[go_sem];exact Fini.ret rfl
theorem z9f (h:σ[p]?=some (rob b q)) (hq:Inb b q) (hb:b.length≤50000) :
  Ans Tryz.prog 144 [.ptr p 0] σ (Fl (valS b q).1) (σ.set p (rob b (valS b q).2)):=by
 refine Ans.of_run t144 ?_;simp -implicitDefEqProofs only[c144,r144,go_sem];refine CO.intro (z9e σ p b q h hq hb) ?_;have hi2:=z0f wordR 0 b q hq;unfold valS;generalize runR wordR 0 b q=w at hi2⊢;simp -implicitDefEqProofs only[go_sem];refine CO.intro (ze8 _ w.1) ?_;simp -implicitDefEqProofs only[go_sem];have h2:=z0b (σ.set p (rob b w.2)) p b w.2 (okV w.1) (z5c h _) hi2 hb;rw[List.set_set]at h2;refine CO.intro h2 ?_;simp -implicitDefEqProofs only[go_sem];exact Fini.ret rfl
end
end
end Go.Proofs.YteakobbdgehlgaaGreatDoor
namespace Go.Proofs.YteakobbdgehlgaaGreatDoor
open Go Go.Ab
set_option maxRecDepth 100000
def vals8:List ByteArray:=values++[⟨#[]⟩]
abbrev Mz:=Int×ByteArray×ByteArray
abbrev dv (d:Int×Int×Int):AV:=.agg [I d.1,I d.2.1,I d.2.2]
section
variable (σ:St)
end
def allV:List ByteArray:=vals8++pats
instance:DecidableEq ByteArray:=fun a b=>decidable_of_iff (a.data=b.data) (by cases a;cases b;simp)
structure MOK (x:Mz):Prop where
 lo:1≤x.1
 hi:x.1≤4
 nm:x.2.1∈names
 low:x.1<3→x.2.2∈vals8
 high:¬x.1<3→x.2.2∈pats
theorem MOK.val {x:Mz} (h:MOK x):x.2.2∈allV:=by
 unfold allV;by_cases h3:x.1<3
 · exact List.mem_append_left _ (h.low h3)
 · exact List.mem_append_right _ (h.high h3)
end Go.Proofs.YteakobbdgehlgaaGreatDoor
namespace Go.Proofs.YteakobbdgehlgaaGreatDoor
open Go Go.Ab Go.Cod
set_option maxRecDepth 100000
def bandV (b:Bool×Nat×Nat):AV:=.agg [Bo b.1,Fl b.2.1,Fl b.2.2]
theorem z1K (n:Nat) (b:Bool×Nat×Nat):Bel n (bandV b):=.agg _ fun i hi=>by
 have:∀y∈([Bo b.1,Fl b.2.1,Fl b.2.2]:List AV),Bel n y:=by
  intro y hy;simp only[List.mem_cons,List.not_mem_nil,or_false]at hy;rcases hy with rfl|rfl|rfl<;>exact .pl _
 exact this _ (List.getElem_mem hi)
section
variable (σ:St)
end
theorem z9g (l:List ByteArray) (s:ByteArray):txs (l++[s])=txs l++[Sx s]:=by simp[txs]
theorem zbs:txs []=[]:=rfl
theorem z1h (n:Nat) (L:List ByteArray):Bel n (.sl 1 (txs L)):=by
 refine .sl 1 _ fun i hi=>?_
 have:∀y∈txs L,Bel n y:=by
  intro y hy;simp only[txs,List.mem_map]at hy;obtain⟨x,_,rfl⟩:=hy;exact .pl _
 exact this _ (List.getElem_mem hi)
theorem g2 (σ:St) (x y z:Ob) (ex:St):(σ++x::y::z::ex)[σ.length+2]?=some z:=by rw[List.getElem?_append_right (by simp)];simp
theorem s2 (σ:St) (x y z u:Ob) (ex:St):(σ++x::y::z::ex).set (σ.length+2) u=σ++x::y::u::ex:=by rw[List.set_append_right _ _ (by simp)];simp
section
variable (σ:St)
end
theorem Inb0 (b:Byt):Inb b (0,false):=Nat.zero_le _
section
variable (σ:St)
theorem ze9 (n:Nat) (hn:n<18446744073709551616):Ans Tryz.prog 50 [UN n] σ (.sl 1 (byv (putN n))) σ:=(zaV σ n hn).shut (by rw[z02]) (z1P _ _)
theorem z4y (b:Byt) (hb:b.length≤50000):Ans Tryz.prog 124 [.sl 1 (byv b)] σ (readV (bandR b) b bandV (bandV (false,0,0))) σ:=by
 have hS:=(za8 b).top;refine Ans.of_run' t124 (fun hbel _=>?_)
 simp -implicitDefEqProofs only[c124,r124,go_sem];refine CO.intro (new_ans _ b) ?_;simp -implicitDefEqProofs only[go_sem,List.append_assoc,List.length_append];generalize hq1:runR byteR 0 b (0,false)=q1;have hin1:Inb b q1.2:=by rw[←hq1];exact z0f _ _ _ _ (Inb0 b)
 have hby:=z1f (σ++[.box [Bo false,Fl 0,Fl 0],rob b (0,false),.box [Bo false,Fl 0,Fl 0]]) (σ.length+1) b (0,false) (g1 _ _ _ _) (Inb0 b) hb;rw[hq1,s1]at hby;refine CO.intro hby ?_;obtain⟨c,q⟩:=q1;simp only at hin1⊢;by_cases h0:c=0
 · subst h0;have v1:=z9f (σ++[.box [Bo false,Fl 0,Fl 0],rob b q,.box [Bo false,Fl 0,Fl 0]]) (σ.length+1) b q (g1 _ _ _ _) hin1 hb;have hi2:=(z0D b).inb q hin1
   have hL:bandS b (0,false)=((false,(valS b q).1,(valS b (valS b q).2).1),took (valS b (valS b q).2).2 0 (mayB false (valS b q).1 (valS b (valS b q).2).1)):=by
    unfold bandS z0L bnd0S;rw[hq1];rfl
   generalize valS b q=w1 at v1 hi2 hL;obtain⟨lo,p1⟩:=w1;simp only at v1 hi2 hL;rw[s1]at v1;have v2:=z9f (σ++[.box [Bo false,Fl 0,Fl 0],rob b p1,.box [Bo false,Fl 0,Fl 0]]) (σ.length+1) b p1 (g1 _ _ _ _) hi2 hb;have hi3:=(z0D b).inb p1 hi2;generalize valS b p1=w2 at v2 hi3 hL;obtain⟨hi,p2⟩:=w2;simp only at v2 hi3 hL;rw[s1]at v2;have e0:((((0:UInt8).toNat:Nat):Int)==0)=true:=rfl;simp -implicitDefEqProofs only[go_sem,bc,e0,g0,g1,g2,s0,s1,s2];refine CO.intro v1 ?_;simp -implicitDefEqProofs only[go_sem];refine CO.intro v2 ?_;have h1:=z0b (σ++[.box [Bo false,Fl 0,Fl 0],rob b p2,.box [Bo false,Fl lo,Fl hi]]) (σ.length+1) b p2 (mayB false lo hi) (g1 _ _ _ _) hi3 hb;rw[s1]at h1;have hL:bandS b (0,false)=((false,lo,hi),took p2 0 (mayB false lo hi)):=hL;rw[hL]at hS;generalize took p2 0 (mayB false lo hi)=qe at h1 hS;have h2:=z2s (σ++[.box [Bo false,Fl 0,Fl 0],rob b qe,.box [Bo false,Fl lo,Fl hi]]) (σ.length+1) b qe (g1 _ _ _ _);simp -implicitDefEqProofs only[go_sem,g0,g1,g2,s0,s1,s2];refine CO.intro (z23 _ false lo hi) ?_;simp -implicitDefEqProofs only[go_sem];refine CO.intro h1 ?_;simp -implicitDefEqProofs only[go_sem];refine CO.intro h2 ?_
   cases hr:bandR b with
   |none =>
    have hb2:=hS.2 hr;obtain⟨qa,qb⟩:=qe;simp only at hb2;subst hb2;simp -implicitDefEqProofs only[go_sem,g0,g1,g2,s0,s1,s2];exact Fini.trim2 (σ':=σ) (ex:=[_,_,_]) (by simp -implicitDefEqProofs only[go_sem,resA,z01,rvA,oneOf,g0];rfl) rfl (Nat.le_refl _) (by unfold readV;exact z0a (z1K _ _)) hbel
   |some p =>
    obtain⟨M,t⟩:=p;have hb2:=hS.1 M t hr;simp only[Prod.mk.injEq]at hb2;obtain⟨rfl,rfl⟩:=hb2;simp -implicitDefEqProofs only[go_sem,g0,g1,g2,s0,s1,s2];exact Fini.trim2 (σ':=σ) (ex:=[_,_,_]) (by simp -implicitDefEqProofs only[go_sem,resA,z01,rvA,oneOf,g0];rfl) rfl (Nat.le_refl _) (by unfold readV;exact z0a (z1K _ _)) hbel
 · have e0:(((c.toNat:Nat):Int)==0)=false:=by
    rw[Bool.eq_false_iff];intro h;rw[beq_iff_eq]at h;exact h0 (UInt8.toNat_inj.1 (by rw[show(0:UInt8).toNat=0 from rfl];omega))
   by_cases h1:c=1
   · subst h1
     have hL:bandS b (0,false)=((true,0,0),took q 0 (mayB true 0 0)):=by
      unfold bandS z0L bnd0S;rw[hq1];rfl
     have e1:((((1:UInt8).toNat:Nat):Int)==1)=true:=rfl;simp -implicitDefEqProofs only[go_sem,bc,e0,e1,g0,g1,g2,s0,s1,s2];have h1:=z0b (σ++[.box [Bo false,Fl 0,Fl 0],rob b q,.box [Bo true,Fl 0,Fl 0]]) (σ.length+1) b q (mayB true 0 0) (g1 _ _ _ _) hin1 hb;rw[s1]at h1;have hL:bandS b (0,false)=((true,0,0),took q 0 (mayB true 0 0)):=hL;rw[hL]at hS;generalize took q 0 (mayB true 0 0)=qe at h1 hS;have h2:=z2s (σ++[.box [Bo false,Fl 0,Fl 0],rob b qe,.box [Bo true,Fl 0,Fl 0]]) (σ.length+1) b qe (g1 _ _ _ _);refine CO.intro (z23 _ true 0 0) ?_;simp -implicitDefEqProofs only[go_sem];refine CO.intro h1 ?_;simp -implicitDefEqProofs only[go_sem];refine CO.intro h2 ?_
     cases hr:bandR b with
     |none =>
      have hb2:=hS.2 hr;obtain⟨qa,qb⟩:=qe;simp only at hb2;subst hb2;simp -implicitDefEqProofs only[go_sem,g0,g1,g2,s0,s1,s2];exact Fini.trim2 (σ':=σ) (ex:=[_,_,_]) (by simp -implicitDefEqProofs only[go_sem,resA,z01,rvA,oneOf,g0];rfl) rfl (Nat.le_refl _) (by unfold readV;exact z0a (z1K _ _)) hbel
     |some p =>
      obtain⟨M,t⟩:=p;have hb2:=hS.1 M t hr;simp only[Prod.mk.injEq]at hb2;obtain⟨rfl,rfl⟩:=hb2;simp -implicitDefEqProofs only[go_sem,g0,g1,g2,s0,s1,s2];exact Fini.trim2 (σ':=σ) (ex:=[_,_,_]) (by simp -implicitDefEqProofs only[go_sem,resA,z01,rvA,oneOf,g0];rfl) rfl (Nat.le_refl _) (by unfold readV;exact z0a (z1K _ _)) hbel
   · have hL:bandS b (0,false)=((false,0,0),took (took q 0 false) 0 (mayB false 0 0)):=by
      unfold bandS z0L bnd0S;rw[hq1];simp only[h0,h1,if_false];rfl
     have e1:(((c.toNat:Nat):Int)==1)=false:=by
      rw[Bool.eq_false_iff];intro h;rw[beq_iff_eq]at h;exact h1 (UInt8.toNat_inj.1 (by rw[show(1:UInt8).toNat=1 from rfl];omega))
     have v1:=z0b (σ++[.box [Bo false,Fl 0,Fl 0],rob b q,.box [Bo false,Fl 0,Fl 0]]) (σ.length+1) b q false (g1 _ _ _ _) hin1 hb;rw[s1]at v1;have hi2:=z1v b q false hin1;generalize took q 0 false=p1 at v1 hi2 hL;simp -implicitDefEqProofs only[go_sem,bc,e0,e1,g0,g1,g2,s0,s1,s2];refine CO.intro v1 ?_;have h1:=z0b (σ++[.box [Bo false,Fl 0,Fl 0],rob b p1,.box [Bo false,Fl 0,Fl 0]]) (σ.length+1) b p1 (mayB false 0 0) (g1 _ _ _ _) hi2 hb;rw[s1]at h1;have hL:bandS b (0,false)=((false,0,0),took p1 0 (mayB false 0 0)):=hL;rw[hL]at hS;generalize took p1 0 (mayB false 0 0)=qe at h1 hS;have h2:=z2s (σ++[.box [Bo false,Fl 0,Fl 0],rob b qe,.box [Bo false,Fl 0,Fl 0]]) (σ.length+1) b qe (g1 _ _ _ _);simp -implicitDefEqProofs only[go_sem,g0,g1,g2,s0,s1,s2];refine CO.intro (z23 _ false 0 0) ?_;simp -implicitDefEqProofs only[go_sem];refine CO.intro h1 ?_;simp -implicitDefEqProofs only[go_sem];refine CO.intro h2 ?_
     cases hr:bandR b with
     |none =>
      have hb2:=hS.2 hr;obtain⟨qa,qb⟩:=qe;simp only at hb2;subst hb2;simp -implicitDefEqProofs only[go_sem,g0,g1,g2,s0,s1,s2];exact Fini.trim2 (σ':=σ) (ex:=[_,_,_]) (by simp -implicitDefEqProofs only[go_sem,resA,z01,rvA,oneOf,g0];rfl) rfl (Nat.le_refl _) (by unfold readV;exact z0a (z1K _ _)) hbel
     |some p =>
      obtain⟨M,t⟩:=p;have hb2:=hS.1 M t hr;simp only[Prod.mk.injEq]at hb2;obtain⟨rfl,rfl⟩:=hb2;simp -implicitDefEqProofs only[go_sem,g0,g1,g2,s0,s1,s2];exact Fini.trim2 (σ':=σ) (ex:=[_,_,_]) (by simp -implicitDefEqProofs only[go_sem,resA,z01,rvA,oneOf,g0];rfl) rfl (Nat.le_refl _) (by unfold readV;exact z0a (z1K _ _)) hbel
end
theorem z0v {α:Type} {r:Option (α×Byt)} {b:Byt} {enc:α→AV} {z:AV} (h:r=none):readV r b enc z=.tup [z,I 0,Bo false]:=by subst h;rfl
theorem z0E {α:Type} {r:Option (α×Byt)} {b:Byt} {enc:α→AV} {z:AV} {x:α} {t:Byt} (h:r=some (x,t)):readV r b enc z=.tup [enc x,I (b.length-t.length:Nat),Bo true]:=by subst h;rfl
abbrev mlV (M:List Mtr):AV:=.sl 3 (mvs3 M)
section
variable (σ:St) (p:Nat) (b:Byt) (q:Nat×Bool)
theorem z7B (h:σ[p]?=some (rob b q)) (hq:Inb b q) (hb:b.length≤50000):Ans Tryz.prog 121 [.ptr p 0,.fn 122 [] []] σ (mlV (runR listR [] b q).1) (σ.set p (rob b (runR listR [] b q).2)):=by
 obtain⟨a,bad⟩:=q;have hq:a≤b.length:=hq;have hl:(b.drop a).length≤50000:=by rw[List.length_drop];omega
 cases hr:listR (b.drop a) with
 |none =>
  have hrd:=z7w σ (b.drop a) hl;rw[z0v hr]at hrd
  have e:runR listR [] b (a,bad)=([],(a,true)):=by
   cases bad
   · exact z0V hr
   · exact z0K _ _ _ _
  have e2:took (a,bad) 0 false=(a,true):=by cases bad<;>rfl
  have ht:=z18 σ p b (a,bad) 0 false h (by simp only;omega)
  rw[e2]at ht;rw[e]
  have:Ans Tryz.prog 121 [.ptr p 0,.fn 122 [] []] σ .nils (σ.set p (rob b (a,true))):=by
   refine Ans.of_run t121 ?_;simp -implicitDefEqProofs only[c121,r121,go_sem];refine CO.intro (z17 σ p b (a,bad) h hq) ?_;simp -implicitDefEqProofs only[go_sem];refine CO.intro hrd ?_;simp -implicitDefEqProofs only[go_sem];refine CO.intro ht ?_;simp -implicitDefEqProofs only[go_sem];exact Fini.ret rfl
  exact this.subR (.nils 3)
 |some x =>
  obtain⟨x,t⟩:=x;have hrd:=z7w σ (b.drop a) hl;rw[z0E hr]at hrd;have hdr:=ends_list.drop hq hr;have ht:=z18 σ p b (a,bad) ((b.drop a).length-t.length) true h (by simp only[List.length_drop];omega)
  cases bad with
  |true =>
   have e2:took (a,true) ((b.drop a).length-t.length) true=(a,true):=rfl;rw[e2]at ht;rw[z0K]
   have:Ans Tryz.prog 121 [.ptr p 0,.fn 122 [] []] σ .nils (σ.set p (rob b (a,true))):=by
    refine Ans.of_run t121 ?_;simp -implicitDefEqProofs only[c121,r121,go_sem];refine CO.intro (z17 σ p b (a,true) h hq) ?_;simp -implicitDefEqProofs only[go_sem];refine CO.intro hrd ?_;simp -implicitDefEqProofs only[go_sem];refine CO.intro ht ?_;simp -implicitDefEqProofs only[go_sem];exact Fini.ret rfl
   exact this.subR (.nils 3)
  |false =>
   have e2:took (a,false) ((b.drop a).length-t.length) true=(b.length-t.length,false):=by
    simp only[took,Bool.false_or,Bool.not_true,Bool.false_eq_true,if_false,List.length_drop];congr 1;omega
   rw[e2]at ht;rw[z0H hr];refine Ans.of_run t121 ?_;simp -implicitDefEqProofs only[c121,r121,go_sem];refine CO.intro (z17 σ p b (a,false) h hq) ?_;simp -implicitDefEqProofs only[go_sem];refine CO.intro hrd ?_;simp -implicitDefEqProofs only[go_sem];refine CO.intro ht ?_;simp -implicitDefEqProofs only[go_sem];exact Fini.ret rfl
theorem zbt (h:σ[p]?=some (rob b q)) (hq:Inb b q) (hb:b.length≤50000):Ans Tryz.prog 123 [.ptr p 0,.fn 124 [] []] σ (bandV (runR bandR (false,0,0) b q).1) (σ.set p (rob b (runR bandR (false,0,0) b q).2)):=by
 obtain⟨a,bad⟩:=q;have hq:a≤b.length:=hq;have hl:(b.drop a).length≤50000:=by rw[List.length_drop];omega
 have hp:p<σ.length:=(List.getElem?_eq_some_iff.1 h).1;have hz:∀ob,(σ++[ob])[p]?=some (rob b (a,bad)):=fun ob=>by rw[List.getElem?_append_left hp];exact h
 have hst:∀ob X,(σ++[ob]).set p X=σ.set p X++[ob]:=fun ob X=>by rw[List.set_append_left _ _ hp]
 have hlen:∀X,(σ.set p X).length=σ.length:=fun X=>List.length_set
 have gx:∀(X:Ob) (o:Ob) (ex:St),(σ.set p X++o::ex)[σ.length]?=some o:=fun X o ex=>by rw[←hlen X];exact g0 _ _ _
 have sx:∀(X:Ob) (o u:Ob) (ex:St),(σ.set p X++o::ex).set σ.length u=σ.set p X++u::ex:=fun X o u ex=>by rw[←hlen X];exact s0 _ _ _ _
 have gx1:∀(X:Ob) (o o2:Ob) (ex:St),(σ.set p X++o::o2::ex)[σ.length+1]?=some o2:=fun X o o2 ex=>by rw[←hlen X];exact g1 _ _ _ _
 have hbo:∀(hbel:∀o∈σ,BelO σ.length o) (q:Nat×Bool),∀o∈σ.set p (rob b q),BelO (σ.set p (rob b q)).length o:=fun hbel q=>by
  rw[hlen]
  exact z21 hbel (fun c hc=>by
   simp only[List.mem_cons,List.not_mem_nil,or_false]at hc;rcases hc with rfl|rfl|rfl
   · exact z1P _ _
   · exact .pl _
   · exact .pl _)
 cases hr:bandR (b.drop a) with
 |none =>
  have hrd:=fun s=>z4y s (b.drop a) hl
  simp only[z0v hr]at hrd
  have e:runR bandR (false,0,0) b (a,bad)=((false,0,0),(a,true)):=by
   cases bad
   · exact z0V hr
   · exact z0K _ _ _ _
  have e2:took (a,bad) 0 false=(a,true):=by cases bad<;>rfl
  have ht:=fun ob=>z18 (σ++[ob]) p b (a,bad) 0 false (hz ob) (by simp only;omega)
  simp only[e2,hst]at ht;rw[e];refine Ans.of_run' t123 (fun hbel _=>?_)
  simp -implicitDefEqProofs only[c123,r123,go_sem];refine CO.intro (z17 _ p b (a,bad) (hz _) hq) ?_;simp -implicitDefEqProofs only[go_sem];refine CO.intro (hrd _) ?_;simp -implicitDefEqProofs only[go_sem,bandV];refine CO.intro (ht _) ?_;simp -implicitDefEqProofs only[go_sem,gx,sx,gx1,List.append_assoc,List.length_append,hlen];exact Fini.trim2 (σ':=σ.set p (rob b (a,true))) (ex:=[_,_]) (by simp -implicitDefEqProofs only[go_sem,resA,z01,rvA,oneOf,gx]<;>rfl) rfl (by rw[hlen];exact Nat.le_refl _) (z1K _ (false,0,0)) (hbo hbel _)
 |some x =>
  obtain⟨x,t⟩:=x;have hrd:=fun s=>z4y s (b.drop a) hl
  simp only[z0E hr]at hrd;have hdr:=ends_band.drop hq hr;have ht:=fun ob=>z18 (σ++[ob]) p b (a,bad) ((b.drop a).length-t.length) true (hz ob) (by simp only[List.length_drop];omega)
  simp only[hst]at ht
  cases bad with
  |true =>
   have e2:took (a,true) ((b.drop a).length-t.length) true=(a,true):=rfl;rw[e2]at ht;rw[z0K];refine Ans.of_run' t123 (fun hbel _=>?_)
   simp -implicitDefEqProofs only[c123,r123,go_sem];refine CO.intro (z17 _ p b (a,true) (hz _) hq) ?_;simp -implicitDefEqProofs only[go_sem];refine CO.intro (hrd _) ?_;simp -implicitDefEqProofs only[go_sem,bandV];refine CO.intro (ht _) ?_;simp -implicitDefEqProofs only[go_sem,gx,sx,gx1,List.append_assoc,List.length_append,hlen];exact Fini.trim2 (σ':=σ.set p (rob b (a,true))) (ex:=[_,_]) (by simp -implicitDefEqProofs only[go_sem,resA,z01,rvA,oneOf,gx]<;>rfl) rfl (by rw[hlen];exact Nat.le_refl _) (z1K _ (false,0,0)) (hbo hbel _)
  |false =>
   have e2:took (a,false) ((b.drop a).length-t.length) true=(b.length-t.length,false):=by
    simp only[took,Bool.false_or,Bool.not_true,Bool.false_eq_true,if_false,List.length_drop];congr 1;omega
   rw[e2]at ht;rw[z0H hr];refine Ans.of_run' t123 (fun hbel _=>?_)
   simp -implicitDefEqProofs only[c123,r123,go_sem];refine CO.intro (z17 _ p b (a,false) (hz _) hq) ?_;simp -implicitDefEqProofs only[go_sem];refine CO.intro (hrd _) ?_;simp -implicitDefEqProofs only[go_sem,bandV];refine CO.intro (ht _) ?_;simp -implicitDefEqProofs only[go_sem,gx,sx,gx1,List.append_assoc,List.length_append,hlen];exact Fini.trim2 (σ':=σ.set p (rob b (b.length-t.length,false))) (ex:=[_]) (by simp -implicitDefEqProofs only[go_sem,resA,z01,rvA,oneOf,gx]<;>rfl) rfl (by rw[hlen];exact Nat.le_refl _) (z1K _ x) (hbo hbel _)
end
theorem g3 (σ:St) (x y z u:Ob) (ex:St):(σ++x::y::z::u::ex)[σ.length+3]?=some u:=by rw[List.getElem?_append_right (by simp)];simp
theorem s3 (σ:St) (x y z u v:Ob) (ex:St):(σ++x::y::z::u::ex).set (σ.length+3) v=σ++x::y::z::v::ex:=by rw[List.set_append_right _ _ (by simp)];simp
def txC (n:Nat) (e:List ByteArray):AV:=if e.isEmpty then .nils else .osl n e.length
def txS (e:List ByteArray):St:=if e.isEmpty then[] else[.row 1 (txs e)]
theorem z6l (n:Nat) {e:List ByteArray} (h:e.isEmpty=false):txC n e=.osl n e.length:=by unfold txC;rw[h];rfl
theorem z6m {e:List ByteArray} (h:e.isEmpty=false):txS e=[.row 1 (txs e)]:=by unfold txS;rw[h];rfl
theorem z4Q (e:List ByteArray) (s:ByteArray):(e++[s]).isEmpty=false:=by cases e<;>rfl
theorem z5z (n:Nat) (r:RuM):Bel n (ruV r):=.agg _ fun i hi=>by
 have:∀y∈([.sl 3 (mvs3 r.src),.sl 3 (mvs3 r.tgt),Bo r.any,Fl r.lo,Fl r.hi,.sl 1 (txs r.eq)]:List AV),Bel n y:=by
  intro y hy;simp only[List.mem_cons,List.not_mem_nil,or_false]at hy;rcases hy with rfl|rfl|rfl|rfl|rfl|rfl
  · exact z0x _ _
  · exact z0x _ _
  · exact .pl _
  · exact .pl _
  · exact .pl _
  · exact z1h _ _
 exact this _ (List.getElem_mem hi)
def noRu:RuM:=⟨[],[],false,0,0,[]⟩
abbrev Z6:Ob:=.box [.nils,.nils,Bo false,Fl 0,Fl 0,.nils]
def noRuV:AV:=.agg [.nils,.nils,Bo false,Fl 0,Fl 0,.nils]
theorem z6J:Sub noRuV (ruV noRu):=.agg (.cons (.nils 3) (.cons (.nils 3) (.cons (.refl _) (.cons (.refl _) (.cons (.refl _) (.cons (.nils 1) .nil))))))
theorem z1o (n:Nat):Bel n noRuV:=.agg _ fun i hi=>by
 have:∀y∈([.nils,.nils,Bo false,Fl 0,Fl 0,.nils]:List AV),Bel n y:=by
  intro y hy;simp only[List.mem_cons,List.not_mem_nil,or_false]at hy;rcases hy with rfl|rfl|rfl|rfl|rfl|rfl
  · exact .nils
  · exact .nils
  · exact .pl _
  · exact .pl _
  · exact .pl _
  · exact .nils
 exact this _ (List.getElem_mem hi)
section
variable (σ:St)
set_option maxHeartbeats 4000000 in
theorem z8m (b:Byt) (hb:b.length≤50000):Ans Tryz.prog 126 [.sl 1 (byv b)] σ (readV (ruR b) b ruV noRuV) σ:=by
 have hS:=(zcV b).top;refine Ans.of_run' t126 (fun hbel _=>?_)
 simp -implicitDefEqProofs only[c126,r126,go_sem];refine CO.intro (new_ans _ b) ?_
 have hs2:∀q,ruS b q=(mkRu ((runR listR [] b q).1,(runR listR [] b (runR listR [] b q).2).1,(runR bandR (false,0,0) b (runR listR [] b (runR listR [] b q).2).2).1,(rowSt 4 b (runR (textR 12) ⟨#[]⟩ b) (runR bandR (false,0,0) b (runR listR [] b (runR listR [] b q).2).2).2).1),
   took (rowSt 4 b (runR (textR 12) ⟨#[]⟩ b) (runR bandR (false,0,0) b (runR listR [] b (runR listR [] b q).2).2).2).2 0 (ruIs (mkRu ((runR listR [] b q).1,(runR listR [] b (runR listR [] b q).2).1,(runR bandR (false,0,0) b (runR listR [] b (runR listR [] b q).2).2).1,(rowSt 4 b (runR (textR 12) ⟨#[]⟩ b) (runR bandR (false,0,0) b (runR listR [] b (runR listR [] b q).2).2).2).1)))):=fun q=>rfl
 rw[hs2]at hS;have h1:=z7B (σ++[Z6,rob b (0,false)]) (σ.length+1) b (0,false) (g1 _ _ _ _) (Inb0 b) hb;rw[s1]at h1;have i1:=z0f listR [] b (0,false) (Inb0 b);generalize runR listR [] b (0,false)=w1 at h1 i1 hS;obtain⟨m1,q1⟩:=w1;simp only at h1 i1 hS;have h2:=z7B (σ++[Z6,rob b q1]) (σ.length+1) b q1 (g1 _ _ _ _) i1 hb;rw[s1]at h2;have i2:=z0f listR [] b q1 i1;generalize runR listR [] b q1=w2 at h2 i2 hS;obtain⟨m2,q2⟩:=w2;simp only at h2 i2 hS;have h3:=zbt (σ++[Z6,rob b q2]) (σ.length+1) b q2 (g1 _ _ _ _) i2 hb;rw[s1]at h3;have i3:=z0f bandR (false,0,0) b q2 i2;generalize runR bandR (false,0,0) b q2=w3 at h3 i3 hS;obtain⟨⟨any,lo,hi⟩,q3⟩:=w3;unfold bandV at h3;simp only at h3 i3 hS;simp -implicitDefEqProofs only[go_sem,List.append_assoc,List.length_append];refine CO.intro h1 ?_;simp -implicitDefEqProofs only[go_sem];refine CO.intro h2 ?_;simp -implicitDefEqProofs only[go_sem];refine CO.intro h3 ?_;unfold rowSt at hS;have h4:=z22 (σ++[Z6,rob b q3,.box [mlV m1,mlV m2,Bo any,Fl lo,Fl hi,.nils]]) (σ.length+1) b q3 4 (by decide) (g1 _ _ _ _) i3 hb
 rw[s1]at h4;have i4:=z0f (numR 4) 0 b q3 i3;have hn4:=z2x (most:=4) b q3;generalize runR (numR 4) 0 b q3=w4 at h4 i4 hS hn4;obtain⟨n,q4⟩:=w4;simp only at h4 i4 hS hn4;simp -implicitDefEqProofs only[go_sem,List.append_assoc,List.length_append,g0,g1,g2,s0,s1,s2];refine CO.intro h4 ?_;simp -implicitDefEqProofs only[go_sem]
 refine Go.Ab.L.count n (fun i=>mkE 44 [(2,.ptr σ.length 0),(5,.ptr (σ.length+1) 0),(6,.ptr (σ.length+2) 0),(19,UN n),(20,UN i)])
  (fun i=>σ++Z6::rob b (itSt (runR (textR 12) ⟨#[]⟩ b) q4 i).2::.box [mlV m1,mlV m2,Bo any,Fl lo,Fl hi,txC (σ.length+3) (itSt (runR (textR 12) ⟨#[]⟩ b) q4 i).1]::txS (itSt (runR (textR 12) ⟨#[]⟩ b) q4 i).1) ?_ ?_ rfl rfl
 · intro i hin J hJ;have hit:=z2k (z0f (textR 12) ⟨#[]⟩ b) q4 i4 i;have hlen:=z34 (runR (textR 12) ⟨#[]⟩ b) q4 i;simp only[itSt]at hJ;generalize itSt (runR (textR 12) ⟨#[]⟩ b) q4 i=c at hJ hit hlen⊢;obtain⟨l,q⟩:=c;simp only at hJ hit hlen⊢;have d0:decide ((i:Int)<n)=true:=dec_lt hin;have w0:=z1u (n:=i+1) (by omega)
   have e0:((i:Int)+1)=((i+1:Nat):Int):=rfl;have h5:=z2F (σ++Z6::rob b q::.box [mlV m1,mlV m2,Bo any,Fl lo,Fl hi,txC (σ.length+3) l]::txS l) (σ.length+1) b q 12 (by decide) (g1 _ _ _ _) hit hb
   rw[s1]at h5;generalize runR (textR 12) ⟨#[]⟩ b q=w5 at h5 hJ;obtain⟨s,q5⟩:=w5;simp only at h5 hJ;rw[z6l _ (z4Q l s),z6m (z4Q l s),z9g]at hJ;rw[List.length_append,List.length_singleton]at hJ
   cases hem:l.isEmpty with
   |true =>
    have hle:l=[]:=List.isEmpty_iff.1 hem;subst hle;unfold txC txS at h5⊢;simp only[List.isEmpty_nil,if_true]at h5⊢;simp -implicitDefEqProofs only[mkE,go_sem,d0,g0,g1,g2,s0,s1,s2];refine CD.intro h5 ?_;have p32:((1:Nat)≤2^32)=True:=eq_true (by decide)
    simp -implicitDefEqProofs only[go_sem,g0,g1,g2,s0,s1,s2,w0,e0,p32,List.length_append,List.append_assoc,List.length_cons,List.length_nil];exact hJ
   |false =>
    rw[z6l _ hem,z6m hem]at h5⊢;have hll:l.length+1≤4294967296:=by omega
    simp -implicitDefEqProofs only[mkE,go_sem,d0,g0,g1,g2,s0,s1,s2];refine CD.intro h5 ?_;simp -implicitDefEqProofs only[go_sem,g0,g1,g2,g3,s0,s1,s2,s3,w0,e0,z1l,hll,List.length_singleton];exact hJ
 · intro J;have hit:=z2k (z0f (textR 12) ⟨#[]⟩ b) q4 i4 n;have hlen:=z34 (runR (textR 12) ⟨#[]⟩ b) q4 n;generalize itSt (runR (textR 12) ⟨#[]⟩ b) q4 n=c at hS hit hlen⊢;obtain⟨l,q⟩:=c;simp only at hS hit hlen⊢;have d0:decide ((n:Int)<n)=false:=by simp
   have hru:=fun s=>z29 s (mkRu (m1,m2,(any,lo,hi),l))
   generalize ruIs (mkRu (m1,m2,(any,lo,hi),l))=ok at hru hS
   cases hem:l.isEmpty with
   |true =>
    have hle:l=[]:=List.isEmpty_iff.1 hem;subst hle;unfold txC txS;simp only[List.isEmpty_nil,if_true];have h6:=z0b (σ++[Z6,rob b q,.box [mlV m1,mlV m2,Bo any,Fl lo,Fl hi,.sl 1 (txs [])]]) (σ.length+1) b q ok (g1 _ _ _ _) hit hb;rw[s1]at h6;generalize took q 0 ok=qe at h6 hS;have h7:=z2s (σ++[Z6,rob b qe,.box [mlV m1,mlV m2,Bo any,Fl lo,Fl hi,.sl 1 (txs [])]]) (σ.length+1) b qe (g1 _ _ _ _);simp -implicitDefEqProofs only[mkE,go_sem,d0,zbs,g0,g1,g2,g3,s0,s1,s2,s3];refine CO.intro (hru _) ?_;simp -implicitDefEqProofs only[go_sem];refine CO.intro h6 ?_;simp -implicitDefEqProofs only[go_sem];refine CO.intro h7 ?_
    cases hr:ruR b with
    |none =>
     have hb2:=hS.2 hr;obtain⟨qa,qb⟩:=qe;simp only at hb2;subst hb2;simp -implicitDefEqProofs only[go_sem,g0,g1,g2,g3,s0,s1,s2,s3];exact Fini.trim2 (σ':=σ) (ex:=[_,_,_]) (by simp -implicitDefEqProofs only[go_sem,resA,z01,rvA,oneOf,g0];rfl) rfl (Nat.le_refl _) (by unfold readV;exact z0a (z1o _)) hbel
    |some p =>
     obtain⟨M,t⟩:=p;have hb2:=hS.1 M t hr;simp only[Prod.mk.injEq]at hb2;obtain⟨rfl,rfl⟩:=hb2;simp -implicitDefEqProofs only[go_sem,g0,g1,g2,g3,s0,s1,s2,s3];exact Fini.trim2 (σ':=σ) (ex:=[_,_,_]) (by simp -implicitDefEqProofs only[go_sem,resA,z01,rvA,oneOf,g0];rfl) rfl (Nat.le_refl _) (by unfold readV;exact z0a (z5z _ _)) hbel
   |false =>
    rw[z6l _ hem,z6m hem];have ne32:(σ.length+3≠σ.length+2)=True:=eq_true (by omega)
    have h6:=z0b (σ++[Z6,rob b q,.box [mlV m1,mlV m2,Bo any,Fl lo,Fl hi,.sl 1 (txs l)],.dead]) (σ.length+1) b q ok (g1 _ _ _ _) hit hb;rw[s1]at h6;generalize took q 0 ok=qe at h6 hS;have h7:=z2s (σ++[Z6,rob b qe,.box [mlV m1,mlV m2,Bo any,Fl lo,Fl hi,.sl 1 (txs l)],.dead]) (σ.length+1) b qe (g1 _ _ _ _);simp -implicitDefEqProofs only[mkE,go_sem,d0,z1l,ne32,g0,g1,g2,g3,s0,s1,s2,s3];refine CO.intro (hru _) ?_;simp -implicitDefEqProofs only[go_sem];refine CO.intro h6 ?_;simp -implicitDefEqProofs only[go_sem];refine CO.intro h7 ?_
    cases hr:ruR b with
    |none =>
     have hb2:=hS.2 hr;obtain⟨qa,qb⟩:=qe;simp only at hb2;subst hb2;simp -implicitDefEqProofs only[go_sem,g0,g1,g2,g3,s0,s1,s2,s3];exact Fini.trim2 (σ':=σ) (ex:=[_,_,_,_]) (by simp -implicitDefEqProofs only[go_sem,resA,z01,rvA,oneOf,g0];rfl) rfl (Nat.le_refl _) (by unfold readV;exact z0a (z1o _)) hbel
    |some p =>
     obtain⟨M,t⟩:=p;have hb2:=hS.1 M t hr;simp only[Prod.mk.injEq]at hb2;obtain⟨rfl,rfl⟩:=hb2;simp -implicitDefEqProofs only[go_sem,g0,g1,g2,g3,s0,s1,s2,s3];exact Fini.trim2 (σ':=σ) (ex:=[_,_,_,_]) (by simp -implicitDefEqProofs only[go_sem,resA,z01,rvA,oneOf,g0];rfl) rfl (Nat.le_refl _) (by unfold readV;exact z0a (z5z _ _)) hbel
theorem z6n (b:Byt) (hb:b.length≤50000):Ans Tryz.prog 126 [.sl 1 (byv b)] σ (readV (ruR b) b ruV (ruV noRu)) σ:=by
 refine(z8m σ b hb).subR ?_;unfold readV
 cases ruR b with
 |none=>exact .tup (.cons z6J (.refl _))
 |some p=>exact .refl _
end
end Go.Proofs.YteakobbdgehlgaaGreatDoor
namespace Go.Ab
open Go Go.ChangeShapes Go.WideShapes
theorem Reads.weak {P:Program} {t:TypeId} {f:Nat} {Q Q':List AV→Prop} (h:Reads P t f Q) (hq:∀xs,Q xs→∃ys,Q' ys∧Subs xs ys):Reads P t f Q':=by
 intro H enc W cs x hx;obtain⟨xs,h1,h2⟩:=h H enc W cs x hx;obtain⟨ys,h3,h4⟩:=hq xs h2;exact⟨ys,h4.reps h1,h3⟩
def zfO:List AV→Prop:=fun xs=>∃n:Nat,xs=[.pl (.float .f64 n)]
theorem Reads.float {P:Program} {t:TypeId} (ht:P.underlying t=some (.float .f64)) (f:Nat):Reads P t f zfO:=by
 intro H enc W cs x h
 have:∃n,cs=[.float .f64 n]:=by
  cases f with
  |zero=>simp[DataW.trod]at h
  |succ n =>
   unfold DataW.trod at h;rw[ht]at h;split at h<;>simp_all
 obtain⟨n,rfl⟩:=this;exact⟨_,z3u (.pl _),n,rfl⟩
def QSl (sz:Nat) (ag:Bool) (Q:List AV→Prop):List AV→Prop:=fun xs=>∃ys:List (List AV),(∀y∈ys,Q y)∧ys.length≤maxLen∧xs=[.sl sz (ys.map (wrapC ag))]
theorem QSlice.weak {sz:Nat} {ag:Bool} {Q:List AV→Prop} (xs:List AV) (h:QSlice sz ag Q xs):∃ys,QSl sz ag Q ys∧Subs xs ys:=by
 rcases h with rfl|⟨ys,h1,h2,rfl⟩
 · exact⟨_,⟨[],by simp,by simp,rfl⟩,.cons (.nils sz) .nil⟩
 · exact⟨_,⟨ys,h1,h2,rfl⟩,Subs.refl _⟩
end Go.Ab
namespace Go.Proofs.YteakobbdgehlgaaGreatDoor
open Go Go.Ab Go.ChangeShapes Go.WideShapes Go.ChangeAt Go.RowKit
set_option maxRecDepth 100000
section
variable {H:Type} {enc:TypeId×Value→H} {W:World} {base:Nat} {v:Value} {d:DataW H} {ps:List MemPlace}
theorem zeM (hv:Value.okWide Tryz.prog W .any base 3 v) (h:DataW.Trod enc Tryz.prog W 0 (fun _=>true) true 3 v d ps):∃n:Int,Rep noM noR W (I n) v:=by
 obtain⟨n,rfl⟩:=okWide_int Tryz.underlying3 hv;obtain⟨x,hx,m,hm,e⟩:=Reads.arg (P:=Tryz.prog) (t:=3) (fun f=>Reads.int Tryz.underlying3 f) rfl h
 simp only[List.cons.injEq,and_true]at e;subst e;exact⟨m,hx⟩
end
end Go.Proofs.YteakobbdgehlgaaGreatDoor
namespace Go.Proofs.YteakobbdgehlgaaGreatDoor
open Go Go.Ab Go.Cod
set_option maxRecDepth 100000
theorem zcY:mtrR []=none:=rfl
theorem z7C (c:UInt8) (u:Byt):mtrR (c::u)=(textR 12 u).bind fun p=>(textR 40 p.2).map fun q=>(mkM (c,p.1,q.1),q.2):=by
 simp only[mtrR,z0U,seqR,byteR,Option.bind_some]
 cases textR 12 u with
 |none=>rfl
 |some p =>
  simp only[Option.bind_some]
  cases textR 40 p.2 with
  |none=>rfl
  |some q=>rfl
theorem z5A {α:Type} (r:Rd α) (n:Nat) (b:Byt):manyR r (n+1) b=(r b).bind fun p=>(manyR r n p.2).map fun q=>(p.1::q.1,q.2):=rfl
theorem z4l (σ:St) (b:Byt) (hb:b.length≤50000):Ans Tryz.prog 137 [.sl 1 (byv b)] σ (readV (listR b) b (fun M=>.sl 3 (mvs3 M)) .nils) σ:=by
 refine Ans.of_run' t137 (fun hbel _=>?_)
 simp -implicitDefEqProofs only[c137,r137,go_sem];refine CO.intro (z19 σ b (by omega)) ?_
 cases hg:getN 0 b with
 |none =>
  have hR:listR b=none:=by simp only[listR,onlyR,rowR,numR,hg,Option.bind_none]
  rw[z0A hg,hR];simp -implicitDefEqProofs only[go_sem];exact Fini.ret rfl
 |some p =>
  obtain⟨n,t⟩:=p;rw[z0G hg];have e1:decide ((5:Int)<n)=decide (5<n):=decNN 5 n;by_cases h5:5<n
  · have hR:listR b=none:=by simp only[listR,onlyR,rowR,numR,hg,Option.bind_some,show ¬n≤5 by omega,if_false,Option.bind_none]
    rw[hR];simp -implicitDefEqProofs only[go_sem,e1,decide_eq_true h5];exact Fini.ret rfl
  · have hN:numR 5 b=some (n,t):=by simp only[numR,hg,Option.bind_some,show n≤5 by omega,if_true]
    have hR:listR b=(manyR mtrR n t).bind fun x=>if listB x.1 then some x else none:=by simp only[listR,onlyR,rowR,hN,Option.bind_some]
    obtain⟨hd0,_,hl0⟩:=(ends_num 5).drop (b:=b) (a:=0) (Nat.zero_le _) hN;have hwn:=wrapI (a:=n) (by omega)
    simp -implicitDefEqProofs only[go_sem,e1,decide_eq_false h5]
    refine Go.Ab.L.intro (α:={ p:Nat×List Mtr×Nat // p.1≤n∧p.2.1.length=p.1∧p.2.2≤b.length∧(∀x∈p.2.1,x.2.1.size≤100000)∧manyR mtrR n t=(manyR mtrR (n-p.1) (b.drop p.2.2)).map fun r=>(p.2.1++r.1,r.2) }) (fun p=>n-p.1.1)
     (fun p=>mkE 84 [(0,.sl 1 (byv b)),(5,UN n),(6,I p.1.2.2),(8,.osl σ.length p.1.1),(9,I p.1.1)]) (fun p=>σ++[.row 3 (mvs3 p.1.2.1)]) ?_ ⟨(0,[],b.length-t.length),Nat.zero_le _,rfl,Nat.sub_le _ _,by simp,by rw[hd0];cases manyR mtrR n t<;>simp⟩ rfl rfl
    rintro⟨⟨i,l,at_⟩,hi,hll,hat,hsz,hm⟩ J hJ;simp only at hi hll hat hsz hm hJ;have hlm:(mvs3 l).length=i:=by rw[z0s,hll]
    have hbm:∀k,Bel k (.sl 3 (mvs3 l)):=fun k=>z0x _ _
    -- a way out: nothing was read
    by_cases hlt:i<n
    · obtain⟨m,hmm⟩:∃m,n-i=m+1:=⟨n-i-1,by omega⟩
      rw[hmm,z5A]at hm;have d0:decide ((i:Int)<n)=true:=dec_lt hlt;by_cases hend:at_<b.length
      · have hx:=z59 b at_ hend;have hdr:b.drop at_=b[at_]::b.drop (at_+1):=List.drop_eq_getElem_cons hend;have d1:decide ((b.length:Int)≤at_)=false:=by simp;omega
        have w1:=wrap_succ (i:=at_) (by omega)
        have hcl:=(b[at_]).toNat_lt;rw[hdr]at hm;generalize b[at_]=c at hx hm hcl;have wc:IntKind.i64.wrap (c.toNat:Int)=(c.toNat:Int):=wrapI (by omega)
        have hle1:(((at_+1:Nat):Int))≤(b.length:Nat):=by omega
        simp -implicitDefEqProofs only[mkE,go_sem,hwn,d0,z02,d1,z0F hend,hx,bc,wc,w1,hle1,z0q,z0r,List.take_length,Int.le_refl];refine CO.intro (z13 _ (b.drop (at_+1)) 12 (by rw[List.length_drop];omega) (by decide)) ?_
        cases ht1:textR 12 (b.drop (at_+1)) with
        |none =>
         rw[z7C,ht1]at hm;simp only[Option.bind_none,Option.map_none]at hm;rw[hm]at hR;simp only[Option.bind_none]at hR;rw[z0C ht1,hR];simp -implicitDefEqProofs only[go_sem];exact Fini.trim2 (σ':=σ) rfl rfl (Nat.le_refl _) (by unfold readV;exact z0a .nils) hbel
        |some x1 =>
         obtain⟨nm,u2⟩:=x1;obtain⟨q1,q2,q3⟩:=(z0I 12).drop (b:=b) (a:=at_+1) (by omega) ht1
         have hs1:=((z0T (most:=12) (by decide)).bwd _ _ _ ht1).1
         have a1:=addN (a:=at_+1) (b:=(b.drop (at_+1)).length-u2.length) (by rw[List.length_drop];omega)
         have e2:at_+1+((b.drop (at_+1)).length-u2.length)=b.length-u2.length:=by rw[List.length_drop];omega
         rw[e2]at a1;have hle2:(((b.length-u2.length:Nat):Int))≤(b.length:Nat):=by omega
         rw[z1e ht1];simp -implicitDefEqProofs only[go_sem,a1,z02,hle2,z0q,z0r,List.take_length,Int.le_refl,q1];refine CO.intro (z13 _ u2 40 (by omega) (by decide)) ?_
         rw[z7C,ht1]at hm;simp only[Option.bind_some]at hm
         cases ht2:textR 40 u2 with
         |none =>
          rw[ht2]at hm;simp only[Option.bind_none,Option.map_none]at hm;rw[hm]at hR;simp only[Option.bind_none]at hR;rw[z0C ht2,hR];simp -implicitDefEqProofs only[go_sem];exact Fini.trim2 (σ':=σ) rfl rfl (Nat.le_refl _) (by unfold readV;exact z0a .nils) hbel
         |some x2 =>
          obtain⟨v,u3⟩:=x2;have ht2':textR 40 (b.drop (b.length-u2.length))=some (v,u3):=by rw[q1];exact ht2
          obtain⟨z1,z2,z3⟩:=(z0I 40).drop (b:=b) (a:=b.length-u2.length) (by omega) ht2'
          have a2:=addN (a:=b.length-u2.length) (b:=u2.length-u3.length) (by omega)
          have e3:b.length-u2.length+(u2.length-u3.length)=b.length-u3.length:=by omega
          rw[e3]at a2;rw[ht2]at hm;simp only[Option.bind_some,Option.map_some]at hm;have hin:=wrap_succ (i:=i) (by omega)
          have hle:i+1≤4294967296:=by omega
          have hgo:=hJ ⟨(i+1,l++[mkM (c,nm,v)],b.length-u3.length),by simp only;omega,by simp[hll],by simp only;omega,(by
           intro y hy;simp only[List.mem_append,List.mem_singleton]at hy;rcases hy with hy|rfl
           · exact hsz y hy
           · simp only[mkM];omega),(by
           simp only;rw[hm,z1,show n-(i+1)=m by omega]
           cases manyR mtrR m u3<;>simp)⟩ (by simp only;omega)
          have hsn:=z7v l (mkM (c,nm,v));rw[z1e ht2];simp -implicitDefEqProofs only[go_sem,a2,g0,s0,hlm,List.length_singleton,hle,hin];simp only[←hsn]at hgo;exact hgo
      · have hnil:b.drop at_=[]:=List.drop_eq_nil_of_le (by omega)
        have d1:decide ((b.length:Int)≤at_)=true:=by simp;omega
        rw[hnil,zcY]at hm;simp only[Option.bind_none,Option.map_none]at hm;rw[hm]at hR;simp only[Option.bind_none]at hR;rw[hR];simp -implicitDefEqProofs only[mkE,go_sem,hwn,d0,z02,d1];exact Fini.trim2 (σ':=σ) rfl rfl (Nat.le_refl _) (by unfold readV;exact z0a .nils) hbel
    · have hie:i=n:=by omega
      subst hie;have d0:decide ((i:Int)<i)=false:=by simp
      rw[Nat.sub_self]at hm;simp only[manyR,Option.map_some,List.append_nil]at hm;rw[hm]at hR;simp only[Option.bind_some]at hR;simp -implicitDefEqProofs only[mkE,go_sem,hwn,d0,g0,s0,hlm];refine CO.intro (z1n _ l hsz) ?_
      cases hlb:listB l with
      |false =>
       rw[hlb]at hR;simp only[Bool.false_eq_true,if_false]at hR;rw[hR];simp -implicitDefEqProofs only[go_sem];exact Fini.trim2 (σ':=σ) rfl rfl (Nat.le_refl _) (by unfold readV;exact z0a .nils) hbel
      |true =>
       rw[hlb]at hR;simp only[if_true]at hR;have hlen:b.length-(b.drop at_).length=at_:=by rw[List.length_drop];omega
       rw[hR];unfold readV;simp only[hlen];simp -implicitDefEqProofs only[go_sem];exact Fini.trim2 (σ':=σ) rfl rfl (Nat.le_refl _) (z0a (hbm _)) hbel
theorem z7D (σ:St) (b:Byt) (hb:b.length≤50000):Ans Tryz.prog 137 [.sl 1 (byv b)] σ (readV (listR b) b (fun M=>.sl 3 (mvs3 M)) (.sl 3 [])) σ:=by
 refine(z4l σ b hb).subR ?_;unfold readV
 cases listR b with
 |none=>exact .tup (.cons (.nils 3) (.refl _))
 |some p=>exact .refl _
end Go.Proofs.YteakobbdgehlgaaGreatDoor
namespace Go.Proofs.YteakobbdgehlgaaGreatDoor
open Go Go.Ab Go.Cod Go.ChangeShapes Go.WideShapes Go.ChangeAt Go.RowKit
set_option maxRecDepth 100000
theorem wf8 {n:Int} (h:(Lit.int .u8 n).wf=true):0≤n∧n<256:=by
 simp[Lit.wf,IntKind.min,IntKind.max,IntKind.bits,IntKind.signed]at h;omega
theorem zbu:∀{ys:List (List AV)},(∀y∈ys,QInt .u8 y)→∃b:Byt,ys.map (wrapC false)=byv b
 |[],_=>⟨[],rfl⟩
 |y::ys,h=>by
  obtain⟨m,hm,rfl⟩:=h y List.mem_cons_self;obtain⟨b,hb⟩:=zbu (ys:=ys) (fun z hz=>h z (List.mem_cons_of_mem _ hz))
  obtain⟨h0,h1⟩:=wf8 hm;obtain⟨n,rfl⟩:=Int.eq_ofNat_of_zero_le h0;refine⟨n.toUInt8::b,?_⟩;rw[List.map_cons,hb,z6A,←bc_of (show n<256 by omega)]
  rfl
theorem zcZ {H:Type} {enc:TypeId×Value→H} {W:World} {base:Nat} {v:Value} {d:DataW H} {ps:List MemPlace} (hv:Value.okWide Tryz.prog W .any base 29 v)
  (h:DataW.Trod enc Tryz.prog W 0 (fun _=>true) true 29 v d ps):∃b:Byt,Rep noM noR W (.sl 1 (byv b)) v:=by
 obtain⟨sa,len,cap,rfl⟩:=okWide_slice Tryz.underlying29 hv
 obtain⟨x,hx,hq⟩:=Reads.arg (P:=Tryz.prog) (t:=29) (Q:=QSlice 1 false (QInt .u8)) (fun f=>by
  cases f with
  |zero=>exact Reads.zero
  |succ f=>exact Reads.slice false Tryz.underlying29 (by kernel_rfl) (by decide) (Reads.int Tryz.underlying5 f) (fun y hy _=>by obtain⟨n,_,rfl⟩:=hy;rfl)) rfl h
 rcases hq with hq|⟨ys,hys,_,hq⟩
 · simp only[List.cons.injEq,and_true]at hq;subst hq;refine⟨[],?_⟩;have:=hx.nils_inv;rw[this];exact .sl0 _ _ _
 · obtain⟨b,hn⟩:=zbu hys;simp only[List.cons.injEq,and_true]at hq;subst hq;rw[hn]at hx;exact⟨b,hx⟩
end Go.Proofs.YteakobbdgehlgaaGreatDoor
namespace Go.Proofs.YteakobbdgehlgaaGreatDoor
open Go Go.Ab Go.Cod
set_option maxRecDepth 100000
section
variable (σ:St)
theorem z1i (a:Nat):Ans Tryz.prog 83 [Fl a] σ (UN (bitsF a)) σ:=by
 refine Ans.of_run t83 ?_;unfold bitsF;simp -implicitDefEqProofs only[c83,r83,go_sem,z6I]
 cases nanF a with
 |true =>
  simp -implicitDefEqProofs only[go_sem];exact Fini.ret rfl
 |false =>
  simp -implicitDefEqProofs only[go_sem];refine CO.intro (z5x σ a) ?_;simp -implicitDefEqProofs only[go_sem];exact Fini.ret rfl
theorem z1Z (any:Bool) (lo hi:Nat):Ans Tryz.prog 107 [.agg [Bo any,Fl lo,Fl hi]] σ (Bo (mayB any lo hi)) σ:=by
 refine Ans.of_run t107 ?_;unfold mayB
 cases any with
 |true =>
  simp -implicitDefEqProofs only[c107,r107,go_sem];refine CO.intro (z1i σ lo) ?_
  cases h:(((bitsF lo:Nat):Int)==0) with
  |false =>
   simp -implicitDefEqProofs only[go_sem,h];exact Fini.ret rfl
  |true =>
   simp -implicitDefEqProofs only[go_sem,h];refine CO.intro (z1i σ hi) ?_;simp -implicitDefEqProofs only[go_sem,h];exact Fini.ret rfl
 |false =>
  simp -implicitDefEqProofs only[c107,r107,go_sem,zbl];exact Fini.ret rfl
structure RSm (r:RuM):Prop where
 src:∀x∈r.src,x.2.1.size≤100000
 tgt:∀x∈r.tgt,x.2.1.size≤100000
 eq:∀s∈r.eq,s.size≤100000
theorem z1L (r:RuM) (hr:RSm r):Ans Tryz.prog 108 [ruV r] σ (Bo (ruIs r)) σ:=by
 obtain⟨src,tgt,any,lo,hi,eq⟩:=r;obtain⟨hs,ht,he⟩:=hr;simp only at hs ht he;have d4:decide ((4:Int)<eq.length)=decide (4<eq.length):=decNN 4 _;refine Ans.of_run t108 ?_;unfold ruIs ruV;simp only
 cases h1:(((src.length:Nat):Int)==0) with
 |true =>
  simp -implicitDefEqProofs only[c108,r108,go_sem,z0s,h1];exact Fini.ret rfl
 |false =>
 cases h2:(((tgt.length:Nat):Int)==0) with
 |true =>
  simp -implicitDefEqProofs only[c108,r108,go_sem,z0s,h1,h2];exact Fini.ret rfl
 |false =>
 simp -implicitDefEqProofs only[c108,r108,go_sem,z0s,h1,h2];refine CO.intro (z1n σ src hs) ?_
 cases h3:listB src with
 |false =>
  simp -implicitDefEqProofs only[go_sem];exact Fini.ret rfl
 |true =>
 simp -implicitDefEqProofs only[go_sem];refine CO.intro (z1n σ tgt ht) ?_
 cases h4:listB tgt with
 |false =>
  simp -implicitDefEqProofs only[go_sem];exact Fini.ret rfl
 |true =>
 simp -implicitDefEqProofs only[go_sem];refine CO.intro (z1Z σ any lo hi) ?_
 cases h5:mayB any lo hi with
 |false =>
  simp -implicitDefEqProofs only[go_sem];exact Fini.ret rfl
 |true =>
 unfold eqB;by_cases h6:eq.length≤4
 · have x4:decide (4<eq.length)=false:=decide_eq_false (by omega)
   rw[decide_eq_true h6];simp -implicitDefEqProofs only[go_sem,z1l,d4,x4];refine Go.Ab.L.scan eq.length (eqOk eq) (fun i=>mkE 70 [(1,.rp [.sl 3 (mvs3 src),.sl 3 (mvs3 tgt),Bo any,Fl lo,Fl hi,.sl 1 (txs eq)]),(3,I i)]) (fun _=>σ) ?_ ?_ rfl rfl
   · intro i hi hp J hJ;have hx:=txs_D eq i hi
     have hsz:(eq.getD i ⟨#[]⟩).size≤100000:=by
      rw[List.getD_eq_getElem?_getD,List.getElem?_eq_getElem hi];exact he _ (List.getElem_mem hi)
     have hF:eqOk eq i=false→(List.range eq.length).all (eqOk eq)=false:=fun h=>List.all_eq_false.2 ⟨i,List.mem_range.2 hi,by rw[h];decide⟩
     have hin:=wrap_succ (i:=i) (by omega)
     have d0:decide ((0:Int)<i)=decide (0<i):=by rw[Bool.eq_iff_iff];simp
     have hO:eqOk eq i=(nameB (eq.getD i ⟨#[]⟩)&& !(decide (0<i)&&leS (eq.getD i ⟨#[]⟩) (eq.getD (i-1) ⟨#[]⟩))):=rfl;rw[hO]at hJ hF;have hnm:=fun σ=>z5v σ (eq.getD i ⟨#[]⟩) hsz
     simp -implicitDefEqProofs only[mkE,go_sem,z1l,z0F hi,dec_lt hi,hx,z06]
     first|refine CD.intro (hnm _) ?_|refine CS.intro hnm ?_
     generalize eq.getD i ⟨#[]⟩=s at hJ hF hx
     cases hb:nameB s with
     |false =>
      rw[hb]at hF;rw[hF rfl];simp -implicitDefEqProofs only[go_sem];exact Fini.ret rfl
     |true =>
      rw[hb]at hJ hF;by_cases hz:i=0
      · subst hz;have hgo:=hJ rfl;simp -implicitDefEqProofs only[go_sem,d0,hin];exact hgo
      · have hpos:decide (0<i)=true:=decide_eq_true (by omega)
        have hx1:=txs_D eq (i-1) (by omega)
        have w1:IntKind.i64.wrap ((i:Int)-1)=((i-1:Nat):Int):=by rw[wrapN (by omega) (by omega)];omega
        have hlt1:(((i-1:Nat):Int)<eq.length)=True:=by simp;omega
        rw[hpos]at hJ hF;generalize eq.getD (i-1) ⟨#[]⟩=s1 at hJ hF hx1;have hle:(Op.bytesLess s.toList s1.toList||s.toList==s1.toList)=leS s s1:=rfl;simp -implicitDefEqProofs only[go_sem,d0,hpos,w1,z1l,hlt1,hx1,hx,z0F hi,hle]
        cases h7:leS s s1 with
        |true =>
         rw[h7]at hF;rw[hF rfl];simp -implicitDefEqProofs only[go_sem];exact Fini.ret rfl
        |false =>
         rw[h7]at hJ;have hgo:=hJ rfl;simp -implicitDefEqProofs only[go_sem,hin];exact hgo
   · intro hp J;have hd:decide ((eq.length:Int)<eq.length)=false:=by simp
     simp -implicitDefEqProofs only[mkE,go_sem,z1l,hd];refine Fini.ret' rfl (z16 ?_);exact(List.all_eq_true.2 fun i hi=>hp i (List.mem_range.1 hi)).symm
 · have x4:decide (4<eq.length)=true:=decide_eq_true (by omega)
   rw[decide_eq_false h6];simp -implicitDefEqProofs only[go_sem,z1l,d4,x4];exact Fini.ret rfl
end
theorem zeN (u:Nat):okV u= !(nanF u&&((u:Int) != 9221120237041090561)):=by
 unfold okV bitsF
 cases nanF u with
 |false=>simp
 |true =>
  rw[Bool.eq_iff_iff];simp only[decide_eq_true_eq,if_true,Bool.true_and,bne,Bool.not_not,beq_iff_eq];omega
theorem val2 (t:Byt):seqR valR valR t=if 16≤t.length then(if okV (wN (t.take 8))&&okV (wN ((t.drop 8).take 8)) then some ((wN (t.take 8),wN ((t.drop 8).take 8)),t.drop 16) else none) else none:=by
 simp only[seqR,valR,onlyR,z3w,List.length_drop];by_cases h:8≤t.length
 · rw[if_pos h];simp only[Option.bind_some]
   cases okV (wN (t.take 8)) with
   |false=>simp
   |true =>
    simp only[if_true,Option.bind_some,Bool.true_and];rw[List.length_drop];by_cases h2:16≤t.length
    · rw[if_pos (by omega),if_pos h2]
      simp only[Option.bind_some]
      cases okV (wN ((t.drop 8).take 8)) with
      |false=>simp
      |true=>simp
    · rw[if_neg (by omega),if_neg h2];rfl
 · rw[if_neg h,if_neg (by omega)];rfl
section
variable (σ:St)
theorem z4z (n:Nat):Ans Tryz.prog 82 [UN n] σ (.sl 1 (byv (wrdB n))) σ:=by
 refine Ans.of_run' t82 (fun hbel _=>?_)
 have z8:Int.toNat 8=8:=rfl;simp -implicitDefEqProofs only[c82,r82,go_sem,mks8,z8,g0,s0,List.length_cons,List.length_nil];refine Go.Ab.L.count 8 (fun i=>mkE 21 [(0,UN n),(3,.osl σ.length 8),(4,I i)]) (fun i=>σ++[.row 1 (fillW n i)]) ?_ ?_ rfl rfl
 · intro i hi J hJ;have hl:=z45 n i (by omega)
   have d0:decide ((i:Int)<8)=true:=by simp;omega
   have w1:IntKind.i64.wrap (8*(i:Int))=((8*i:Nat):Int):=by rw[wrapN (by omega) (by omega)];push_cast;rfl
   have w2:IntKind.i64.wrap (56-((8*i:Nat):Int))=((56-8*i:Nat):Int):=by rw[wrapN (by omega) (by omega)];omega
   have w3:=z1u (n:=56-8*i) (by omega)
   have h3:=shrN n (56-8*i) (by omega)
   rw[Int.toNat_natCast]at h3;have hlt:((i:Int)<((8:Nat):Int))=True:=eq_true (by omega)
   have hget:(fillW n i)[i]?=some Zb:=z7A n i hi;have hin:=wrap_succ (i:=i) (by omega)
   have hset:(fillW n i).set i (.pl (.int .u8 ((n/2^(56-8*i)).toUInt8.toNat:Nat)))=fillW n (i+1):=z7z n i hi;simp -implicitDefEqProofs only[mkE,go_sem,d0,w1,w2,w3,h3,ze5,g0,s0,hl,hin,hset,hlt,hget];exact hJ
 · intro J;have hl:=z45 n 8 (by omega)
   have d0:decide (((8:Nat):Int)<8)=false:=by decide
   have e8:fillW n 8=byv (wrdB n):=by unfold fillW;rw[List.take_of_length_le (by rw[z02,wrdB_len];omega)];simp
   simp -implicitDefEqProofs only[mkE,go_sem,d0,g0,s0,hl,e8];exact Fini.trim2 (σ':=σ) rfl rfl (Nat.le_refl _) (z1P _ _) hbel
theorem z2K (b:Byt) (hb:b.length≤100000):Ans Tryz.prog 141 [.sl 1 (byv b)] σ (wordV b) σ:=by
 refine Ans.of_run t141 ?_;unfold wordV;rw[z3w];by_cases h8:8≤b.length
 · have d0:decide ((b.length:Int)<8)=false:=by simp;omega
   have z8:Int.toNat 8=8:=rfl;rw[if_pos h8];simp only;simp -implicitDefEqProofs only[c141,r141,go_sem,z02,d0];refine Go.Ab.L.count 8 (fun i=>mkE 22 [(0,.sl 1 (byv b)),(4,UN (wN (b.take i))),(5,I i)]) (fun _=>σ) ?_ ?_ rfl rfl
   · intro i hi J hJ;have hib:i<b.length:=by omega
     have hx:=z59 b i hib;have hs:b.take (i+1)=b.take i++[b[i]]:=List.take_succ_eq_append_getElem hib;rw[hs,zbr]at hJ;have hl:=wN_lt (b.take i);rw[List.length_take]at hl;have hl:wN (b.take i)<2^56:=Nat.lt_of_lt_of_le hl (Nat.pow_le_pow_right (by decide) (by omega))
     have hc:=(b[i]).toNat_lt;generalize b[i]=c at hx hJ hc;generalize wN (b.take i)=w at hl hJ⊢;have hor:=ze7 w c.toNat hc hl;have hwc:=z1u (n:=c.toNat) (by omega)
     have d1:decide ((i:Int)<8)=true:=by simp;omega
     have hin:=wrap_succ (i:=i) (by omega)
     simp -implicitDefEqProofs only[mkE,go_sem,d1,z02,z0F hib,hx,bc,hwc,z8,hin]
     have key:∀v:Int,v=((w*256+c.toNat:Nat):Int)→J (mkE 22 [(0,.sl 1 (byv b)),(4,.pl (.int .u64 v)),(5,I ((i+1:Nat):Int))]) σ:=by
      rintro _ rfl;exact hJ
     exact key _ hor
   · intro J;have d1:decide (((8:Nat):Int)<8)=false:=by decide
     simp -implicitDefEqProofs only[mkE,go_sem,d1];exact Fini.ret rfl
 · have d0:decide ((b.length:Int)<8)=true:=by simp;omega
   rw[if_neg h8];simp -implicitDefEqProofs only[c141,r141,go_sem,z02,d0];exact Fini.ret rfl
theorem z46 (u:Nat):Ans Tryz.prog 142 [UN u] σ (.tup [Fl (if okV u then u else 0),Bo (okV u)]) σ:=by
 have e:=zeN u;refine Ans.of_run t142 ?_;simp -implicitDefEqProofs only[c142,r142,go_sem];refine CO.intro (z4x σ u) ?_;simp -implicitDefEqProofs only[go_sem,z6I]
 cases h:nanF u with
 |false =>
  rw[h]at e;have e:okV u=true:=e;simp -implicitDefEqProofs only[go_sem,e];exact Fini.ret rfl
 |true =>
  rw[h]at e
  cases h2:((u:Int) != 9221120237041090561) with
  |true =>
   rw[h2]at e;have e:okV u=false:=e;simp -implicitDefEqProofs only[go_sem,h2,e];exact Fini.ret rfl
  |false =>
   rw[h2]at e;have e:okV u=true:=e;simp -implicitDefEqProofs only[go_sem,h2,e];exact Fini.ret rfl
theorem z3b (b:Byt) (hb:b.length≤50000):Ans Tryz.prog 138 [.sl 1 (byv b)] σ (readV (bandR b) b bandV (bandV (false,0,0))) σ:=by
 have z0:Int.toNat 0=0:=rfl;have key:∀(any:Bool) (lo hi:Nat),Bel σ.length (.agg [Bo any,Fl lo,Fl hi]):=fun any lo hi=>z1K _ (any,lo,hi)
 obtain hbt|⟨c,t,hbt⟩:b=[]∨∃c t,b=c::t:=by
  cases b with
  |nil=>exact .inl rfl
  |cons c t=>exact .inr ⟨c,t,rfl⟩
 · have e:bandR b=none:=by rw[hbt];rfl
   rw[z0v e];refine Ans.of_run' t138 (fun hbel _=>?_)
   unfold bandV;have d0:decide ((0:Int)<(b.length:Nat))=false:=by rw[hbt];decide
   have d1:decide ((b.length:Int)<17)=true:=by rw[hbt];decide
   simp -implicitDefEqProofs only[c138,r138,go_sem,z02,d0,d1,g0,s0];exact Fini.trim2 (σ':=σ) (ex:=[_]) (by simp -implicitDefEqProofs only[go_sem,resA,z01,rvA,oneOf,g0]<;>rfl) rfl (Nat.le_refl _) (z0a (key _ _ _)) hbel
 · have hbl:b.length=t.length+1:=by rw[hbt];rfl
   have d0:decide ((0:Int)<(b.length:Nat))=true:=by simp;omega
   have hpos:((0:Int)<(b.length:Nat))=True:=eq_true (by omega)
   have hx:(byv b)[0]?=some (bc c):=by rw[hbt];rfl
   by_cases h1:c=1
   · subst h1
     have e:bandR b=some ((true,0,0),t):=by
      rw[hbt];have:mayB true 0 0=true:=by decide +kernel
      simp[bandR,onlyR,bnd0,this]
     have en:b.length-t.length=1:=by omega
     have e1:((((1:UInt8).toNat:Nat):Int)==1)=true:=rfl;rw[z0E e,en];refine Ans.of_run' t138 (fun hbel _=>?_)
     unfold bandV;simp -implicitDefEqProofs only[c138,r138,go_sem,z02,z0,d0,hpos,hx,bc,e1,g0,s0];exact Fini.trim2 (σ':=σ) (ex:=[_]) (by simp -implicitDefEqProofs only[go_sem,resA,z01,rvA,oneOf,g0]<;>rfl) rfl (Nat.le_refl _) (z0a (key _ _ _)) hbel
   · have e1:(((c.toNat:Nat):Int)==1)=false:=by
      rw[Bool.eq_false_iff];intro h;rw[beq_iff_eq]at h;exact h1 (UInt8.toNat_inj.1 (by rw[show(1:UInt8).toNat=1 from rfl];omega))
     by_cases h17:t.length<16
     · have d1:decide ((b.length:Int)<17)=true:=by simp;omega
       have e:bandR b=none:=by
        rw[hbt];simp only[bandR,onlyR,bnd0,val2,if_neg (show ¬16≤t.length by omega),h1,if_false,Option.map_none]
        split<;>rfl
       rw[z0v e];refine Ans.of_run' t138 (fun hbel _=>?_)
       unfold bandV;simp -implicitDefEqProofs only[c138,r138,go_sem,z02,z0,d0,d1,hpos,hx,bc,e1,g0,s0];exact Fini.trim2 (σ':=σ) (ex:=[_]) (by simp -implicitDefEqProofs only[go_sem,resA,z01,rvA,oneOf,g0]<;>rfl) rfl (Nat.le_refl _) (z0a (key _ _ _)) hbel
     · have d1:decide ((b.length:Int)<17)=false:=by simp;omega
       by_cases h0:c=0
       · subst h0;have en:((((0:UInt8).toNat:Nat):Int) != 0)=false:=rfl;have l1:((1:Int)≤(b.length:Nat))=True:=eq_true (by omega)
         have l9:((9:Int)≤(b.length:Nat))=True:=eq_true (by omega)
         have z1:Int.toNat 1=1:=rfl;have z9:Int.toNat 9=9:=rfl;have e9:b.drop 9=t.drop 8:=by rw[hbt];rfl
         have ez:b.drop 1=t:=by rw[hbt];rfl
         have w1:=fun s=>z2K s t (by omega)
         have w2:=fun s=>z2K s (t.drop 8) (by rw[List.length_drop];omega)
         have x1:wordR t=some (wN (t.take 8),t.drop 8):=by rw[z3w,if_pos (by omega)]
         have x2:wordR (t.drop 8)=some (wN ((t.drop 8).take 8),(t.drop 8).drop 8):=by rw[z3w,if_pos (by rw[List.length_drop];omega)]
         unfold wordV at w1 w2;rw[x1]at w1;rw[x2]at w2
         have hB:bandR b=(if okV (wN (t.take 8))&&okV (wN ((t.drop 8).take 8)) then some ((wN (t.take 8),wN ((t.drop 8).take 8)),t.drop 16) else none).bind fun x=>if mayB false x.1.1 x.1.2 then some ((false,x.1.1,x.1.2),x.2) else none:=by
          rw[hbt];simp only[bandR,onlyR,bnd0,val2,if_pos (show 16≤t.length by omega),if_true]
          split
          · rfl
          · rfl
         have hlen:b.length-(t.drop 16).length=17:=by rw[List.length_drop];omega
         generalize wN (t.take 8)=u at w1 hB;generalize wN ((t.drop 8).take 8)=v at w2 hB;have f1:=fun s=>z46 s u
         have f2:=fun s=>z46 s v
         refine Ans.of_run' t138 (fun hbel _=>?_)
         unfold bandV;simp -implicitDefEqProofs only[c138,r138,go_sem,z02,z0,d0,d1,hpos,hx,bc,e1,en,l1,l9,z1,z9,z0q,z0r,e9,ez,List.take_length,Int.le_refl,g0,s0];refine CO.intro (w1 _) ?_;simp -implicitDefEqProofs only[go_sem,z02,l1,l9,z1,z9,z0q,z0r,e9,ez,List.take_length,Int.le_refl];refine CO.intro (w2 _) ?_;simp -implicitDefEqProofs only[go_sem];refine CO.intro (f1 _) ?_;simp -implicitDefEqProofs only[go_sem];refine CO.intro (f2 _) ?_;simp -implicitDefEqProofs only[go_sem];have m1:=fun s=>z1Z s false u v
         cases ho:okV u with
         |false =>
          rw[ho]at hB;have hB:bandR b=none:=hB;rw[z0v hB];simp -implicitDefEqProofs only[go_sem,g0,s0];exact Fini.trim2 (σ':=σ) (ex:=[_]) (by simp -implicitDefEqProofs only[go_sem,resA,z01,rvA,oneOf,g0]<;>rfl) rfl (Nat.le_refl _) (z0a (key _ _ _)) hbel
         |true =>
          cases hp:okV v with
          |false =>
           rw[ho,hp]at hB;have hB:bandR b=none:=hB;rw[z0v hB];simp -implicitDefEqProofs only[go_sem,g0,s0];exact Fini.trim2 (σ':=σ) (ex:=[_]) (by simp -implicitDefEqProofs only[go_sem,resA,z01,rvA,oneOf,g0]<;>rfl) rfl (Nat.le_refl _) (z0a (key _ _ _)) hbel
          |true =>
           rw[ho,hp]at hB;have hB:bandR b=if mayB false u v then some ((false,u,v),t.drop 16) else none:=hB
           simp -implicitDefEqProofs only[go_sem,if_true];refine CO.intro (m1 _) ?_
           cases hm:mayB false u v with
           |false =>
            rw[hm]at hB;have hB:bandR b=none:=hB;rw[z0v hB];simp -implicitDefEqProofs only[go_sem,g0,s0];exact Fini.trim2 (σ':=σ) (ex:=[_]) (by simp -implicitDefEqProofs only[go_sem,resA,z01,rvA,oneOf,g0]<;>rfl) rfl (Nat.le_refl _) (z0a (key _ _ _)) hbel
           |true =>
            rw[hm]at hB;have hB:bandR b=some ((false,u,v),t.drop 16):=hB;rw[z0E hB,hlen];simp -implicitDefEqProofs only[go_sem,g0,s0];exact Fini.trim2 (σ':=σ) (ex:=[_]) (by simp -implicitDefEqProofs only[go_sem,resA,z01,rvA,oneOf,g0]<;>rfl) rfl (Nat.le_refl _) (z0a (key _ _ _)) hbel
       · have e0:(((c.toNat:Nat):Int) != 0)=true:=by
          rw[bne,Bool.not_eq_true',Bool.eq_false_iff];intro h;rw[beq_iff_eq]at h;exact h0 (UInt8.toNat_inj.1 (by rw[show(0:UInt8).toNat=0 from rfl];omega))
         have e:bandR b=none:=by rw[hbt];simp only[bandR,onlyR,bnd0,h0,h1,if_false,Option.bind_none]
         rw[z0v e];refine Ans.of_run' t138 (fun hbel _=>?_)
         unfold bandV;simp -implicitDefEqProofs only[c138,r138,go_sem,z02,z0,d0,d1,hpos,hx,bc,e1,e0,g0,s0];exact Fini.trim2 (σ':=σ) (ex:=[_]) (by simp -implicitDefEqProofs only[go_sem,resA,z01,rvA,oneOf,g0]<;>rfl) rfl (Nat.le_refl _) (z0a (key _ _ _)) hbel
end
end Go.Proofs.YteakobbdgehlgaaGreatDoor
namespace Go.Proofs.YteakobbdgehlgaaGreatDoor.Sha
open Go Go.Ab Go.Cod
set_option maxRecDepth 100000
section
variable (σ:St)
theorem zbv (w:Nat) (h:w<2^64):Ans Tryz.prog 82 [UN w] σ (.sl 1 (bv (wrdB w))) σ:=z4z σ w
theorem zbw:Ans Tryz.prog 73 [] σ (.agg (s8v firstS)) σ:=by
 refine Ans.of_run' t73 (fun hbel _=>?_)
 simp -implicitDefEqProofs only[c73,r73,go_sem,G0,S0];have ab:=z8J σ.length firstS.l;exact Fini.trim2 (σ':=σ) (ex:=[_]) (by simp -implicitDefEqProofs only[go_sem,resA,z01,rvA,oneOf,G0]<;>rfl) rfl (Nat.le_refl _) ab hbel
def rowD (b:List UInt8) (i:Nat):List UInt8:=b++(128::List.replicate i 0)
theorem z4R (b:List UInt8) (i:Nat):(rowD b i).length=b.length+1+i:=by
 unfold rowD;simp only[List.length_append,List.length_cons,List.length_replicate];omega
theorem z7E (b:List UInt8) (i:Nat):bv (rowD b i)++[Z8]=bv (rowD b (i+1)):=by
 have e:[Z8]=bv [0]:=rfl;rw[e,←z8N];unfold rowD;rw[List.append_assoc,List.cons_append,←List.replicate_succ']
theorem z9h (b:List UInt8):bv (rowD b (padZ b.length))++bv (wrdB (8*b.length))=bv (padB b):=by
 rw[←z8N];unfold rowD padB;rw[List.append_assoc,List.cons_append]
theorem zd0 (b:List UInt8) (hb:b.length≤100000):Ans Tryz.prog 72 [.sl 1 (bv b)] σ (.sl 1 (bv (padB b))) σ:=by
 have hl:=z0N b;have hw:=fun s=>zbv s (8*b.length) (by omega)
 have e0:(bv b).isEmpty=b.isEmpty:=by unfold bv;simp
 have e128:bv b++[AV.pl (.int .u8 128)]=bv (rowD b 0):=by
  have e:[AV.pl (.int .u8 128)]=bv [128]:=rfl;rw[e,←z8N];rfl
 have l1:b.length≤4294967296:=by omega
 have l2:b.length+1≤4294967296:=by omega
 refine Ans.of_run' t72 (fun hbel _=>?_)
 cases hbe:b.isEmpty with
 |true =>
  have hb0:b=[]:=by simpa using hbe
  have e1:(bv b).isEmpty=true:=by rw[hb0];rfl
  have k1:((1:Nat)≤2^32)=True:=eq_true (by decide)
  have e9:[AV.pl (.int .u8 128)]=bv (rowD b 0):=by rw[hb0];rfl
  have h1:AV.osl σ.length 1=AV.osl σ.length (b.length+1):=by rw[hb0];rfl
  simp -implicitDefEqProofs only[c72,r72,go_sem,e1,k1,z3l];rw[e9,h1];refine Go.Ab.L.count (padZ b.length) (fun i=>mkE 22 [(0,.sl 1 (bv b)),(3,.osl σ.length (b.length+1+i))]) (fun i=>σ++[.row 1 (bv (rowD b i))]) ?_ ?_ rfl rfl
  · intro i hi J hJ;have hm:(((b.length+1+i:Nat):Int)).tmod 64=(((b.length+1+i)%64:Nat):Int):=rfl
    have hn:((((b.length+1+i)%64:Nat):Int) != 56)=true:=by
     have:=z6y b.length i hi;simp;omega
    have hz:=z3H b.length;have r1:=z4R b i;have r2:=z0N (rowD b i);have r3:=z7E b i;have l3:(b.length+1+i+1≤2^32)=True:=eq_true (by omega)
    simp -implicitDefEqProofs only[mkE,go_sem,hm,hn,r1,r2,r3,l3,G0,S0];exact hJ
  · intro J;have hm:(((b.length+1+padZ b.length:Nat):Int)).tmod 64=(((b.length+1+padZ b.length)%64:Nat):Int):=rfl;rw[z6x]at hm;have hn:(((56:Nat):Int) != 56)=false:=rfl;have hz:=z3H b.length
    have wd:IntKind.u64.wrap (IntKind.u64.wrap ((b.length:Nat):Int)*8)=((8*b.length:Nat):Int):=by
     have e:IntKind.u64.wrap ((b.length:Nat):Int)=((b.length:Nat):Int):=by simp only[IntKind.wrap,IntKind.bits,IntKind.signed];simp;omega
     rw[e];simp only[IntKind.wrap,IntKind.bits,IntKind.signed];simp;omega
    have r1:=z4R b (padZ b.length);have r2:=z0N (rowD b (padZ b.length));simp -implicitDefEqProofs only[mkE,go_sem,r1,r2,G0,S0,hm,hn,hl,wd];refine CO.intro (hw _) ?_;have r3:=z9h b;have r4:=z0N (wrdB (8*b.length));have r5:=wrdB_len (8*b.length);have l3:(b.length+1+padZ b.length+8≤2^32)=True:=eq_true (by omega)
    have r6:(bv (padB b)).length=b.length+1+padZ b.length+8:=by rw[←r3,List.length_append,r2,r1,r4,r5]
    simp -implicitDefEqProofs only[mkE,go_sem,z3l,r1,r2,r3,r4,r5,r6,l3,G0,S0];exact Fini.trim2 (σ':=σ) (ex:=[_]) rfl rfl (Nat.le_refl _) (z4h _ _) hbel
 |false =>
  have e1:(bv b).isEmpty=false:=by rw[e0,hbe]
  have k1:(b.length≤2^32)=True:=eq_true (by omega)
  have k2:(b.length+1≤2^32)=True:=eq_true (by omega)
  simp -implicitDefEqProofs only[c72,r72,go_sem,hl,e1,z3l,k1,k2,G0,S0,e128];refine Go.Ab.L.count (padZ b.length) (fun i=>mkE 22 [(0,.sl 1 (bv b)),(3,.osl σ.length (b.length+1+i))]) (fun i=>σ++[.row 1 (bv (rowD b i))]) ?_ ?_ rfl rfl
  · intro i hi J hJ;have hm:(((b.length+1+i:Nat):Int)).tmod 64=(((b.length+1+i)%64:Nat):Int):=rfl
    have hn:((((b.length+1+i)%64:Nat):Int) != 56)=true:=by
     have:=z6y b.length i hi;simp;omega
    have hz:=z3H b.length;have r1:=z4R b i;have r2:=z0N (rowD b i);have r3:=z7E b i;have l3:(b.length+1+i+1≤2^32)=True:=eq_true (by omega)
    simp -implicitDefEqProofs only[mkE,go_sem,hm,hn,r1,r2,r3,l3,G0,S0];exact hJ
  · intro J;have hm:(((b.length+1+padZ b.length:Nat):Int)).tmod 64=(((b.length+1+padZ b.length)%64:Nat):Int):=rfl;rw[z6x]at hm;have hn:(((56:Nat):Int) != 56)=false:=rfl;have hz:=z3H b.length
    have wd:IntKind.u64.wrap (IntKind.u64.wrap ((b.length:Nat):Int)*8)=((8*b.length:Nat):Int):=by
     have e:IntKind.u64.wrap ((b.length:Nat):Int)=((b.length:Nat):Int):=by simp only[IntKind.wrap,IntKind.bits,IntKind.signed];simp;omega
     rw[e];simp only[IntKind.wrap,IntKind.bits,IntKind.signed];simp;omega
    have r1:=z4R b (padZ b.length);have r2:=z0N (rowD b (padZ b.length));simp -implicitDefEqProofs only[mkE,go_sem,r1,r2,G0,S0,hm,hn,hl,wd];refine CO.intro (hw _) ?_;have r3:=z9h b;have r4:=z0N (wrdB (8*b.length));have r5:=wrdB_len (8*b.length);have l3:(b.length+1+padZ b.length+8≤2^32)=True:=eq_true (by omega)
    have r6:(bv (padB b)).length=b.length+1+padZ b.length+8:=by rw[←r3,List.length_append,r2,r1,r4,r5]
    simp -implicitDefEqProofs only[mkE,go_sem,z3l,r1,r2,r3,r4,r5,r6,l3,G0,S0];exact Fini.trim2 (σ':=σ) (ex:=[_]) rfl rfl (Nat.le_refl _) (z4h _ _) hbel
end
end Go.Proofs.YteakobbdgehlgaaGreatDoor.Sha
