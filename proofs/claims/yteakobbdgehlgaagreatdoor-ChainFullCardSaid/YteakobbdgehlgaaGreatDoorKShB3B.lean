/- Bands and rules as bytes: readers and writers. No condition. -/
import Derived.Test.YteakobbdgehlgaaGreatDoorKXMr2B
import Derived.Test.YteakobbdgehlgaaGreatDoorKXPPar5B
import Derived.Test.YteakobbdgehlgaaGreatDoorKXVi1B
import Derived.Test.YteakobbdgehlgaaGreatDoorAbArgB
import Derived.Test.YteakobbdgehlgaaGreatDoorRows
import Derived.Test.YteakobbdgehlgaaGreatDoorAbGloB
set_option linter.unusedSimpArgs false
set_option linter.unusedVariables false
set_option linter.unusedSectionVars false
namespace Go.Proofs.YteakobbdgehlgaaGreatDoor
open Go Go.Ab Go.Cod
set_option maxRecDepth 100000
def okV (u:Nat):Bool:=decide (bitsF u=u)
def valR:Rd Nat:=onlyR wordR okV
def putV (u:Nat):Byt:=wrdB (bitsF u)
theorem val_fits:Fits valR putV (fun u=>u<2^64∧bitsF u=u):=by
 have h:=z28 z8g okV;refine⟨fun a t ho=>?_,fun b a t hr=>?_⟩
 · have:=h.fwd a t ⟨ho.1,by unfold okV;exact decide_eq_true ho.2⟩
   unfold putV;rw[ho.2];exact this
 · obtain⟨⟨h1,h2⟩,h3⟩:=h.bwd b a t hr;have h2:bitsF a=a:=by unfold okV at h2;exact of_decide_eq_true h2
   exact⟨⟨h1,h2⟩,by unfold putV;rw[h2];exact h3⟩
theorem z4Y:EndsR valR:=val_fits.ends
abbrev Bnd:=Bool×Nat×Nat
def bnd0:Rd Bnd
 |[]=>none
 |c::t=>if c=0 then(seqR valR valR t).map (fun p=>((false,p.1.1,p.1.2),p.2)) else if c=1 then some ((true,0,0),t) else none
def bandR:Rd Bnd:=onlyR bnd0 (fun x=>mayB x.1 x.2.1 x.2.2)
def putBd (x:Bnd):Byt:=if x.1 then[1] else 0::(putV x.2.1++putV x.2.2)
def bndOk (x:Bnd):Prop:=if x.1 then x.2.1=0∧x.2.2=0 else(x.2.1<2^64∧bitsF x.2.1=x.2.1)∧(x.2.2<2^64∧bitsF x.2.2=x.2.2)
theorem z8I:Fits bnd0 putBd bndOk where
 fwd x t h:=by
  obtain⟨any,lo,hi⟩:=x
  cases any with
  |true =>
   obtain⟨rfl,rfl⟩:lo=0∧hi=0:=h;rfl
  |false =>
   have h:(lo<2^64∧bitsF lo=lo)∧(hi<2^64∧bitsF hi=hi):=h;have h2:=(z1y val_fits val_fits).fwd (lo,hi) t h;simp only at h2;simp only[putBd,Bool.false_eq_true,if_false,bnd0,List.cons_append,if_true,h2,Option.map_some]
 bwd b x t hr:=by
  cases b with
  |nil=>cases hr
  |cons c u =>
   simp only[bnd0]at hr;split at hr
   · rename_i hc
     cases h1:seqR valR valR u with
     |none=>simp[h1]at hr
     |some p =>
      simp only[h1,Option.map_some,Option.some.injEq,Prod.mk.injEq]at hr;obtain⟨rfl,rfl⟩:=hr;obtain⟨h2,h3⟩:=(z1y val_fits val_fits).bwd _ _ _ h1;refine⟨h2,?_⟩;rw[h3,hc];rfl
   · split at hr
     · rename_i hc;simp only[Option.some.injEq,Prod.mk.injEq]at hr;obtain⟨rfl,rfl⟩:=hr;exact⟨⟨rfl,rfl⟩,by rw[hc];rfl⟩
     · cases hr
def bMay (x:Bnd):Bool:=mayB x.1 x.2.1 x.2.2
def bSz (x:Bnd):Prop:=x.2.1<2^64∧x.2.2<2^64
theorem z7G {a b:Nat} (h:leF a b=true):nanF a=false∧nanF b=false:=by
 unfold leF Ieee.Format.order at h;unfold nanF Ieee.Format.order;generalize FloatKind.f64.format.read a=x at *;generalize FloatKind.f64.format.read b=y at *
 cases x with
 |nan s m=>simp[Ieee.Datum.order]at h
 |infinity s =>
  cases y with
  |nan t n=>simp[Ieee.Datum.order]at h
  |infinity t=>cases s<;>cases t<;>simp[Ieee.Datum.order]at h⊢
  |number t n j=>cases s<;>simp[Ieee.Datum.order]at h⊢
 |number s m i =>
  cases y with
  |nan t n=>simp[Ieee.Datum.order]at h
  |infinity t=>cases t<;>simp[Ieee.Datum.order]at h⊢
  |number t n j=>simp[Ieee.Datum.order]
theorem z5C {a:Nat} (h:nanF a=false):bitsF a=a:=by unfold bitsF;rw[h];rfl
theorem z4y {a:Nat} (h:bitsF a=0):a=0:=by
 unfold bitsF at h;split at h
 · cases h
 · exact h
theorem zc6 {x:Bnd} (h:bMay x=true) (w:bSz x):bndOk x:=by
 obtain⟨any,lo,hi⟩:=x;unfold bMay mayB at h
 cases any with
 |true =>
  simp only[if_true,Bool.and_eq_true,beq_iff_eq]at h;exact⟨z4y (Int.ofNat.inj h.1),z4y (Int.ofNat.inj h.2)⟩
 |false =>
  obtain⟨h1,h2⟩:=z7G h;exact⟨⟨w.1,z5C h1⟩,⟨w.2,z5C h2⟩⟩
theorem ok_sz {x:Bnd} (h:bndOk x):bSz x:=by
 obtain⟨any,lo,hi⟩:=x
 cases any with
 |true =>
  obtain⟨rfl,rfl⟩:lo=0∧hi=0:=h;exact⟨by decide,by decide⟩
 |false =>
  have h:(lo<2^64∧bitsF lo=lo)∧(hi<2^64∧bitsF hi=hi):=h;exact⟨h.1.1,h.2.1⟩
theorem band_fits:Fits bandR putBd (fun x=>bMay x=true∧bSz x) :=
 (z28 z8I bMay).weaken fun x=>⟨fun h=>⟨h.2,ok_sz h.1⟩,fun h=>⟨zc6 h.1 h.2,h.1⟩⟩
theorem ends_band:EndsR bandR:=band_fits.ends
def mkRu (x:List Mtr×List Mtr×Bnd×List ByteArray):RuM:=⟨x.1,x.2.1,x.2.2.1.1,x.2.2.1.2.1,x.2.2.1.2.2,x.2.2.2⟩
def ruR0:Rd RuM:=z15 (seqR listR (seqR listR (seqR bandR (rowR 4 (textR 12))))) mkRu
def ruR:Rd RuM:=onlyR ruR0 ruIs
def putR (r:RuM):Byt:=putL r.src++(putL r.tgt++(putBd (r.any,r.lo,r.hi)++z3f txtB r.eq))
def ruSz (r:RuM):Prop:=r.lo<2^64∧r.hi<2^64
theorem z9N:Fits ruR0 putR (fun r=>listB r.src=true∧listB r.tgt=true∧(mayB r.any r.lo r.hi=true∧ruSz r)∧(r.eq.length≤4∧∀a∈r.eq,a.size≤12)) :=
 dress_fits (z1y z4x (z1y z4x (z1y band_fits (z4N (by decide) (z1N (by decide)))))) (g:=fun r=>(r.src,r.tgt,(r.any,r.lo,r.hi),r.eq))
  (fun _ h=>⟨h,rfl⟩) (fun _ h=>⟨h,rfl⟩)
theorem z4z {s:ByteArray} (h:nameB s=true):s.size≤12:=by
 unfold nameB at h;simp only[Bool.and_eq_true,decide_eq_true_eq]at h;exact h.1.1.2
theorem zc7 {e:List ByteArray} (h:eqB e=true):e.length≤4∧∀a∈e,a.size≤12:=by
 unfold eqB at h;simp only[Bool.and_eq_true,decide_eq_true_eq]at h;refine⟨h.1,fun a ha=>?_⟩
 obtain⟨i,hi,rfl⟩:=List.getElem_of_mem ha;have h2:=List.all_eq_true.1 h.2 i (List.mem_range.2 hi);unfold eqOk at h2;simp only[Bool.and_eq_true]at h2;have e2:e.getD i ⟨#[]⟩=e[i]:=by rw[List.getD_eq_getElem?_getD,List.getElem?_eq_getElem hi];rfl
 rw[e2]at h2;exact z4z h2.1
theorem z3D {r:RuM} (h:ruIs r=true):listB r.src=true∧listB r.tgt=true∧mayB r.any r.lo r.hi=true∧(r.eq.length≤4∧∀a∈r.eq,a.size≤12):=by
 unfold ruIs at h;simp only[Bool.and_eq_true]at h;exact⟨h.2.2.1,h.2.2.2.1,h.2.2.2.2.1,zc7 h.2.2.2.2.2⟩
theorem ru_fits:Fits ruR putR (fun r=>ruIs r=true∧ruSz r) :=
 (z28 z9N ruIs).weaken fun r=>⟨fun h=>⟨h.2,h.1.2.2.1.2⟩,fun h=>⟨⟨(z3D h.1).1,(z3D h.1).2.1,⟨(z3D h.1).2.2.1,h.2⟩,(z3D h.1).2.2.2⟩,h.1⟩⟩
theorem ends_ru:EndsR ruR:=ru_fits.ends
theorem z8J {α:Type} {b:Byt} {rd:Rd α} {st st':Nat×Bool→α×(Nat×Bool)} (h:StepsR b rd st) (h2:∀q,(st' q).2=(st q).2) (h3:∀q,(st q).2.2=false→st' q=st q):StepsR b rd st' where
 some_ a x t ha hr:=by
  have:=h.some_ a x t ha hr;rw[h3 _ (by rw[this]),this]
 none_ a ha hr:=by rw[h2];exact h.none_ a ha hr
 bad a:=by rw[h2];exact h.bad a
 inb q hq:=by rw[h2];exact h.inb q hq
def valS (b:Byt) (q:Nat×Bool):Nat×(Nat×Bool):=(if okV (runR wordR 0 b q).1 then(runR wordR 0 b q).1 else 0,took (runR wordR 0 b q).2 0 (okV (runR wordR 0 b q).1))
theorem z0k (b:Byt):StepsR b valR (valS b):=by
 refine z8J (z0D (z0c b wordR 0) okV) (fun q=>rfl) fun q h=>?_
 unfold z0o took at h;unfold valS z0o;simp only at h⊢
 cases ho:okV (runR wordR 0 b q).1 with
 |true=>rfl
 |false=>rw[ho]at h;simp at h
def bnd0S (b:Byt) (q:Nat×Bool):Bnd×(Nat×Bool) :=
 if(runR byteR 0 b q).1=0 then((false,(valS b (runR byteR 0 b q).2).1,(valS b (valS b (runR byteR 0 b q).2).2).1),(valS b (valS b (runR byteR 0 b q).2).2).2)
 else if(runR byteR 0 b q).1=1 then((true,0,0),(runR byteR 0 b q).2) else((false,0,0),took (runR byteR 0 b q).2 0 false)
theorem z7H (b:Byt):StepsR b bnd0 (bnd0S b) where
 some_ a x t ha hr:=by
  cases hd:b.drop a with
  |nil=>rw[hd]at hr;cases hr
  |cons c u =>
   have h1:byteR (b.drop a)=some (c,u):=by rw[hd];rfl
   obtain⟨e1,e2,e3⟩:=ends_byte.drop ha h1;rw[hd]at hr;simp only[bnd0]at hr;unfold bnd0S;simp only[z0r h1];split at hr
   · rename_i hc;rw[if_pos hc]
     cases h2:seqR valR valR u with
     |none=>simp[h2]at hr
     |some p =>
      simp only[h2,Option.map_some,Option.some.injEq,Prod.mk.injEq]at hr;obtain⟨rfl,rfl⟩:=hr;have:=(z0m (z0k b) (z0k b) z4Y).some_ (b.length-u.length) p.1 p.2 (by omega) (by rw[e1];exact h2)
      unfold seqSt at this;simp only[Prod.ext_iff]at this⊢;simp only[this,and_self]
   · rename_i hc;rw[if_neg hc];split at hr
     · rename_i hc;rw[if_pos hc];simp only[Option.some.injEq,Prod.mk.injEq]at hr;obtain⟨rfl,rfl⟩:=hr;rfl
     · cases hr
 none_ a ha hr:=by
  cases hd:b.drop a with
  |nil =>
   have h1:byteR (b.drop a)=none:=by rw[hd];rfl
   unfold bnd0S;simp only[z0C h1,if_true];exact z1X (z0k b).bad _ ((z0k b).bad a)
  |cons c u =>
   have h1:byteR (b.drop a)=some (c,u):=by rw[hd];rfl
   obtain⟨e1,e2,e3⟩:=ends_byte.drop ha h1;rw[hd]at hr;simp only[bnd0]at hr;unfold bnd0S;simp only[z0r h1];split at hr
   · rename_i hc;rw[if_pos hc]
     cases h2:seqR valR valR u with
     |some p=>simp[h2]at hr
     |none =>
      exact(z0m (z0k b) (z0k b) z4Y).none_ (b.length-u.length) (by omega) (by rw[e1];exact h2)
   · rename_i hc;rw[if_neg hc];split at hr
     · cases hr
     · rename_i hc;rw[if_neg hc];rfl
 bad a:=by
  unfold bnd0S;simp only[z0n,if_true];exact z1X (z0k b).bad _ ((z0k b).bad a)
 inb q hq:=by
  have h1:=z08 byteR 0 b q hq;unfold bnd0S;split
  · exact(z0k b).inb _ ((z0k b).inb _ h1)
  · split
    · exact h1
    · exact z0J b _ _ h1
def bandS (b:Byt):Nat×Bool→Bnd×(Nat×Bool):=z0o (bnd0S b) bMay
theorem z7I (b:Byt):StepsR b bandR (bandS b):=z0D (z7H b) _
def ruS (b:Byt):Nat×Bool→RuM×(Nat×Bool) :=
 z0o (z1a (seqSt (runR listR [] b) (seqSt (runR listR [] b) (seqSt (runR bandR (false,0,0) b) (rowSt 4 b (runR (textR 12) ⟨#[]⟩ b))))) mkRu) ruIs
theorem z9O (b:Byt):StepsR b ruR (ruS b) :=
 z0D (z0x (z0m (z0c b listR []) (z0m (z0c b listR []) (z0m (z0c b bandR _) (z3V (z0c b (textR 12) _) (z1P 12) 4) ends_band) ends_list) ends_list) mkRu) ruIs
end Go.Proofs.YteakobbdgehlgaaGreatDoor
namespace Go.Ab
open Go
section
variable {P:Program} {f:FuncId} {args:List AV} {σ:St}
end
end Go.Ab
namespace Go.Proofs.YteakobbdgehlgaaGreatDoor
open Go Go.Ab Go.Cod
set_option maxRecDepth 100000
abbrev Zb:AV:=.pl (.int .u8 0)
abbrev bsv (bs:List Byt):List AV:=bs.map fun b=>.sl 1 (byv b)
theorem z3i (bs:List Byt):(bsv bs).length=bs.length:=List.length_map ..
theorem z8K (bs:List Byt) (i:Nat) (h:i<bs.length):(bsv bs)[i]?=some (.sl 1 (byv bs[i])):=by simp[h]
theorem z5D (bs:List Byt) (i:Nat) (h:i<bs.length):(bs.take (i+1)).flatten=(bs.take i).flatten++bs[i]:=by
 rw[List.take_succ_eq_append_getElem h,List.flatten_append];simp
theorem z8L (bs:List Byt) (i:Nat):((bs.take i).flatten).length≤bs.flatten.length:=by
 have:bs.flatten=(bs.take i).flatten++(bs.drop i).flatten:=by rw[←List.flatten_append,List.take_append_drop]
 rw[this,List.length_append];omega
section
variable (σ:St)
theorem z9P (n:Nat) (h:0<n) (hn:n≤1000000):Ans Tryz.prog 94 [.nils,I n] σ (.osl (σ.length+1) 0) (σ++[.dead,.row 1 []]):=by
 have d0:decide ((n:Int)<0)=false:=by simp
 have w1:IntKind.i64.wrap (n:Int)=n:=wrapI (by omega)
 have d1:decide ((0:Int)<n)=true:=by simp;omega
 have hz:((n:Int)=0)=False:=eq_false (by omega)
 have hp:((0:Int)<n)=True:=eq_true (by omega)
 have hle:((n:Int)≤4294967296)=True:=eq_true (by omega)
 have hc:(chunks 1 false n (z05 [Zb] n)).length=n:=z0N _ _ _ _;have z0:Int.toNat 0=0:=rfl;refine Ans.of_run t94 ?_;simp -implicitDefEqProofs only[c94,r94,go_sem,d0];have z0:Int.toNat 0=0:=rfl;have z1:Int.toNat ((n:Nat):Int)=n:=Int.toNat_natCast n;have w0:IntKind.i64.wrap 0=0:=rfl;simp -implicitDefEqProofs only[go_sem,d0,Int.sub_zero,w1,d1,w0,hz,hp,hle,z0,z1,g0,s0,hc,List.take_zero,List.drop_zero,Int.natCast_nonneg,Int.le_refl,Nat.sub_zero,List.length_append,List.length_cons,List.length_nil,List.append_assoc,List.cons_append,List.nil_append];exact Fini.ret rfl
theorem z4A (bs:List Byt) (hl:bs.length≤100) (h0:0<bs.flatten.length) (h1:bs.flatten.length≤1000000) :
  Ans Tryz.prog 58 [.sl 1 (bsv bs)] σ (.sl 1 (byv bs.flatten)) σ:=by
 refine Ans.of_run' t58 (fun hbel _=>?_)
 simp -implicitDefEqProofs only[c58,r58,go_sem,z3i];refine Go.Ab.L.count bs.length (fun i=>mkE 36 [(0,.sl 1 (bsv bs)),(3,I ((bs.take i).flatten.length:Nat)),(9,.sl 1 (bsv bs)),(10,I bs.length),(11,I i)]) (fun _=>σ) ?_ ?_ rfl rfl
 · intro i hi J hJ;have hf:=z8L bs (i+1);rw[z5D bs i hi]at hJ hf;have hx:=z8K bs i hi;rw[List.length_append]at hJ hf;generalize bs[i]=c at hJ hf hx;generalize (bs.take i).flatten.length=t at hJ hf⊢;have ha:IntKind.i64.wrap ((t:Int)+(c.length:Int))=((t+c.length:Nat):Int):=by rw[wrapN (by omega) (by omega)];omega
   have d0:decide (((t+c.length:Nat):Int)<0)=false:=by simp;omega
   have hin:=wrap_succ (i:=i) (by omega)
   simp -implicitDefEqProofs only[mkE,go_sem,z3i,z1i hi,dec_lt hi,hx,z0d,ha,d0,hin];exact hJ
 · intro J;have d0:decide ((bs.length:Int)<bs.length)=false:=by simp
   simp -implicitDefEqProofs only[mkE,go_sem,z3i,d0,List.take_length];refine CO.intro (z9P σ bs.flatten.length h0 h1) ?_;simp -implicitDefEqProofs only[go_sem,z3i];refine Go.Ab.L.count bs.length (fun i=>mkE 36 [(6,.osl (σ.length+1) (bs.take i).flatten.length),(25,.sl 1 (bsv bs)),(26,I bs.length),(27,I i)]) (fun i=>σ++[.dead,.row 1 (byv (bs.take i).flatten)]) ?_ ?_ rfl rfl
   · intro i hi J hJ;have hf:=z8L bs (i+1);rw[z5D bs i hi]at hJ hf;have hx:=z8K bs i hi;rw[List.length_append]at hJ hf;generalize bs[i]=c at hJ hf hx;generalize (bs.take i).flatten=t at hJ hf⊢;have hle:t.length+c.length≤4294967296:=by omega
     have hin:=wrap_succ (i:=i) (by omega)
     simp -implicitDefEqProofs only[mkE,go_sem,z3i,z1i hi,dec_lt hi,hx,z0d,z3w,bc,hin,g1,s1,hle];simp only[z2i]at hJ;exact hJ
   · intro J;simp -implicitDefEqProofs only[mkE,go_sem,z3i,d0,List.take_length];have gg:(σ++[Ob.dead,Ob.row 1 (byv bs.flatten)])[σ.length+1]?=some (.row 1 (byv bs.flatten)):=by rw[List.getElem?_append_right (by omega)];simp
     have gs:List.set (σ++[Ob.dead,Ob.row 1 (byv bs.flatten)]) (σ.length+1) Ob.dead=σ++[.dead,.dead]:=by rw[List.set_append_right _ _ (by omega)];simp
     simp only[gg,z0d,if_true,gs];exact Fini.trim2 (σ':=σ) (ex:=[_,_]) rfl rfl (Nat.le_refl _) (z1W _ _) hbel
theorem z8M (bs:List Byt) (hl:bs.length≤100) (h0:0<bs.flatten.length) (h1:bs.flatten.length≤1000000) :
  Ans Tryz.prog 58 [.sl 1 (bsv bs)] σ (.sl 1 (byv bs.flatten)) σ :=
 z4A σ bs hl h0 h1
end
end Go.Proofs.YteakobbdgehlgaaGreatDoor
namespace Go.Proofs.YteakobbdgehlgaaGreatDoor
open Go Go.Ab Go.Cod
set_option maxRecDepth 100000
theorem z9Q (l z:List AV) (i:Nat) (h:i<l.length) (hz:l.length=z.length):(l.take i++z.drop i).set i l[i]=l.take (i+1)++z.drop (i+1):=by
 have h1:(l.take i).length=i:=by rw[List.length_take];omega
 rw[List.set_append_right _ _ (by omega),h1,Nat.sub_self,List.drop_eq_getElem_cons (by omega),List.set_cons_zero,List.take_succ_eq_append_getElem h,List.append_assoc]
 rfl
def fillW (n i:Nat):List AV:=(byv (wrdB n)).take i++(List.replicate 8 Zb).drop i
theorem wrdB_len (n:Nat):(wrdB n).length=8:=rfl
theorem z32 (n i:Nat) (h:i≤8):(fillW n i).length=8:=by
 unfold fillW;rw[List.length_append,List.length_take,List.length_drop,z0d,wrdB_len,List.length_replicate];omega
theorem z5E (n i:Nat) (h:i<8):(fillW n i).set i (bc (n/2^(56-8*i)).toUInt8)=fillW n (i+1):=by
 have e:(byv (wrdB n))[i]'(by rw[z0d,wrdB_len];exact h)=bc (n/2^(56-8*i)).toUInt8:=by
  match i,h with
  |0,_=>rfl
  |1,_=>rfl
  |2,_=>rfl
  |3,_=>rfl
  |4,_=>rfl
  |5,_=>rfl
  |6,_=>rfl
  |7,_=>show bc n.toUInt8=bc (n/2^0).toUInt8;rw[Nat.pow_zero,Nat.div_one]
 have:=z9Q (byv (wrdB n)) (List.replicate 8 Zb) i (by rw[z0d,wrdB_len];exact h) (by rw[z0d,wrdB_len,List.length_replicate])
 rw[e]at this;exact this
theorem z5F (n i:Nat) (h:i<8):(fillW n i)[i]?=some Zb:=by
 unfold fillW;have h1:((byv (wrdB n)).take i).length=i:=by rw[List.length_take,z0d,wrdB_len];omega
 rw[List.getElem?_append_right (by omega),h1,Nat.sub_self,List.getElem?_drop,List.getElem?_replicate,if_pos (by omega)]
theorem mks8:(chunks 1 false (8:Int).toNat (z05 [Zb] (8:Int).toNat)).take (8:Int).toNat=List.replicate 8 Zb:=rfl
theorem shrN (n k:Nat) (h:k≤64):((n:Int).fdiv (2^min ((k:Nat):Int).toNat 64))=((n/2^k:Nat):Int):=by
 have:min ((k:Nat):Int).toNat 64=k:=by rw[Int.toNat_natCast];omega
 rw[this,Int.fdiv_eq_ediv_of_nonneg _ (Int.pow_nonneg (by decide))]
 push_cast;rfl
theorem zaw (n:Nat):IntKind.u8.wrap (n:Int)=((n.toUInt8.toNat:Nat):Int):=by
 rw[z8m,toUInt8_mod]
section
variable (σ:St)
theorem z6p (n:Nat):Ans Tryz.prog 57 [UN n] σ (.sl 1 (byv (wrdB n))) σ:=by
 refine Ans.of_run' t57 (fun hbel _=>?_)
 have z8:Int.toNat 8=8:=rfl;simp -implicitDefEqProofs only[c57,r57,go_sem,mks8,z8,g0,s0,List.length_cons,List.length_nil];refine Go.Ab.L.count 8 (fun i=>mkE 22 [(0,UN n),(3,.osl σ.length 8),(7,I 8),(8,I i)]) (fun i=>σ++[.row 1 (fillW n i)]) ?_ ?_ rfl rfl
 · intro i hi J hJ;have hl:=z32 n i (by omega)
   have d0:decide ((i:Int)<8)=true:=by simp;omega
   have w1:IntKind.i64.wrap (8*(i:Int))=((8*i:Nat):Int):=by rw[wrapN (by omega) (by omega)];push_cast;rfl
   have w2:IntKind.i64.wrap (56-((8*i:Nat):Int))=((56-8*i:Nat):Int):=by rw[wrapN (by omega) (by omega)];omega
   have h3:=shrN n (56-8*i) (by omega)
   rw[Int.toNat_natCast]at h3;have hlt:((i:Int)<((8:Nat):Int))=True:=eq_true (by omega)
   have hget:(fillW n i)[i]?=some Zb:=z5F n i hi;have hin:=wrap_succ (i:=i) (by omega)
   have hset:(fillW n i).set i (.pl (.int .u8 ((n/2^(56-8*i)).toUInt8.toNat:Nat)))=fillW n (i+1):=z5E n i hi;simp -implicitDefEqProofs only[mkE,go_sem,d0,w1,w2,h3,zaw,g0,s0,hl,hin,hset,hlt,hget];exact hJ
 · intro J;have hl:=z32 n 8 (by omega)
   have d0:decide (((8:Nat):Int)<8)=false:=by decide
   have e8:fillW n 8=byv (wrdB n):=by unfold fillW;rw[List.take_of_length_le (by rw[z0d,wrdB_len];omega)];simp
   simp -implicitDefEqProofs only[mkE,go_sem,d0,g0,s0,hl,e8];exact Fini.trim2 (σ':=σ) rfl rfl (Nat.le_refl _) (z1W _ _) hbel
def wN (b:Byt):Nat:=b.foldl (fun a c=>a*256+c.toNat) 0
theorem zbh (b:Byt) (c:UInt8):wN (b++[c])=wN b*256+c.toNat:=by simp[wN]
theorem zax:∀(b:Byt) (a:Nat),b.foldl (fun a c=>a*256+c.toNat) a<(a+1)*2^(8*b.length)
 |[],a=>by simp
 |c::b,a=>by
  have ih:=zax b (a*256+c.toNat);have hc:=c.toNat_lt;have e:8*(c::b).length=8+8*b.length:=by simp only[List.length_cons];omega
  rw[List.foldl_cons,e,Nat.pow_add,←Nat.mul_assoc];exact Nat.lt_of_lt_of_le ih (Nat.mul_le_mul_right _ (by omega))
theorem wN_lt (b:Byt):wN b<2^(8*b.length):=by have:=zax b 0;simpa[wN] using this
theorem z76:∀b:Byt,wordR b=if 8≤b.length then some (wN (b.take 8),b.drop 8) else none
 |a::b::c::d::e::f::g::h::t=>by
  rw[if_pos (by simp only[List.length_cons];omega)]
  simp[wordR,wN]
 |[]=>rfl
 |[_]=>rfl
 |[_,_]=>rfl
 |[_,_,_]=>rfl
 |[_,_,_,_]=>rfl
 |[_,_,_,_,_]=>rfl
 |[_,_,_,_,_,_]=>rfl
 |[_,_,_,_,_,_,_]=>rfl
theorem zc8 (n c:Nat) (hc:c<256) (hn:n<2^56):IntKind.u64.wrap ((BitVec.ofInt 64 (IntKind.u64.wrap ((n:Int)*2^min 8 64)) ||| BitVec.ofInt 64 (c:Int)).toNat:Int)=((n*256+c:Nat):Int):=by
 have h:=zan c n 8 (by omega) (by decide) (by omega)
 rw[BitVec.or_comm];exact h.trans (by congr 1;omega)
def wordV (b:Byt):AV:=match wordR b with
 |none=>.tup [UN 0,Bo false]
 |some p=>.tup [UN p.1,Bo true]
theorem z6q (b:Byt) (hb:b.length≤100000):Ans Tryz.prog 150 [.sl 1 (byv b)] σ (wordV b) σ:=by
 refine Ans.of_run t150 ?_;unfold wordV;rw[z76];by_cases h8:8≤b.length
 · have d0:decide ((b.length:Int)<8)=false:=by simp;omega
   have l8:(8:Int)≤(b.length:Nat):=by omega
   have lt8:(b.take 8).length=8:=by rw[List.length_take];omega
   have z8:Int.toNat 8=8:=rfl;have z0:Int.toNat 0=0:=rfl;rw[if_pos h8];simp only;simp -implicitDefEqProofs only[c150,r150,go_sem,z0d,d0,l8,z8,z0,z3u,z3v,List.drop_zero,lt8];refine Go.Ab.L.count 8 (fun i=>mkE 24 [(4,UN (wN ((b.take 8).take i))),(11,.sl 1 (byv (b.take 8))),(12,I 8),(13,I i)]) (fun _=>σ) ?_ ?_ rfl rfl
   · intro i hi J hJ;have hx:=z8l (b.take 8) i (by omega)
     have hs:(b.take 8).take (i+1)=(b.take 8).take i++[(b.take 8)[i]]:=List.take_succ_eq_append_getElem (by omega)
     rw[hs,zbh]at hJ;have hl:=wN_lt ((b.take 8).take i);rw[List.length_take]at hl;have hl:wN ((b.take 8).take i)<2^56:=Nat.lt_of_lt_of_le hl (Nat.pow_le_pow_right (by decide) (by omega))
     have hc:=((b.take 8)[i]).toNat_lt;generalize (b.take 8)[i]=c at hx hJ hc;generalize wN ((b.take 8).take i)=w at hl hJ⊢;have hor:=zc8 w c.toNat hc hl;have hwc:=z1r (n:=c.toNat) (by omega)
     have d1:decide ((i:Int)<8)=true:=by simp;omega
     have hlt:((i:Int)<((8:Nat):Int))=True:=eq_true (by omega)
     have hin:=wrap_succ (i:=i) (by omega)
     simp -implicitDefEqProofs only[mkE,go_sem,d1,z0d,lt8,hlt,hx,bc,hwc,z8,hin]
     have key:∀v:Int,v=((w*256+c.toNat:Nat):Int)→J (mkE 24 [(4,.pl (.int .u64 v)),(11,.sl 1 (byv (b.take 8))),(12,I 8),(13,I ((i+1:Nat):Int))]) σ:=by
      rintro _ rfl;exact hJ
     exact key _ hor
   · intro J;have d1:decide (((8:Nat):Int)<8)=false:=by decide
     have e8:(b.take 8).take 8=b.take 8:=List.take_of_length_le (by omega)
     simp -implicitDefEqProofs only[mkE,go_sem,d1,e8];exact Fini.ret rfl
 · have d0:decide ((b.length:Int)<8)=true:=by simp;omega
   rw[if_neg h8];simp -implicitDefEqProofs only[c150,r150,go_sem,z0d,d0];exact Fini.ret rfl
theorem z5G (u:Nat):Ans Tryz.prog 148 [UN u] σ (Fl u) σ:=ext_frombits.ok _ _ _ _ rfl
theorem zay (u:Nat):Ans Tryz.prog 129 [UN u] σ (.tup [Fl (if okV u then u else 0),Bo (okV u)]) σ:=by
 have e:(((bitsF u:Nat):Int) != (u:Nat))= !okV u:=by
  unfold okV;rw[bne];congr 1
  rw[Bool.eq_iff_iff];simp only[beq_iff_eq,decide_eq_true_eq];omega
 refine Ans.of_run t129 ?_;simp -implicitDefEqProofs only[c129,r129,go_sem];refine CO.intro (z5G σ u) ?_;simp -implicitDefEqProofs only[go_sem];refine CO.intro (z3C σ u) ?_;simp -implicitDefEqProofs only[go_sem,e]
 cases h:okV u with
 |true =>
  simp -implicitDefEqProofs only[go_sem];exact Fini.ret rfl
 |false =>
  simp -implicitDefEqProofs only[go_sem];exact Fini.ret rfl
section
variable (p:Nat) (b:Byt) (q:Nat×Bool)
theorem z77 (h:σ[p]?=some (rob b q)) (hq:Inb b q) (hb:b.length≤50000) :
  Ans Tryz.prog 130 [.ptr p 0] σ (UN (runR wordR 0 b q).1) (σ.set p (rob b (runR wordR 0 b q).2)):=by
 refine Ans.of_run t130 ?_;simp -implicitDefEqProofs only[c130,r130,go_sem];refine CO.intro (z0y σ p b q h hq) ?_;simp -implicitDefEqProofs only[go_sem];refine CO.intro (z6q σ (b.drop q.1) (by rw[List.length_drop];omega)) ?_
 obtain⟨a,bad⟩:=q;simp only at hq h⊢;have hq:a≤b.length:=hq;unfold wordV;have hw:=z76 (b.drop a);have ht:=z0z σ p b (a,bad) 8 (wordR (b.drop a)).isSome h (by simp only;omega)
 cases hg:wordR (b.drop a) with
 |none =>
  rw[hg]at ht;have e:took (a,bad) 8 (none:Option (Nat×Byt)).isSome=(a,true):=by cases bad<;>rfl
  rw[e]at ht;simp -implicitDefEqProofs only[go_sem];refine CO.intro ht ?_;simp -implicitDefEqProofs only[go_sem]
  cases bad with
  |true=>rw[z0n];exact Fini.ret rfl
  |false=>rw[z0C hg];exact Fini.ret rfl
 |some x =>
  obtain⟨n,t⟩:=x;rw[hg]at ht hw
  have hl:t.length=b.length-(a+8)∧a+8≤b.length:=by
   split at hw
   · rename_i h8;simp only[Option.some.injEq,Prod.mk.injEq]at hw;rw[hw.2,List.length_drop,List.length_drop];rw[List.length_drop]at h8;omega
   · cases hw
  simp -implicitDefEqProofs only[go_sem];refine CO.intro ht ?_
  cases bad with
  |true =>
   have e:took (a,true) 8 (some (n,t)).isSome=(a,true):=rfl;rw[e,z0n];simp -implicitDefEqProofs only[go_sem];exact Fini.ret rfl
  |false =>
   have e:took (a,false) 8 (some (n,t)).isSome=(b.length-t.length,false):=by
    simp only[took,Option.isSome_some,Bool.false_or,Bool.not_true,Bool.false_eq_true,if_false];congr 1;omega
   rw[e,z0r hg];simp -implicitDefEqProofs only[go_sem];exact Fini.ret rfl
theorem z78 (h:σ[p]?=some (rob b q)) (hq:Inb b q) (hb:b.length≤50000) :
  Ans Tryz.prog 144 [.ptr p 0] σ (Fl (valS b q).1) (σ.set p (rob b (valS b q).2)):=by
 refine Ans.of_run t144 ?_;simp -implicitDefEqProofs only[c144,r144,go_sem];refine CO.intro (z77 σ p b q h hq hb) ?_;have hi2:=z08 wordR 0 b q hq;unfold valS;generalize runR wordR 0 b q=w at hi2⊢;simp -implicitDefEqProofs only[go_sem];refine CO.intro (zay _ w.1) ?_;simp -implicitDefEqProofs only[go_sem];have h2:=z06 (σ.set p (rob b w.2)) p b w.2 (okV w.1) (z3W h _) hi2 hb;rw[List.set_set]at h2;refine CO.intro h2 ?_;simp -implicitDefEqProofs only[go_sem];exact Fini.ret rfl
end
end
end Go.Proofs.YteakobbdgehlgaaGreatDoor
namespace Go.Proofs.YteakobbdgehlgaaGreatDoor
open Go Go.Ab
set_option maxRecDepth 100000
def vals8:List ByteArray:=values++[⟨#[]⟩]
abbrev Mz:=Int×ByteArray×ByteArray
abbrev dv (d:Int×Int×Int):AV:=.agg [I d.1,I d.2.1,I d.2.2]
section
variable (σ:St)
end
def allV:List ByteArray:=vals8++pats
instance:DecidableEq ByteArray:=fun a b=>decidable_of_iff (a.data=b.data) (by cases a;cases b;simp)
structure MOK (x:Mz):Prop where
 lo:1≤x.1
 hi:x.1≤4
 nm:x.2.1∈names
 low:x.1<3→x.2.2∈vals8
 high:¬x.1<3→x.2.2∈pats
theorem MOK.val {x:Mz} (h:MOK x):x.2.2∈allV:=by
 unfold allV;by_cases h3:x.1<3
 · exact List.mem_append_left _ (h.low h3)
 · exact List.mem_append_right _ (h.high h3)
end Go.Proofs.YteakobbdgehlgaaGreatDoor
namespace Go.Proofs.YteakobbdgehlgaaGreatDoor
open Go Go.Ab Go.Cod
set_option maxRecDepth 100000
def bandV (b:Bool×Nat×Nat):AV:=.agg [Bo b.1,Fl b.2.1,Fl b.2.2]
theorem z18 (n:Nat) (b:Bool×Nat×Nat):Bel n (bandV b):=.agg _ fun i hi=>by
 have:∀y∈([Bo b.1,Fl b.2.1,Fl b.2.2]:List AV),Bel n y:=by
  intro y hy;simp only[List.mem_cons,List.not_mem_nil,or_false]at hy;rcases hy with rfl|rfl|rfl<;>exact .pl _
 exact this _ (List.getElem_mem hi)
section
variable (σ:St)
end
theorem z9R (l:List ByteArray) (s:ByteArray):txs (l++[s])=txs l++[Sx s]:=by simp[txs]
theorem zbi:txs []=[]:=rfl
theorem z1s (n:Nat) (L:List ByteArray):Bel n (.sl 1 (txs L)):=by
 refine .sl 1 _ fun i hi=>?_
 have:∀y∈txs L,Bel n y:=by
  intro y hy;simp only[txs,List.mem_map]at hy;obtain⟨x,_,rfl⟩:=hy;exact .pl _
 exact this _ (List.getElem_mem hi)
theorem g2 (σ:St) (x y z:Ob) (ex:St):(σ++x::y::z::ex)[σ.length+2]?=some z:=by rw[List.getElem?_append_right (by simp)];simp
theorem s2 (σ:St) (x y z u:Ob) (ex:St):(σ++x::y::z::ex).set (σ.length+2) u=σ++x::y::u::ex:=by rw[List.set_append_right _ _ (by simp)];simp
section
variable (σ:St)
end
theorem Inb0 (b:Byt):Inb b (0,false):=Nat.zero_le _
section
variable (σ:St)
theorem zaz (n:Nat) (hn:n<18446744073709551616):Ans Tryz.prog 50 [UN n] σ (.sl 1 (byv (putN n))) σ:=(z6h σ n hn).shut (by rw[z0d]) (z1W _ _)
theorem z3n (b:Byt) (hb:b.length≤50000):Ans Tryz.prog 124 [.sl 1 (byv b)] σ (readV (bandR b) b bandV (bandV (false,0,0))) σ:=by
 have hS:=(z7I b).top;refine Ans.of_run' t124 (fun hbel _=>?_)
 simp -implicitDefEqProofs only[c124,r124,go_sem];refine CO.intro (new_ans _ b) ?_;simp -implicitDefEqProofs only[go_sem,List.append_assoc,List.length_append];generalize hq1:runR byteR 0 b (0,false)=q1;have hin1:Inb b q1.2:=by rw[←hq1];exact z08 _ _ _ _ (Inb0 b)
 have hby:=z0G (σ++[.box [Bo false,Fl 0,Fl 0],rob b (0,false),.box [Bo false,Fl 0,Fl 0]]) (σ.length+1) b (0,false) (g1 _ _ _ _) (Inb0 b) hb;rw[hq1,s1]at hby;refine CO.intro hby ?_;obtain⟨c,q⟩:=q1;simp only at hin1⊢;by_cases h0:c=0
 · subst h0;have v1:=z78 (σ++[.box [Bo false,Fl 0,Fl 0],rob b q,.box [Bo false,Fl 0,Fl 0]]) (σ.length+1) b q (g1 _ _ _ _) hin1 hb;have hi2:=(z0k b).inb q hin1
   have hL:bandS b (0,false)=((false,(valS b q).1,(valS b (valS b q).2).1),took (valS b (valS b q).2).2 0 (mayB false (valS b q).1 (valS b (valS b q).2).1)):=by
    unfold bandS z0o bnd0S;rw[hq1];rfl
   generalize valS b q=w1 at v1 hi2 hL;obtain⟨lo,p1⟩:=w1;simp only at v1 hi2 hL;rw[s1]at v1;have v2:=z78 (σ++[.box [Bo false,Fl 0,Fl 0],rob b p1,.box [Bo false,Fl 0,Fl 0]]) (σ.length+1) b p1 (g1 _ _ _ _) hi2 hb;have hi3:=(z0k b).inb p1 hi2;generalize valS b p1=w2 at v2 hi3 hL;obtain⟨hi,p2⟩:=w2;simp only at v2 hi3 hL;rw[s1]at v2;have e0:((((0:UInt8).toNat:Nat):Int)==0)=true:=rfl;simp -implicitDefEqProofs only[go_sem,bc,e0,g0,g1,g2,s0,s1,s2];refine CO.intro v1 ?_;simp -implicitDefEqProofs only[go_sem];refine CO.intro v2 ?_;have h1:=z06 (σ++[.box [Bo false,Fl 0,Fl 0],rob b p2,.box [Bo false,Fl lo,Fl hi]]) (σ.length+1) b p2 (mayB false lo hi) (g1 _ _ _ _) hi3 hb;rw[s1]at h1;have hL:bandS b (0,false)=((false,lo,hi),took p2 0 (mayB false lo hi)):=hL;rw[hL]at hS;generalize took p2 0 (mayB false lo hi)=qe at h1 hS;have h2:=z2a (σ++[.box [Bo false,Fl 0,Fl 0],rob b qe,.box [Bo false,Fl lo,Fl hi]]) (σ.length+1) b qe (g1 _ _ _ _);simp -implicitDefEqProofs only[go_sem,g0,g1,g2,s0,s1,s2];refine CO.intro (z1b _ false lo hi) ?_;simp -implicitDefEqProofs only[go_sem];refine CO.intro h1 ?_;simp -implicitDefEqProofs only[go_sem];refine CO.intro h2 ?_
   cases hr:bandR b with
   |none =>
    have hb2:=hS.2 hr;obtain⟨qa,qb⟩:=qe;simp only at hb2;subst hb2;simp -implicitDefEqProofs only[go_sem,g0,g1,g2,s0,s1,s2];exact Fini.trim2 (σ':=σ) (ex:=[_,_,_]) (by simp -implicitDefEqProofs only[go_sem,resA,z03,rvA,oneOf,g0];rfl) rfl (Nat.le_refl _) (by unfold readV;exact z0L (z18 _ _)) hbel
   |some p =>
    obtain⟨M,t⟩:=p;have hb2:=hS.1 M t hr;simp only[Prod.mk.injEq]at hb2;obtain⟨rfl,rfl⟩:=hb2;simp -implicitDefEqProofs only[go_sem,g0,g1,g2,s0,s1,s2];exact Fini.trim2 (σ':=σ) (ex:=[_,_,_]) (by simp -implicitDefEqProofs only[go_sem,resA,z03,rvA,oneOf,g0];rfl) rfl (Nat.le_refl _) (by unfold readV;exact z0L (z18 _ _)) hbel
 · have e0:(((c.toNat:Nat):Int)==0)=false:=by
    rw[Bool.eq_false_iff];intro h;rw[beq_iff_eq]at h;exact h0 (UInt8.toNat_inj.1 (by rw[show(0:UInt8).toNat=0 from rfl];omega))
   by_cases h1:c=1
   · subst h1
     have hL:bandS b (0,false)=((true,0,0),took q 0 (mayB true 0 0)):=by
      unfold bandS z0o bnd0S;rw[hq1];rfl
     have e1:((((1:UInt8).toNat:Nat):Int)==1)=true:=rfl;simp -implicitDefEqProofs only[go_sem,bc,e0,e1,g0,g1,g2,s0,s1,s2];have h1:=z06 (σ++[.box [Bo false,Fl 0,Fl 0],rob b q,.box [Bo true,Fl 0,Fl 0]]) (σ.length+1) b q (mayB true 0 0) (g1 _ _ _ _) hin1 hb;rw[s1]at h1;have hL:bandS b (0,false)=((true,0,0),took q 0 (mayB true 0 0)):=hL;rw[hL]at hS;generalize took q 0 (mayB true 0 0)=qe at h1 hS;have h2:=z2a (σ++[.box [Bo false,Fl 0,Fl 0],rob b qe,.box [Bo true,Fl 0,Fl 0]]) (σ.length+1) b qe (g1 _ _ _ _);refine CO.intro (z1b _ true 0 0) ?_;simp -implicitDefEqProofs only[go_sem];refine CO.intro h1 ?_;simp -implicitDefEqProofs only[go_sem];refine CO.intro h2 ?_
     cases hr:bandR b with
     |none =>
      have hb2:=hS.2 hr;obtain⟨qa,qb⟩:=qe;simp only at hb2;subst hb2;simp -implicitDefEqProofs only[go_sem,g0,g1,g2,s0,s1,s2];exact Fini.trim2 (σ':=σ) (ex:=[_,_,_]) (by simp -implicitDefEqProofs only[go_sem,resA,z03,rvA,oneOf,g0];rfl) rfl (Nat.le_refl _) (by unfold readV;exact z0L (z18 _ _)) hbel
     |some p =>
      obtain⟨M,t⟩:=p;have hb2:=hS.1 M t hr;simp only[Prod.mk.injEq]at hb2;obtain⟨rfl,rfl⟩:=hb2;simp -implicitDefEqProofs only[go_sem,g0,g1,g2,s0,s1,s2];exact Fini.trim2 (σ':=σ) (ex:=[_,_,_]) (by simp -implicitDefEqProofs only[go_sem,resA,z03,rvA,oneOf,g0];rfl) rfl (Nat.le_refl _) (by unfold readV;exact z0L (z18 _ _)) hbel
   · have hL:bandS b (0,false)=((false,0,0),took (took q 0 false) 0 (mayB false 0 0)):=by
      unfold bandS z0o bnd0S;rw[hq1];simp only[h0,h1,if_false];rfl
     have e1:(((c.toNat:Nat):Int)==1)=false:=by
      rw[Bool.eq_false_iff];intro h;rw[beq_iff_eq]at h;exact h1 (UInt8.toNat_inj.1 (by rw[show(1:UInt8).toNat=1 from rfl];omega))
     have v1:=z06 (σ++[.box [Bo false,Fl 0,Fl 0],rob b q,.box [Bo false,Fl 0,Fl 0]]) (σ.length+1) b q false (g1 _ _ _ _) hin1 hb;rw[s1]at v1;have hi2:=z0J b q false hin1;generalize took q 0 false=p1 at v1 hi2 hL;simp -implicitDefEqProofs only[go_sem,bc,e0,e1,g0,g1,g2,s0,s1,s2];refine CO.intro v1 ?_;have h1:=z06 (σ++[.box [Bo false,Fl 0,Fl 0],rob b p1,.box [Bo false,Fl 0,Fl 0]]) (σ.length+1) b p1 (mayB false 0 0) (g1 _ _ _ _) hi2 hb;rw[s1]at h1;have hL:bandS b (0,false)=((false,0,0),took p1 0 (mayB false 0 0)):=hL;rw[hL]at hS;generalize took p1 0 (mayB false 0 0)=qe at h1 hS;have h2:=z2a (σ++[.box [Bo false,Fl 0,Fl 0],rob b qe,.box [Bo false,Fl 0,Fl 0]]) (σ.length+1) b qe (g1 _ _ _ _);simp -implicitDefEqProofs only[go_sem,g0,g1,g2,s0,s1,s2];refine CO.intro (z1b _ false 0 0) ?_;simp -implicitDefEqProofs only[go_sem];refine CO.intro h1 ?_;simp -implicitDefEqProofs only[go_sem];refine CO.intro h2 ?_
     cases hr:bandR b with
     |none =>
      have hb2:=hS.2 hr;obtain⟨qa,qb⟩:=qe;simp only at hb2;subst hb2;simp -implicitDefEqProofs only[go_sem,g0,g1,g2,s0,s1,s2];exact Fini.trim2 (σ':=σ) (ex:=[_,_,_]) (by simp -implicitDefEqProofs only[go_sem,resA,z03,rvA,oneOf,g0];rfl) rfl (Nat.le_refl _) (by unfold readV;exact z0L (z18 _ _)) hbel
     |some p =>
      obtain⟨M,t⟩:=p;have hb2:=hS.1 M t hr;simp only[Prod.mk.injEq]at hb2;obtain⟨rfl,rfl⟩:=hb2;simp -implicitDefEqProofs only[go_sem,g0,g1,g2,s0,s1,s2];exact Fini.trim2 (σ':=σ) (ex:=[_,_,_]) (by simp -implicitDefEqProofs only[go_sem,resA,z03,rvA,oneOf,g0];rfl) rfl (Nat.le_refl _) (by unfold readV;exact z0L (z18 _ _)) hbel
end
theorem z2r {α:Type} {r:Option (α×Byt)} {b:Byt} {enc:α→AV} {z:AV} (h:r=none):readV r b enc z=.tup [z,I 0,Bo false]:=by subst h;rfl
theorem z2s {α:Type} {r:Option (α×Byt)} {b:Byt} {enc:α→AV} {z:AV} {x:α} {t:Byt} (h:r=some (x,t)):readV r b enc z=.tup [enc x,I (b.length-t.length:Nat),Bo true]:=by subst h;rfl
abbrev mlV (M:List Mtr):AV:=.sl 3 (mvs3 M)
section
variable (σ:St) (p:Nat) (b:Byt) (q:Nat×Bool)
theorem z5H (h:σ[p]?=some (rob b q)) (hq:Inb b q) (hb:b.length≤50000):Ans Tryz.prog 121 [.ptr p 0,.fn 122 [] []] σ (mlV (runR listR [] b q).1) (σ.set p (rob b (runR listR [] b q).2)):=by
 obtain⟨a,bad⟩:=q;have hq:a≤b.length:=hq;have hl:(b.drop a).length≤50000:=by rw[List.length_drop];omega
 cases hr:listR (b.drop a) with
 |none =>
  have hrd:=z5B σ (b.drop a) hl;rw[z2r hr]at hrd
  have e:runR listR [] b (a,bad)=([],(a,true)):=by
   cases bad
   · exact z0C hr
   · exact z0n _ _ _ _
  have e2:took (a,bad) 0 false=(a,true):=by cases bad<;>rfl
  have ht:=z0z σ p b (a,bad) 0 false h (by simp only;omega)
  rw[e2]at ht;rw[e]
  have:Ans Tryz.prog 121 [.ptr p 0,.fn 122 [] []] σ .nils (σ.set p (rob b (a,true))):=by
   refine Ans.of_run t121 ?_;simp -implicitDefEqProofs only[c121,r121,go_sem];refine CO.intro (z0y σ p b (a,bad) h hq) ?_;simp -implicitDefEqProofs only[go_sem];refine CO.intro hrd ?_;simp -implicitDefEqProofs only[go_sem];refine CO.intro ht ?_;simp -implicitDefEqProofs only[go_sem];exact Fini.ret rfl
  exact this.subR (.nils 3)
 |some x =>
  obtain⟨x,t⟩:=x;have hrd:=z5B σ (b.drop a) hl;rw[z2s hr]at hrd;have hdr:=ends_list.drop hq hr;have ht:=z0z σ p b (a,bad) ((b.drop a).length-t.length) true h (by simp only[List.length_drop];omega)
  cases bad with
  |true =>
   have e2:took (a,true) ((b.drop a).length-t.length) true=(a,true):=rfl;rw[e2]at ht;rw[z0n]
   have:Ans Tryz.prog 121 [.ptr p 0,.fn 122 [] []] σ .nils (σ.set p (rob b (a,true))):=by
    refine Ans.of_run t121 ?_;simp -implicitDefEqProofs only[c121,r121,go_sem];refine CO.intro (z0y σ p b (a,true) h hq) ?_;simp -implicitDefEqProofs only[go_sem];refine CO.intro hrd ?_;simp -implicitDefEqProofs only[go_sem];refine CO.intro ht ?_;simp -implicitDefEqProofs only[go_sem];exact Fini.ret rfl
   exact this.subR (.nils 3)
  |false =>
   have e2:took (a,false) ((b.drop a).length-t.length) true=(b.length-t.length,false):=by
    simp only[took,Bool.false_or,Bool.not_true,Bool.false_eq_true,if_false,List.length_drop];congr 1;omega
   rw[e2]at ht;rw[z0r hr];refine Ans.of_run t121 ?_;simp -implicitDefEqProofs only[c121,r121,go_sem];refine CO.intro (z0y σ p b (a,false) h hq) ?_;simp -implicitDefEqProofs only[go_sem];refine CO.intro hrd ?_;simp -implicitDefEqProofs only[go_sem];refine CO.intro ht ?_;simp -implicitDefEqProofs only[go_sem];exact Fini.ret rfl
theorem z8N (h:σ[p]?=some (rob b q)) (hq:Inb b q) (hb:b.length≤50000):Ans Tryz.prog 123 [.ptr p 0,.fn 124 [] []] σ (bandV (runR bandR (false,0,0) b q).1) (σ.set p (rob b (runR bandR (false,0,0) b q).2)):=by
 obtain⟨a,bad⟩:=q;have hq:a≤b.length:=hq;have hl:(b.drop a).length≤50000:=by rw[List.length_drop];omega
 have hp:p<σ.length:=(List.getElem?_eq_some_iff.1 h).1;have hz:∀ob,(σ++[ob])[p]?=some (rob b (a,bad)):=fun ob=>by rw[List.getElem?_append_left hp];exact h
 have hst:∀ob X,(σ++[ob]).set p X=σ.set p X++[ob]:=fun ob X=>by rw[List.set_append_left _ _ hp]
 have hlen:∀X,(σ.set p X).length=σ.length:=fun X=>List.length_set
 have gx:∀(X:Ob) (o:Ob) (ex:St),(σ.set p X++o::ex)[σ.length]?=some o:=fun X o ex=>by rw[←hlen X];exact g0 _ _ _
 have sx:∀(X:Ob) (o u:Ob) (ex:St),(σ.set p X++o::ex).set σ.length u=σ.set p X++u::ex:=fun X o u ex=>by rw[←hlen X];exact s0 _ _ _ _
 have gx1:∀(X:Ob) (o o2:Ob) (ex:St),(σ.set p X++o::o2::ex)[σ.length+1]?=some o2:=fun X o o2 ex=>by rw[←hlen X];exact g1 _ _ _ _
 have hbo:∀(hbel:∀o∈σ,BelO σ.length o) (q:Nat×Bool),∀o∈σ.set p (rob b q),BelO (σ.set p (rob b q)).length o:=fun hbel q=>by
  rw[hlen]
  exact z1j hbel (fun c hc=>by
   simp only[List.mem_cons,List.not_mem_nil,or_false]at hc;rcases hc with rfl|rfl|rfl
   · exact z1W _ _
   · exact .pl _
   · exact .pl _)
 cases hr:bandR (b.drop a) with
 |none =>
  have hrd:=fun s=>z3n s (b.drop a) hl
  simp only[z2r hr]at hrd
  have e:runR bandR (false,0,0) b (a,bad)=((false,0,0),(a,true)):=by
   cases bad
   · exact z0C hr
   · exact z0n _ _ _ _
  have e2:took (a,bad) 0 false=(a,true):=by cases bad<;>rfl
  have ht:=fun ob=>z0z (σ++[ob]) p b (a,bad) 0 false (hz ob) (by simp only;omega)
  simp only[e2,hst]at ht;rw[e];refine Ans.of_run' t123 (fun hbel _=>?_)
  simp -implicitDefEqProofs only[c123,r123,go_sem];refine CO.intro (z0y _ p b (a,bad) (hz _) hq) ?_;simp -implicitDefEqProofs only[go_sem];refine CO.intro (hrd _) ?_;simp -implicitDefEqProofs only[go_sem,bandV];refine CO.intro (ht _) ?_;simp -implicitDefEqProofs only[go_sem,gx,sx,gx1,List.append_assoc,List.length_append,hlen];exact Fini.trim2 (σ':=σ.set p (rob b (a,true))) (ex:=[_,_]) (by simp -implicitDefEqProofs only[go_sem,resA,z03,rvA,oneOf,gx]<;>rfl) rfl (by rw[hlen];exact Nat.le_refl _) (z18 _ (false,0,0)) (hbo hbel _)
 |some x =>
  obtain⟨x,t⟩:=x;have hrd:=fun s=>z3n s (b.drop a) hl
  simp only[z2s hr]at hrd;have hdr:=ends_band.drop hq hr;have ht:=fun ob=>z0z (σ++[ob]) p b (a,bad) ((b.drop a).length-t.length) true (hz ob) (by simp only[List.length_drop];omega)
  simp only[hst]at ht
  cases bad with
  |true =>
   have e2:took (a,true) ((b.drop a).length-t.length) true=(a,true):=rfl;rw[e2]at ht;rw[z0n];refine Ans.of_run' t123 (fun hbel _=>?_)
   simp -implicitDefEqProofs only[c123,r123,go_sem];refine CO.intro (z0y _ p b (a,true) (hz _) hq) ?_;simp -implicitDefEqProofs only[go_sem];refine CO.intro (hrd _) ?_;simp -implicitDefEqProofs only[go_sem,bandV];refine CO.intro (ht _) ?_;simp -implicitDefEqProofs only[go_sem,gx,sx,gx1,List.append_assoc,List.length_append,hlen];exact Fini.trim2 (σ':=σ.set p (rob b (a,true))) (ex:=[_,_]) (by simp -implicitDefEqProofs only[go_sem,resA,z03,rvA,oneOf,gx]<;>rfl) rfl (by rw[hlen];exact Nat.le_refl _) (z18 _ (false,0,0)) (hbo hbel _)
  |false =>
   have e2:took (a,false) ((b.drop a).length-t.length) true=(b.length-t.length,false):=by
    simp only[took,Bool.false_or,Bool.not_true,Bool.false_eq_true,if_false,List.length_drop];congr 1;omega
   rw[e2]at ht;rw[z0r hr];refine Ans.of_run' t123 (fun hbel _=>?_)
   simp -implicitDefEqProofs only[c123,r123,go_sem];refine CO.intro (z0y _ p b (a,false) (hz _) hq) ?_;simp -implicitDefEqProofs only[go_sem];refine CO.intro (hrd _) ?_;simp -implicitDefEqProofs only[go_sem,bandV];refine CO.intro (ht _) ?_;simp -implicitDefEqProofs only[go_sem,gx,sx,gx1,List.append_assoc,List.length_append,hlen];exact Fini.trim2 (σ':=σ.set p (rob b (b.length-t.length,false))) (ex:=[_]) (by simp -implicitDefEqProofs only[go_sem,resA,z03,rvA,oneOf,gx]<;>rfl) rfl (by rw[hlen];exact Nat.le_refl _) (z18 _ x) (hbo hbel _)
end
theorem g3 (σ:St) (x y z u:Ob) (ex:St):(σ++x::y::z::u::ex)[σ.length+3]?=some u:=by rw[List.getElem?_append_right (by simp)];simp
theorem s3 (σ:St) (x y z u v:Ob) (ex:St):(σ++x::y::z::u::ex).set (σ.length+3) v=σ++x::y::z::v::ex:=by rw[List.set_append_right _ _ (by simp)];simp
def txC (n:Nat) (e:List ByteArray):AV:=if e.isEmpty then .nils else .osl n e.length
def txS (e:List ByteArray):St:=if e.isEmpty then[] else[.row 1 (txs e)]
theorem z8O (n:Nat) {e:List ByteArray} (h:e.isEmpty=false):txC n e=.osl n e.length:=by unfold txC;rw[h];rfl
theorem z8P {e:List ByteArray} (h:e.isEmpty=false):txS e=[.row 1 (txs e)]:=by unfold txS;rw[h];rfl
theorem z79 (e:List ByteArray) (s:ByteArray):(e++[s]).isEmpty=false:=by cases e<;>rfl
theorem z6r (n:Nat) (r:RuM):Bel n (ruV r):=.agg _ fun i hi=>by
 have:∀y∈([.sl 3 (mvs3 r.src),.sl 3 (mvs3 r.tgt),Bo r.any,Fl r.lo,Fl r.hi,.sl 1 (txs r.eq)]:List AV),Bel n y:=by
  intro y hy;simp only[List.mem_cons,List.not_mem_nil,or_false]at hy;rcases hy with rfl|rfl|rfl|rfl|rfl|rfl
  · exact z0K _ _
  · exact z0K _ _
  · exact .pl _
  · exact .pl _
  · exact .pl _
  · exact z1s _ _
 exact this _ (List.getElem_mem hi)
def noRu:RuM:=⟨[],[],false,0,0,[]⟩
abbrev Z6:Ob:=.box [.nils,.nils,Bo false,Fl 0,Fl 0,.nils]
def noRuV:AV:=.agg [.nils,.nils,Bo false,Fl 0,Fl 0,.nils]
theorem z4Z:Sub noRuV (ruV noRu):=.agg (.cons (.nils 3) (.cons (.nils 3) (.cons (.refl _) (.cons (.refl _) (.cons (.refl _) (.cons (.nils 1) .nil))))))
theorem z34 (n:Nat):Bel n noRuV:=.agg _ fun i hi=>by
 have:∀y∈([.nils,.nils,Bo false,Fl 0,Fl 0,.nils]:List AV),Bel n y:=by
  intro y hy;simp only[List.mem_cons,List.not_mem_nil,or_false]at hy;rcases hy with rfl|rfl|rfl|rfl|rfl|rfl
  · exact .nils
  · exact .nils
  · exact .pl _
  · exact .pl _
  · exact .pl _
  · exact .nils
 exact this _ (List.getElem_mem hi)
section
variable (σ:St)
set_option maxHeartbeats 4000000 in
theorem z6s (b:Byt) (hb:b.length≤50000):Ans Tryz.prog 126 [.sl 1 (byv b)] σ (readV (ruR b) b ruV noRuV) σ:=by
 have hS:=(z9O b).top;refine Ans.of_run' t126 (fun hbel _=>?_)
 simp -implicitDefEqProofs only[c126,r126,go_sem];refine CO.intro (new_ans _ b) ?_
 have hs2:∀q,ruS b q=(mkRu ((runR listR [] b q).1,(runR listR [] b (runR listR [] b q).2).1,(runR bandR (false,0,0) b (runR listR [] b (runR listR [] b q).2).2).1,(rowSt 4 b (runR (textR 12) ⟨#[]⟩ b) (runR bandR (false,0,0) b (runR listR [] b (runR listR [] b q).2).2).2).1),
   took (rowSt 4 b (runR (textR 12) ⟨#[]⟩ b) (runR bandR (false,0,0) b (runR listR [] b (runR listR [] b q).2).2).2).2 0 (ruIs (mkRu ((runR listR [] b q).1,(runR listR [] b (runR listR [] b q).2).1,(runR bandR (false,0,0) b (runR listR [] b (runR listR [] b q).2).2).1,(rowSt 4 b (runR (textR 12) ⟨#[]⟩ b) (runR bandR (false,0,0) b (runR listR [] b (runR listR [] b q).2).2).2).1)))):=fun q=>rfl
 rw[hs2]at hS;have h1:=z5H (σ++[Z6,rob b (0,false)]) (σ.length+1) b (0,false) (g1 _ _ _ _) (Inb0 b) hb;rw[s1]at h1;have i1:=z08 listR [] b (0,false) (Inb0 b);generalize runR listR [] b (0,false)=w1 at h1 i1 hS;obtain⟨m1,q1⟩:=w1;simp only at h1 i1 hS;have h2:=z5H (σ++[Z6,rob b q1]) (σ.length+1) b q1 (g1 _ _ _ _) i1 hb;rw[s1]at h2;have i2:=z08 listR [] b q1 i1;generalize runR listR [] b q1=w2 at h2 i2 hS;obtain⟨m2,q2⟩:=w2;simp only at h2 i2 hS;have h3:=z8N (σ++[Z6,rob b q2]) (σ.length+1) b q2 (g1 _ _ _ _) i2 hb;rw[s1]at h3;have i3:=z08 bandR (false,0,0) b q2 i2;generalize runR bandR (false,0,0) b q2=w3 at h3 i3 hS;obtain⟨⟨any,lo,hi⟩,q3⟩:=w3;unfold bandV at h3;simp only at h3 i3 hS;simp -implicitDefEqProofs only[go_sem,List.append_assoc,List.length_append];refine CO.intro h1 ?_;simp -implicitDefEqProofs only[go_sem];refine CO.intro h2 ?_;simp -implicitDefEqProofs only[go_sem];refine CO.intro h3 ?_;unfold rowSt at hS;have h4:=z1G (σ++[Z6,rob b q3,.box [mlV m1,mlV m2,Bo any,Fl lo,Fl hi,.nils]]) (σ.length+1) b q3 4 (by decide) (g1 _ _ _ _) i3 hb
 rw[s1]at h4;have i4:=z08 (numR 4) 0 b q3 i3;have hn4:=z1J (most:=4) b q3;generalize runR (numR 4) 0 b q3=w4 at h4 i4 hS hn4;obtain⟨n,q4⟩:=w4;simp only at h4 i4 hS hn4;simp -implicitDefEqProofs only[go_sem,List.append_assoc,List.length_append,g0,g1,g2,s0,s1,s2];refine CO.intro h4 ?_;simp -implicitDefEqProofs only[go_sem]
 refine Go.Ab.L.count n (fun i=>mkE 44 [(2,.ptr σ.length 0),(5,.ptr (σ.length+1) 0),(6,.ptr (σ.length+2) 0),(19,UN n),(20,UN i)])
  (fun i=>σ++Z6::rob b (itSt (runR (textR 12) ⟨#[]⟩ b) q4 i).2::.box [mlV m1,mlV m2,Bo any,Fl lo,Fl hi,txC (σ.length+3) (itSt (runR (textR 12) ⟨#[]⟩ b) q4 i).1]::txS (itSt (runR (textR 12) ⟨#[]⟩ b) q4 i).1) ?_ ?_ rfl rfl
 · intro i hin J hJ;have hit:=z1l (z08 (textR 12) ⟨#[]⟩ b) q4 i4 i;have hlen:=z1Y (runR (textR 12) ⟨#[]⟩ b) q4 i;simp only[itSt]at hJ;generalize itSt (runR (textR 12) ⟨#[]⟩ b) q4 i=c at hJ hit hlen⊢;obtain⟨l,q⟩:=c;simp only at hJ hit hlen⊢;have d0:decide ((i:Int)<n)=true:=dec_lt hin;have w0:=z1r (n:=i+1) (by omega)
   have e0:((i:Int)+1)=((i+1:Nat):Int):=rfl;have h5:=z2l (σ++Z6::rob b q::.box [mlV m1,mlV m2,Bo any,Fl lo,Fl hi,txC (σ.length+3) l]::txS l) (σ.length+1) b q 12 (by decide) (g1 _ _ _ _) hit hb
   rw[s1]at h5;generalize runR (textR 12) ⟨#[]⟩ b q=w5 at h5 hJ;obtain⟨s,q5⟩:=w5;simp only at h5 hJ;rw[z8O _ (z79 l s),z8P (z79 l s),z9R]at hJ;rw[List.length_append,List.length_singleton]at hJ
   cases hem:l.isEmpty with
   |true =>
    have hle:l=[]:=List.isEmpty_iff.1 hem;subst hle;unfold txC txS at h5⊢;simp only[List.isEmpty_nil,if_true]at h5⊢;simp -implicitDefEqProofs only[mkE,go_sem,d0,g0,g1,g2,s0,s1,s2];refine CD.intro h5 ?_;have p32:((1:Nat)≤2^32)=True:=eq_true (by decide)
    simp -implicitDefEqProofs only[go_sem,g0,g1,g2,s0,s1,s2,w0,e0,p32,List.length_append,List.append_assoc,List.length_cons,List.length_nil];exact hJ
   |false =>
    rw[z8O _ hem,z8P hem]at h5⊢;have hll:l.length+1≤4294967296:=by omega
    simp -implicitDefEqProofs only[mkE,go_sem,d0,g0,g1,g2,s0,s1,s2];refine CD.intro h5 ?_;simp -implicitDefEqProofs only[go_sem,g0,g1,g2,g3,s0,s1,s2,s3,w0,e0,z1I,hll,List.length_singleton];exact hJ
 · intro J;have hit:=z1l (z08 (textR 12) ⟨#[]⟩ b) q4 i4 n;have hlen:=z1Y (runR (textR 12) ⟨#[]⟩ b) q4 n;generalize itSt (runR (textR 12) ⟨#[]⟩ b) q4 n=c at hS hit hlen⊢;obtain⟨l,q⟩:=c;simp only at hS hit hlen⊢;have d0:decide ((n:Int)<n)=false:=by simp
   have hru:=fun s=>z1e s (mkRu (m1,m2,(any,lo,hi),l))
   generalize ruIs (mkRu (m1,m2,(any,lo,hi),l))=ok at hru hS
   cases hem:l.isEmpty with
   |true =>
    have hle:l=[]:=List.isEmpty_iff.1 hem;subst hle;unfold txC txS;simp only[List.isEmpty_nil,if_true];have h6:=z06 (σ++[Z6,rob b q,.box [mlV m1,mlV m2,Bo any,Fl lo,Fl hi,.sl 1 (txs [])]]) (σ.length+1) b q ok (g1 _ _ _ _) hit hb;rw[s1]at h6;generalize took q 0 ok=qe at h6 hS;have h7:=z2a (σ++[Z6,rob b qe,.box [mlV m1,mlV m2,Bo any,Fl lo,Fl hi,.sl 1 (txs [])]]) (σ.length+1) b qe (g1 _ _ _ _);simp -implicitDefEqProofs only[mkE,go_sem,d0,zbi,g0,g1,g2,g3,s0,s1,s2,s3];refine CO.intro (hru _) ?_;simp -implicitDefEqProofs only[go_sem];refine CO.intro h6 ?_;simp -implicitDefEqProofs only[go_sem];refine CO.intro h7 ?_
    cases hr:ruR b with
    |none =>
     have hb2:=hS.2 hr;obtain⟨qa,qb⟩:=qe;simp only at hb2;subst hb2;simp -implicitDefEqProofs only[go_sem,g0,g1,g2,g3,s0,s1,s2,s3];exact Fini.trim2 (σ':=σ) (ex:=[_,_,_]) (by simp -implicitDefEqProofs only[go_sem,resA,z03,rvA,oneOf,g0];rfl) rfl (Nat.le_refl _) (by unfold readV;exact z0L (z34 _)) hbel
    |some p =>
     obtain⟨M,t⟩:=p;have hb2:=hS.1 M t hr;simp only[Prod.mk.injEq]at hb2;obtain⟨rfl,rfl⟩:=hb2;simp -implicitDefEqProofs only[go_sem,g0,g1,g2,g3,s0,s1,s2,s3];exact Fini.trim2 (σ':=σ) (ex:=[_,_,_]) (by simp -implicitDefEqProofs only[go_sem,resA,z03,rvA,oneOf,g0];rfl) rfl (Nat.le_refl _) (by unfold readV;exact z0L (z6r _ _)) hbel
   |false =>
    rw[z8O _ hem,z8P hem];have ne32:(σ.length+3≠σ.length+2)=True:=eq_true (by omega)
    have h6:=z06 (σ++[Z6,rob b q,.box [mlV m1,mlV m2,Bo any,Fl lo,Fl hi,.sl 1 (txs l)],.dead]) (σ.length+1) b q ok (g1 _ _ _ _) hit hb;rw[s1]at h6;generalize took q 0 ok=qe at h6 hS;have h7:=z2a (σ++[Z6,rob b qe,.box [mlV m1,mlV m2,Bo any,Fl lo,Fl hi,.sl 1 (txs l)],.dead]) (σ.length+1) b qe (g1 _ _ _ _);simp -implicitDefEqProofs only[mkE,go_sem,d0,z1I,ne32,g0,g1,g2,g3,s0,s1,s2,s3];refine CO.intro (hru _) ?_;simp -implicitDefEqProofs only[go_sem];refine CO.intro h6 ?_;simp -implicitDefEqProofs only[go_sem];refine CO.intro h7 ?_
    cases hr:ruR b with
    |none =>
     have hb2:=hS.2 hr;obtain⟨qa,qb⟩:=qe;simp only at hb2;subst hb2;simp -implicitDefEqProofs only[go_sem,g0,g1,g2,g3,s0,s1,s2,s3];exact Fini.trim2 (σ':=σ) (ex:=[_,_,_,_]) (by simp -implicitDefEqProofs only[go_sem,resA,z03,rvA,oneOf,g0];rfl) rfl (Nat.le_refl _) (by unfold readV;exact z0L (z34 _)) hbel
    |some p =>
     obtain⟨M,t⟩:=p;have hb2:=hS.1 M t hr;simp only[Prod.mk.injEq]at hb2;obtain⟨rfl,rfl⟩:=hb2;simp -implicitDefEqProofs only[go_sem,g0,g1,g2,g3,s0,s1,s2,s3];exact Fini.trim2 (σ':=σ) (ex:=[_,_,_,_]) (by simp -implicitDefEqProofs only[go_sem,resA,z03,rvA,oneOf,g0];rfl) rfl (Nat.le_refl _) (by unfold readV;exact z0L (z6r _ _)) hbel
theorem z4B (b:Byt) (hb:b.length≤50000):Ans Tryz.prog 126 [.sl 1 (byv b)] σ (readV (ruR b) b ruV (ruV noRu)) σ:=by
 refine(z6s σ b hb).subR ?_;unfold readV
 cases ruR b with
 |none=>exact .tup (.cons z4Z (.refl _))
 |some p=>exact .refl _
end
end Go.Proofs.YteakobbdgehlgaaGreatDoor
namespace Go.Ab
open Go Go.ChangeShapes Go.WideShapes
theorem Reads.weak {P:Program} {t:TypeId} {f:Nat} {Q Q':List AV→Prop} (h:Reads P t f Q) (hq:∀xs,Q xs→∃ys,Q' ys∧Subs xs ys):Reads P t f Q':=by
 intro H enc W cs x hx;obtain⟨xs,h1,h2⟩:=h H enc W cs x hx;obtain⟨ys,h3,h4⟩:=hq xs h2;exact⟨ys,h4.reps h1,h3⟩
def zc9:List AV→Prop:=fun xs=>∃n:Nat,xs=[.pl (.float .f64 n)]
theorem Reads.float {P:Program} {t:TypeId} (ht:P.underlying t=some (.float .f64)) (f:Nat):Reads P t f zc9:=by
 intro H enc W cs x h
 have:∃n,cs=[.float .f64 n]:=by
  cases f with
  |zero=>simp[DataW.trod]at h
  |succ n =>
   unfold DataW.trod at h;rw[ht]at h;split at h<;>simp_all
 obtain⟨n,rfl⟩:=this;exact⟨_,z2q (.pl _),n,rfl⟩
def QSl (sz:Nat) (ag:Bool) (Q:List AV→Prop):List AV→Prop:=fun xs=>∃ys:List (List AV),(∀y∈ys,Q y)∧ys.length≤maxLen∧xs=[.sl sz (ys.map (wrapC ag))]
theorem QSlice.weak {sz:Nat} {ag:Bool} {Q:List AV→Prop} (xs:List AV) (h:QSlice sz ag Q xs):∃ys,QSl sz ag Q ys∧Subs xs ys:=by
 rcases h with rfl|⟨ys,h1,h2,rfl⟩
 · exact⟨_,⟨[],by simp,by simp,rfl⟩,.cons (.nils sz) .nil⟩
 · exact⟨_,⟨ys,h1,h2,rfl⟩,Subs.refl _⟩
end Go.Ab
namespace Go.Proofs.YteakobbdgehlgaaGreatDoor
open Go Go.Ab Go.ChangeShapes Go.WideShapes Go.ChangeAt Go.RowKit
set_option maxRecDepth 100000
section
variable {H:Type} {enc:TypeId×Value→H} {W:World} {base:Nat} {v:Value} {d:DataW H} {ps:List MemPlace}
theorem zbj (hv:Value.okWide Tryz.prog W .any base 3 v) (h:DataW.Trod enc Tryz.prog W 0 (fun _=>true) true 3 v d ps):∃n:Int,Rep noM noR W (I n) v:=by
 obtain⟨n,rfl⟩:=okWide_int Tryz.underlying3 hv;obtain⟨x,hx,m,hm,e⟩:=Reads.arg (P:=Tryz.prog) (t:=3) (fun f=>Reads.int Tryz.underlying3 f) rfl h
 simp only[List.cons.injEq,and_true]at e;subst e;exact⟨m,hx⟩
end
end Go.Proofs.YteakobbdgehlgaaGreatDoor
namespace Go.Proofs.YteakobbdgehlgaaGreatDoor
open Go Go.Ab Go.Cod
set_option maxRecDepth 100000
section
variable (σ:St)
theorem z3o (n:Nat):Ans Tryz.prog 82 [UN n] σ (.sl 1 (byv (wrdB n))) σ:=by
 refine Ans.of_run' t82 (fun hbel _=>?_)
 have z8:Int.toNat 8=8:=rfl;simp -implicitDefEqProofs only[c82,r82,go_sem,mks8,z8,g0,s0,List.length_cons,List.length_nil];refine Go.Ab.L.count 8 (fun i=>mkE 21 [(0,UN n),(3,.osl σ.length 8),(4,I i)]) (fun i=>σ++[.row 1 (fillW n i)]) ?_ ?_ rfl rfl
 · intro i hi J hJ;have hl:=z32 n i (by omega)
   have d0:decide ((i:Int)<8)=true:=by simp;omega
   have w1:IntKind.i64.wrap (8*(i:Int))=((8*i:Nat):Int):=by rw[wrapN (by omega) (by omega)];push_cast;rfl
   have w2:IntKind.i64.wrap (56-((8*i:Nat):Int))=((56-8*i:Nat):Int):=by rw[wrapN (by omega) (by omega)];omega
   have w3:=z1r (n:=56-8*i) (by omega)
   have h3:=shrN n (56-8*i) (by omega)
   rw[Int.toNat_natCast]at h3;have hlt:((i:Int)<((8:Nat):Int))=True:=eq_true (by omega)
   have hget:(fillW n i)[i]?=some Zb:=z5F n i hi;have hin:=wrap_succ (i:=i) (by omega)
   have hset:(fillW n i).set i (.pl (.int .u8 ((n/2^(56-8*i)).toUInt8.toNat:Nat)))=fillW n (i+1):=z5E n i hi;simp -implicitDefEqProofs only[mkE,go_sem,d0,w1,w2,w3,h3,zaw,g0,s0,hl,hin,hset,hlt,hget];exact hJ
 · intro J;have hl:=z32 n 8 (by omega)
   have d0:decide (((8:Nat):Int)<8)=false:=by decide
   have e8:fillW n 8=byv (wrdB n):=by unfold fillW;rw[List.take_of_length_le (by rw[z0d,wrdB_len];omega)];simp
   simp -implicitDefEqProofs only[mkE,go_sem,d0,g0,s0,hl,e8];exact Fini.trim2 (σ':=σ) rfl rfl (Nat.le_refl _) (z1W _ _) hbel
end
end Go.Proofs.YteakobbdgehlgaaGreatDoor
namespace Go.Proofs.YteakobbdgehlgaaGreatDoor.Sha
open Go Go.Ab Go.Cod
set_option maxRecDepth 100000
section
variable (σ:St)
theorem z8Q (w:Nat) (h:w<2^64):Ans Tryz.prog 82 [UN w] σ (.sl 1 (bv (wrdB w))) σ:=z3o σ w
theorem z8R:Ans Tryz.prog 73 [] σ (.agg (s8v firstS)) σ:=by
 refine Ans.of_run' t73 (fun hbel _=>?_)
 simp -implicitDefEqProofs only[c73,r73,go_sem,G0,S0];have ab:=z6L σ.length firstS.l;exact Fini.trim2 (σ':=σ) (ex:=[_]) (by simp -implicitDefEqProofs only[go_sem,resA,z03,rvA,oneOf,G0]<;>rfl) rfl (Nat.le_refl _) ab hbel
def rowD (b:List UInt8) (i:Nat):List UInt8:=b++(128::List.replicate i 0)
theorem z3E (b:List UInt8) (i:Nat):(rowD b i).length=b.length+1+i:=by
 unfold rowD;simp only[List.length_append,List.length_cons,List.length_replicate];omega
theorem z5I (b:List UInt8) (i:Nat):bv (rowD b i)++[Z8]=bv (rowD b (i+1)):=by
 have e:[Z8]=bv [0]:=rfl;rw[e,←z3R];unfold rowD;rw[List.append_assoc,List.cons_append,←List.replicate_succ']
theorem z7a (b:List UInt8):bv (rowD b (padZ b.length))++bv (wrdB (8*b.length))=bv (padB b):=by
 rw[←z3R];unfold rowD padB;rw[List.append_assoc,List.cons_append]
theorem z9S (b:List UInt8) (hb:b.length≤100000):Ans Tryz.prog 72 [.sl 1 (bv b)] σ (.sl 1 (bv (padB b))) σ:=by
 have hl:=z0h b;have hw:=fun s=>z8Q s (8*b.length) (by omega)
 have e0:(bv b).isEmpty=b.isEmpty:=by unfold bv;simp
 have e128:bv b++[AV.pl (.int .u8 128)]=bv (rowD b 0):=by
  have e:[AV.pl (.int .u8 128)]=bv [128]:=rfl;rw[e,←z3R];rfl
 have l1:b.length≤4294967296:=by omega
 have l2:b.length+1≤4294967296:=by omega
 refine Ans.of_run' t72 (fun hbel _=>?_)
 cases hbe:b.isEmpty with
 |true =>
  have hb0:b=[]:=by simpa using hbe
  have e1:(bv b).isEmpty=true:=by rw[hb0];rfl
  have k1:((1:Nat)≤2^32)=True:=eq_true (by decide)
  have e9:[AV.pl (.int .u8 128)]=bv (rowD b 0):=by rw[hb0];rfl
  have h1:AV.osl σ.length 1=AV.osl σ.length (b.length+1):=by rw[hb0];rfl
  simp -implicitDefEqProofs only[c72,r72,go_sem,e1,k1,z19];rw[e9,h1];refine Go.Ab.L.count (padZ b.length) (fun i=>mkE 22 [(0,.sl 1 (bv b)),(3,.osl σ.length (b.length+1+i))]) (fun i=>σ++[.row 1 (bv (rowD b i))]) ?_ ?_ rfl rfl
  · intro i hi J hJ;have hm:(((b.length+1+i:Nat):Int)).tmod 64=(((b.length+1+i)%64:Nat):Int):=rfl
    have hn:((((b.length+1+i)%64:Nat):Int) != 56)=true:=by
     have:=z4P b.length i hi;simp;omega
    have hz:=z2C b.length;have r1:=z3E b i;have r2:=z0h (rowD b i);have r3:=z5I b i;have l3:(b.length+1+i+1≤2^32)=True:=eq_true (by omega)
    simp -implicitDefEqProofs only[mkE,go_sem,hm,hn,r1,r2,r3,l3,G0,S0];exact hJ
  · intro J;have hm:(((b.length+1+padZ b.length:Nat):Int)).tmod 64=(((b.length+1+padZ b.length)%64:Nat):Int):=rfl;rw[z4O]at hm;have hn:(((56:Nat):Int) != 56)=false:=rfl;have hz:=z2C b.length
    have wd:IntKind.u64.wrap (IntKind.u64.wrap ((b.length:Nat):Int)*8)=((8*b.length:Nat):Int):=by
     have e:IntKind.u64.wrap ((b.length:Nat):Int)=((b.length:Nat):Int):=by simp only[IntKind.wrap,IntKind.bits,IntKind.signed];simp;omega
     rw[e];simp only[IntKind.wrap,IntKind.bits,IntKind.signed];simp;omega
    have r1:=z3E b (padZ b.length);have r2:=z0h (rowD b (padZ b.length));simp -implicitDefEqProofs only[mkE,go_sem,r1,r2,G0,S0,hm,hn,hl,wd];refine CO.intro (hw _) ?_;have r3:=z7a b;have r4:=z0h (wrdB (8*b.length));have r5:=wrdB_len (8*b.length);have l3:(b.length+1+padZ b.length+8≤2^32)=True:=eq_true (by omega)
    have r6:(bv (padB b)).length=b.length+1+padZ b.length+8:=by rw[←r3,List.length_append,r2,r1,r4,r5]
    simp -implicitDefEqProofs only[mkE,go_sem,z19,r1,r2,r3,r4,r5,r6,l3,G0,S0];exact Fini.trim2 (σ':=σ) (ex:=[_]) rfl rfl (Nat.le_refl _) (z1U _ _) hbel
 |false =>
  have e1:(bv b).isEmpty=false:=by rw[e0,hbe]
  have k1:(b.length≤2^32)=True:=eq_true (by omega)
  have k2:(b.length+1≤2^32)=True:=eq_true (by omega)
  simp -implicitDefEqProofs only[c72,r72,go_sem,hl,e1,z19,k1,k2,G0,S0,e128];refine Go.Ab.L.count (padZ b.length) (fun i=>mkE 22 [(0,.sl 1 (bv b)),(3,.osl σ.length (b.length+1+i))]) (fun i=>σ++[.row 1 (bv (rowD b i))]) ?_ ?_ rfl rfl
  · intro i hi J hJ;have hm:(((b.length+1+i:Nat):Int)).tmod 64=(((b.length+1+i)%64:Nat):Int):=rfl
    have hn:((((b.length+1+i)%64:Nat):Int) != 56)=true:=by
     have:=z4P b.length i hi;simp;omega
    have hz:=z2C b.length;have r1:=z3E b i;have r2:=z0h (rowD b i);have r3:=z5I b i;have l3:(b.length+1+i+1≤2^32)=True:=eq_true (by omega)
    simp -implicitDefEqProofs only[mkE,go_sem,hm,hn,r1,r2,r3,l3,G0,S0];exact hJ
  · intro J;have hm:(((b.length+1+padZ b.length:Nat):Int)).tmod 64=(((b.length+1+padZ b.length)%64:Nat):Int):=rfl;rw[z4O]at hm;have hn:(((56:Nat):Int) != 56)=false:=rfl;have hz:=z2C b.length
    have wd:IntKind.u64.wrap (IntKind.u64.wrap ((b.length:Nat):Int)*8)=((8*b.length:Nat):Int):=by
     have e:IntKind.u64.wrap ((b.length:Nat):Int)=((b.length:Nat):Int):=by simp only[IntKind.wrap,IntKind.bits,IntKind.signed];simp;omega
     rw[e];simp only[IntKind.wrap,IntKind.bits,IntKind.signed];simp;omega
    have r1:=z3E b (padZ b.length);have r2:=z0h (rowD b (padZ b.length));simp -implicitDefEqProofs only[mkE,go_sem,r1,r2,G0,S0,hm,hn,hl,wd];refine CO.intro (hw _) ?_;have r3:=z7a b;have r4:=z0h (wrdB (8*b.length));have r5:=wrdB_len (8*b.length);have l3:(b.length+1+padZ b.length+8≤2^32)=True:=eq_true (by omega)
    have r6:(bv (padB b)).length=b.length+1+padZ b.length+8:=by rw[←r3,List.length_append,r2,r1,r4,r5]
    simp -implicitDefEqProofs only[mkE,go_sem,z19,r1,r2,r3,r4,r5,r6,l3,G0,S0];exact Fini.trim2 (σ':=σ) (ex:=[_]) rfl rfl (Nat.le_refl _) (z1U _ _) hbel
end
section
variable (σ:St)
set_option maxHeartbeats 4000000 in
theorem z7J (h:S8) (b:List UInt8) (hb:b.length=64) (hG:∀ex,gloA (σ++ex) 1=some kV):Ans Tryz.prog 74 [.agg (s8v h),.agg (bv b)] σ (.agg (wv (z2P h b))) σ:=by
 have hl:=z0h b;have ha:=z1q b;have htk:List.take 64 (bv b)=bv b:=List.take_of_length_le (by rw[hl];omega)
 have hz:([.pl (.int .u32 0),.pl (.int .u32 0),.pl (.int .u32 0),.pl (.int .u32 0),.pl (.int .u32 0),.pl (.int .u32 0),.pl (.int .u32 0),.pl (.int .u32 0),.pl (.int .u32 0),.pl (.int .u32 0),.pl (.int .u32 0),.pl (.int .u32 0),.pl (.int .u32 0),.pl (.int .u32 0),.pl (.int .u32 0),.pl (.int .u32 0),.pl (.int .u32 0),.pl (.int .u32 0),.pl (.int .u32 0),.pl (.int .u32 0),.pl (.int .u32 0),.pl (.int .u32 0),.pl (.int .u32 0),.pl (.int .u32 0),.pl (.int .u32 0),.pl (.int .u32 0),.pl (.int .u32 0),.pl (.int .u32 0),.pl (.int .u32 0),.pl (.int .u32 0),.pl (.int .u32 0),.pl (.int .u32 0),.pl (.int .u32 0),.pl (.int .u32 0),.pl (.int .u32 0),.pl (.int .u32 0),.pl (.int .u32 0),.pl (.int .u32 0),.pl (.int .u32 0),.pl (.int .u32 0),.pl (.int .u32 0),.pl (.int .u32 0),.pl (.int .u32 0),.pl (.int .u32 0),.pl (.int .u32 0),.pl (.int .u32 0),.pl (.int .u32 0),.pl (.int .u32 0),.pl (.int .u32 0),.pl (.int .u32 0),.pl (.int .u32 0),.pl (.int .u32 0),.pl (.int .u32 0),.pl (.int .u32 0),.pl (.int .u32 0),.pl (.int .u32 0),.pl (.int .u32 0),.pl (.int .u32 0),.pl (.int .u32 0),.pl (.int .u32 0),.pl (.int .u32 0),.pl (.int .u32 0),.pl (.int .u32 0),.pl (.int .u32 0)]:List AV)=wv (z07 b 0):=rfl;have hh8:s8v h=wv h.l:=rfl;have hA:(s8v h).all AV.one=true:=rfl;refine Ans.of_run' t74 (fun hbel _=>?_)
 simp -implicitDefEqProofs only[c74,r74,go_sem,hl,hb,ha,hA,List.append_assoc,List.cons_append,List.nil_append,List.length_append,List.length_cons,List.length_nil];rw[hz];clear hz;refine Go.Ab.L.count 64 (fun i=>mkE 189 [(2,.rp (s8v h)),(3,.rp (bv b)),(4,.ptr σ.length 0),(5,.ptr (σ.length+1) 0),(6,I i)]) (fun i=>σ++[.box [.pl (.int .u32 0),.pl (.int .u32 0),.pl (.int .u32 0),.pl (.int .u32 0),.pl (.int .u32 0),.pl (.int .u32 0),.pl (.int .u32 0),.pl (.int .u32 0)],.box (wv (z07 b i))]) ?_ ?_ rfl rfl
 · intro i hi J hJ;have hd0:decide ((i:Int)<64)=true:=decide_eq_true (by omega)
   have l4:((i:Int)<((64:Nat):Int))=True:=eq_true (by omega)
   have w1:=z0M b i;have l5:(i≤63)=True:=eq_true (by omega)
   have hp:=fun x=>z5n (w:=z07 b i) (i:=i) (by omega) x
   have p0:∀n:Nat,((0:Int)≤(n:Int))=True:=fun n=>eq_true (Int.natCast_nonneg _)
   have wi:IntKind.i64.wrap ((i:Int)+1)=((i+1:Nat):Int):=by rw[←z0l (n:=i+1) (by omega)];congr 1
   have hw:z07 b (i+1)=(z07 b i).set i (nextW b (z07 b i) i):=rfl;by_cases h16:i<16
   · have hd1:decide ((i:Int)<16)=true:=decide_eq_true (by omega)
     have e1:IntKind.i64.wrap (4*(i:Int))=((4*i:Nat):Int):=by rw[←z0l (n:=4*i) (by omega)];congr 1
     have e2:∀k:Nat,k<4→IntKind.i64.wrap (((4*i:Nat):Int)+(k:Int))=((4*i+k:Nat):Int):=fun k hk=>by rw[←z0l (n:=4*i+k) (by omega)];congr 1
     have f1:=e2 1 (by decide)
     have f2:=e2 2 (by decide)
     have f3:=e2 3 (by decide)
     have l0:(((4*i:Nat):Int)<((64:Nat):Int))=True:=eq_true (by omega)
     have l1:(((4*i+1:Nat):Int)<((64:Nat):Int))=True:=eq_true (by omega)
     have l2:(((4*i+2:Nat):Int)<((64:Nat):Int))=True:=eq_true (by omega)
     have l3:(((4*i+3:Nat):Int)<((64:Nat):Int))=True:=eq_true (by omega)
     have hh:∀k,k<64→(List.drop k (bv b)).head?=some (.pl (.int .u8 (((gB b k).toNat:Nat):Int))):=fun k hk=>by have:=z8d (b:=b) (i:=k) (by omega);rwa [Nat.mul_one]at this
     have h0:=hh (4*i) (by omega)
     have h1:=hh (4*i+1) (by omega)
     have h2:=hh (4*i+2) (by omega)
     have h3:=hh (4*i+3) (by omega)
     have k1:((1:Nat):Int)=1:=rfl;have k2:((2:Nat):Int)=2:=rfl;have k3:((3:Nat):Int)=3:=rfl;rw[k1]at f1;rw[k2]at f2;rw[k3]at f3;have hn:nextW b (z07 b i) i=word4 (gB b (4*i)) (gB b (4*i+1)) (gB b (4*i+2)) (gB b (4*i+3)):=by unfold nextW;rw[if_pos h16]
     have v1:=V_shl (b32 (gB b (4*i))) 24 (by decide)
     have v2:=V_shl (b32 (gB b (4*i+1))) 16 (by decide)
     have v3:=V_shl (b32 (gB b (4*i+2))) 8 (by decide)
     have t24:Int.toNat 24=24:=rfl;have t16:Int.toNat 16=16:=rfl;have t8:Int.toNat 8=8:=rfl;simp -implicitDefEqProofs only[mkE,go_sem,t24,t16,t8,wi,e1,l5,hp,l4,w1,z13,G1,S1,v1,v2,v3,Nat.mul_one,h0,h1,h2,h3,f1,f2,f3,hd0,hd1,l0,l1,l2,l3,p0,Int.toNat_natCast,z6J,V_or];unfold word4 at hn;rw[hw,hn]at hJ;exact hJ
   · have hd1:decide ((i:Int)<16)=false:=decide_eq_false (by omega)
     have e:∀m:Nat,m≤i→IntKind.i64.wrap ((i:Int)-(m:Int))=((i-m:Nat):Int):=fun m hm=>by rw[←z0l (n:=i-m) (by omega)];congr 1;omega
     have f1:=e 15 (by omega)
     have f2:=e 2 (by omega)
     have f3:=e 16 (by omega)
     have f4:=e 7 (by omega)
     have k1:((15:Nat):Int)=15:=rfl;have k2:((2:Nat):Int)=2:=rfl;have k3:((16:Nat):Int)=16:=rfl;have k4:((7:Nat):Int)=7:=rfl;rw[k1]at f1;rw[k2]at f2;rw[k3]at f3;rw[k4]at f4;have l:∀m:Nat,(((i-m:Nat):Int)<((64:Nat):Int))=True:=fun m=>eq_true (by omega)
     have hh:∀m:Nat,(List.drop (i-m) (wv (z07 b i))).head?=some (V32 (gW (z07 b i) (i-m))):=fun m=>by rw[List.head?_drop,z2v (by omega)]
     have hn:nextW b (z07 b i) i=gW (z07 b i) (i-16)+sg0 (gW (z07 b i) (i-15))+gW (z07 b i) (i-7)+sg1 (gW (z07 b i) (i-2)):=by unfold nextW;rw[if_neg (by omega)]
     rw[hw,hn]at hJ;unfold sg0 sg1 at hJ;have q7:∀(A:BitVec 32) s,Ans Tryz.prog 100 [V32 A,.pl (.int .u64 7)] s (V32 (ror A 7)) s:=fun A s=>turned_ans s A 7 (by decide) (by decide)
     have q18:∀(A:BitVec 32) s,Ans Tryz.prog 100 [V32 A,.pl (.int .u64 18)] s (V32 (ror A 18)) s:=fun A s=>turned_ans s A 18 (by decide) (by decide)
     have q17:∀(A:BitVec 32) s,Ans Tryz.prog 100 [V32 A,.pl (.int .u64 17)] s (V32 (ror A 17)) s:=fun A s=>turned_ans s A 17 (by decide) (by decide)
     have q19:∀(A:BitVec 32) s,Ans Tryz.prog 100 [V32 A,.pl (.int .u64 19)] s (V32 (ror A 19)) s:=fun A s=>turned_ans s A 19 (by decide) (by decide)
     have t3:Int.toNat 3=3:=rfl;have t10:Int.toNat 10=10:=rfl;have v3:=fun A=>V_shr A 3 (by decide)
     have v10:=fun A=>V_shr A 10 (by decide)
     simp -implicitDefEqProofs only[mkE,go_sem,hd0,hd1,f1,f2,f3,f4,l,p0,G1,S1,w1,z13,hh,Nat.mul_one,Int.toNat_natCast,l4,l5,hp,wi];refine CO.intro (q7 _ _) ?_;simp -implicitDefEqProofs only[go_sem];refine CO.intro (q18 _ _) ?_;simp -implicitDefEqProofs only[go_sem,V_xor,t3,v3];refine CO.intro (q17 _ _) ?_;simp -implicitDefEqProofs only[go_sem];refine CO.intro (q19 _ _) ?_;simp -implicitDefEqProofs only[go_sem,V_xor,t10,v10,f3,f4,l,p0,G1,S1,w1,z13,hh,Nat.mul_one,Int.toNat_natCast,l4,l5,hp,wi,V_add];exact hJ
 · intro J0;have hd0:decide (((64:Nat):Int)<64)=false:=rfl;have wl:=z0M b 64;have hr:z2P h b=addTo h.l (rounds (z07 b 64) h 64).l 8:=rfl;rw[hr];generalize z07 b 64=w at wl;have wa:=z5m w;simp -implicitDefEqProofs only[mkE,go_sem,hd0,z3g,z2Q,z4Q,List.append_assoc,List.cons_append,List.nil_append,List.length_append,List.length_cons,List.length_nil,G2,S2,List.drop_succ_cons,List.drop_zero,List.drop_nil,List.append_nil];refine Go.Ab.L.count 64 (fun i=>mkE 189 [(2,.rp (s8v h)),(4,.ptr σ.length 0),(5,.ptr (σ.length+1) 0),(11,.ptr (σ.length+2) 0),(12,I i)]) (fun i=>σ++[.box [.pl (.int .u32 0),.pl (.int .u32 0),.pl (.int .u32 0),.pl (.int .u32 0),.pl (.int .u32 0),.pl (.int .u32 0),.pl (.int .u32 0),.pl (.int .u32 0)],.box (wv w),.box (s8v (rounds w h i))]) ?_ ?_ rfl rfl
   · intro i hi J hJ;have hd:decide ((i:Int)<64)=true:=decide_eq_true (by omega)
     generalize hs:rounds w h i=s;have hw:rounds w h (i+1)=rnd (kW i) (gW w i) (rounds w h i):=rfl;rw[hw,hs]at hJ;have l0:((0:Int)<((8:Nat):Int))=True:=eq_true (by decide)
     have n0:Int.toNat 0=0:=rfl;have l1:((1:Int)<((8:Nat):Int))=True:=eq_true (by decide)
     have n1:Int.toNat 1=1:=rfl;have l2:((2:Int)<((8:Nat):Int))=True:=eq_true (by decide)
     have n2:Int.toNat 2=2:=rfl;have l3:((3:Int)<((8:Nat):Int))=True:=eq_true (by decide)
     have n3:Int.toNat 3=3:=rfl;have l4:((4:Int)<((8:Nat):Int))=True:=eq_true (by decide)
     have n4:Int.toNat 4=4:=rfl;have l5:((5:Int)<((8:Nat):Int))=True:=eq_true (by decide)
     have n5:Int.toNat 5=5:=rfl;have l6:((6:Int)<((8:Nat):Int))=True:=eq_true (by decide)
     have n6:Int.toNat 6=6:=rfl;have l7:((7:Int)<((8:Nat):Int))=True:=eq_true (by decide)
     have n7:Int.toNat 7=7:=rfl;have q6:∀(A:BitVec 32) s,Ans Tryz.prog 100 [V32 A,.pl (.int .u64 6)] s (V32 (ror A 6)) s:=fun A s=>turned_ans s A 6 (by decide) (by decide)
     have q11:∀(A:BitVec 32) s,Ans Tryz.prog 100 [V32 A,.pl (.int .u64 11)] s (V32 (ror A 11)) s:=fun A s=>turned_ans s A 11 (by decide) (by decide)
     have q25:∀(A:BitVec 32) s,Ans Tryz.prog 100 [V32 A,.pl (.int .u64 25)] s (V32 (ror A 25)) s:=fun A s=>turned_ans s A 25 (by decide) (by decide)
     have q2:∀(A:BitVec 32) s,Ans Tryz.prog 100 [V32 A,.pl (.int .u64 2)] s (V32 (ror A 2)) s:=fun A s=>turned_ans s A 2 (by decide) (by decide)
     have q13:∀(A:BitVec 32) s,Ans Tryz.prog 100 [V32 A,.pl (.int .u64 13)] s (V32 (ror A 13)) s:=fun A s=>turned_ans s A 13 (by decide) (by decide)
     have q22:∀(A:BitVec 32) s,Ans Tryz.prog 100 [V32 A,.pl (.int .u64 22)] s (V32 (ror A 22)) s:=fun A s=>turned_ans s A 22 (by decide) (by decide)
     have hm:(if IntKind.u32.signed=true then(-1:Int) else IntKind.u32.max)=4294967295:=rfl
     have hK:=fun ex=>hG ex
     have hkv:=z8e hi;have l64:((i:Int)<((64:Nat):Int))=True:=eq_true (by omega)
     have p0:((0:Int)≤(i:Int))=True:=eq_true (Int.natCast_nonneg _);have hwi:(List.drop i (wv w)).head?=some (V32 (gW w i)):=by rw[List.head?_drop,z2v (by omega)]
     have wi:IntKind.i64.wrap ((i:Int)+1)=((i+1:Nat):Int):=by rw[←z0l (n:=i+1) (by omega)];congr 1
     unfold s8v;simp -implicitDefEqProofs only[mkE,go_sem,hd,G1,S1,G2,S2,l0,l1,l2,l3,l4,l5,l6,l7,n0,n1,n2,n3,n4,n5,n6,n7,Nat.mul_one,List.drop_succ_cons,List.drop_zero,List.head?_cons];refine CD.intro (q6 _ _) ?_;simp -implicitDefEqProofs only[go_sem];refine CD.intro (q11 _ _) ?_;simp -implicitDefEqProofs only[go_sem,V_xor];refine CD.intro (q25 _ _) ?_;simp -implicitDefEqProofs only[go_sem,V_xor,V_and,hm,V_not,V_add,G1,S1,G2,S2,l0,l1,l2,l3,l4,l5,l6,l7,n0,n1,n2,n3,n4,n5,n6,n7,Nat.mul_one,List.drop_succ_cons,List.drop_zero,List.head?_cons,l64,p0,hwi,hK,hkv,Int.toNat_natCast];refine CD.intro (q2 _ _) ?_;simp -implicitDefEqProofs only[go_sem];refine CD.intro (q13 _ _) ?_;simp -implicitDefEqProofs only[go_sem,V_xor];refine CD.intro (q22 _ _) ?_;simp -implicitDefEqProofs only[go_sem,V_xor,V_and,hm,V_not,V_add,G1,S1,G2,S2,l0,l1,l2,l3,l4,l5,l6,l7,n0,n1,n2,n3,n4,n5,n6,n7,Nat.mul_one,List.drop_succ_cons,List.drop_zero,List.head?_cons,l64,p0,wi,Int.toNat_natCast];unfold rnd t1W t2W s8v at hJ;exact hJ
   · intro J1;have hd1:decide (((64:Nat):Int)<64)=false:=rfl;generalize rounds w h 64=x;have hx8:s8v x=wv (addTo h.l x.l 0):=rfl;simp -implicitDefEqProofs only[mkE,go_sem,hd1];rw[hx8];refine Go.Ab.L.count 8 (fun j=>mkE 189 [(2,.rp (s8v h)),(4,.ptr σ.length 0),(11,.ptr (σ.length+2) 0),(17,I j)]) (fun j=>σ++[.box [.pl (.int .u32 0),.pl (.int .u32 0),.pl (.int .u32 0),.pl (.int .u32 0),.pl (.int .u32 0),.pl (.int .u32 0),.pl (.int .u32 0),.pl (.int .u32 0)],.box (wv w),.box (wv (addTo h.l x.l j))]) ?_ ?_ rfl rfl
     · intro j hj J hJ;have hd:decide ((j:Int)<8)=true:=decide_eq_true (by omega)
       have l8:((j:Int)<((8:Nat):Int))=True:=eq_true (by omega)
       have p0:((0:Int)≤(j:Int))=True:=eq_true (Int.natCast_nonneg _);have w1:=z1M h.l x.l rfl j;have h1:(List.drop j (wv (addTo h.l x.l j))).head?=some (V32 (gW (addTo h.l x.l j) j)):=by rw[List.head?_drop,z2v (by omega)]
       have h2:(List.drop j (wv h.l)).head?=some (V32 (gW h.l j)):=by rw[List.head?_drop,z2v (by show j<8;exact hj)]
       have li:(j≤7)=True:=eq_true (by omega)
       have hp:=fun y=>z5n (w:=addTo h.l x.l j) (i:=j) (by omega) y
       have wi:IntKind.i64.wrap ((j:Int)+1)=((j+1:Nat):Int):=by rw[←z0l (n:=j+1) (by omega)];congr 1
       have hw:addTo h.l x.l (j+1)=(addTo h.l x.l j).set j (gW (addTo h.l x.l j) j+gW h.l j):=rfl;rw[hw]at hJ;rw[hh8]at hJ⊢;simp -implicitDefEqProofs only[mkE,go_sem,hd,l8,p0,G1,S1,G2,S2,w1,z13,h1,h2,Nat.mul_one,Int.toNat_natCast,V_add,li,hp,wi];exact hJ
     · intro J;have hd:decide (((8:Nat):Int)<8)=false:=rfl;have w1:=z1M h.l x.l rfl 8;have a1:=z5m (addTo h.l x.l 8);have k1:=z6e w1;have ab:=z6L σ.length (addTo h.l x.l 8);simp -implicitDefEqProofs only[mkE,go_sem,hd,G0,S0,G1,S1,G2,S2,w1,z13,a1,k1,List.append_nil,List.drop_succ_cons,List.drop_zero,List.drop_nil];exact Fini.trim2 (σ':=σ) (ex:=[_,_,_]) (by simp -implicitDefEqProofs only[go_sem,resA,z03,rvA,oneOf,G0,w1,z13,k1]<;>rfl) rfl (Nat.le_refl _) ab hbel
end
def zer64:List UInt8:=List.replicate 64 0
def blk (p:List UInt8) (i:Nat):List UInt8:=(p.drop (64*i)).take 64
def leftB (p:List UInt8) (i:Nat):St:=(List.range i).map fun k=>.box (bv (blk p k))
theorem z5J (p:List UInt8) (i:Nat):(leftB p i).length=i:=by simp[leftB]
theorem z7K (p:List UInt8) (i:Nat):leftB p i++[.box (bv (blk p i))]=leftB p (i+1):=by unfold leftB;rw[List.range_succ,List.map_append];rfl
section
variable (σ:St)
theorem GN (A B x:Ob) (L ex:St) (n:Nat) (h:L.length=n):(σ++A::B::(L++x::ex))[σ.length+(n+1+1)]?=some x:=by
 rw[List.getElem?_append_right (by omega),show σ.length+(n+1+1)-σ.length=n+2 by omega,List.getElem?_cons_succ,List.getElem?_cons_succ,List.getElem?_append_right (by omega),show n-L.length=0 by omega]
 rfl
theorem SN (A B x y:Ob) (L ex:St) (n:Nat) (h:L.length=n):(σ++A::B::(L++x::ex)).set (σ.length+(n+1+1)) y=σ++A::B::(L++y::ex):=by
 rw[List.set_append_right _ _ (by omega),show σ.length+(n+1+1)-σ.length=n+2 by omega,List.set_cons_succ,List.set_cons_succ,List.set_append_right _ _ (by omega),show n-L.length=0 by omega]
 rfl
set_option maxHeartbeats 4000000 in
theorem z7b (b:List UInt8) (hb:b.length≤100000) (hG:∀ex,gloA (σ++ex) 1=some kV):Ans Tryz.prog 42 [.sl 1 (bv b)] σ (.agg (bv (shaB b))) σ:=by
 have hp:=fun s=>z9S s b hb
 have hf:=fun s=>z8R s
 have h64:=z6O b
 have hple:(padB b).length≤200000:=by
  have:=z2C b.length;unfold padB;simp only[List.length_append,List.length_cons,List.length_replicate,wrdB_len];omega
 unfold shaB;have hpl:(padB b).length=64*((padB b).length/64):=by omega
 generalize padB b=p at hp h64 hpl hple;generalize hn:p.length/64=n at hpl;have hr:=fun ex h bl (hbl:bl.length=64)=>z7J (σ++ex) h bl hbl (fun ex2=>by rw[List.append_assoc];exact hG _)
 have hzz:([.pl (.int .u8 0),.pl (.int .u8 0),.pl (.int .u8 0),.pl (.int .u8 0),.pl (.int .u8 0),.pl (.int .u8 0),.pl (.int .u8 0),.pl (.int .u8 0),.pl (.int .u8 0),.pl (.int .u8 0),.pl (.int .u8 0),.pl (.int .u8 0),.pl (.int .u8 0),.pl (.int .u8 0),.pl (.int .u8 0),.pl (.int .u8 0),.pl (.int .u8 0),.pl (.int .u8 0),.pl (.int .u8 0),.pl (.int .u8 0),.pl (.int .u8 0),.pl (.int .u8 0),.pl (.int .u8 0),.pl (.int .u8 0),.pl (.int .u8 0),.pl (.int .u8 0),.pl (.int .u8 0),.pl (.int .u8 0),.pl (.int .u8 0),.pl (.int .u8 0),.pl (.int .u8 0),.pl (.int .u8 0)]:List AV)=bv zer32:=rfl;refine Ans.of_run' t42 (fun hbel _=>?_)
 simp -implicitDefEqProofs only[c42,r42,go_sem,List.append_assoc,List.cons_append,List.nil_append,List.length_append,List.length_cons,List.length_nil,G0,S0,G1,S1];refine CO.intro (hp _) ?_;simp -implicitDefEqProofs only[go_sem];refine CO.intro (hf _) ?_;simp -implicitDefEqProofs only[go_sem,List.append_assoc,List.cons_append,List.nil_append,List.length_append,List.length_cons,List.length_nil,G0,S0,G1,S1,z3g,z4Q,List.drop_succ_cons,List.drop_zero,List.drop_nil,List.append_nil];refine Go.Ab.L.count n (fun i=>mkE 47 [(2,.ptr σ.length 0),(3,.sl 1 (bv p)),(4,.ptr (σ.length+1) 0),(5,I ((64*i:Nat):Int))]) (fun i=>σ++(.box (bv zer32)::.box (s8v (z1z p i))::leftB p i)) ?_ ?_ rfl rfl
 · intro i hi J hJ;have a1:IntKind.i64.wrap (((64*i:Nat):Int)+64)=((64*(i+1):Nat):Int):=by simp only[IntKind.wrap,IntKind.bits,IntKind.signed];simp;omega
   have hlb:=z0h p;have hd:decide (((64*(i+1):Nat):Int)≤(p.length:Nat))=true:=decide_eq_true (by omega)
   have hll:=z5J p i;have hbl:(blk p i).length=64:=by unfold blk;rw[List.length_take,List.length_drop];omega
   have hbv:=z0h (blk p i);have hall:=z1q (blk p i);have hdt:List.drop (64*i) (List.take (64*(i+1)) (bv p))=bv (blk p i):=by rw[List.drop_take,z8k,z8j];unfold blk;congr 2;omega
   have hle:(((64*i:Nat):Int)≤((64*(i+1):Nat):Int)∧((64*(i+1):Nat):Int)≤(p.length:Nat))=True:=eq_true ⟨by omega,by omega⟩
   have p0:∀n:Nat,((0:Int)≤(n:Int))=True:=fun n=>eq_true (Int.natCast_nonneg _)
   have hz64:([.pl (.int .u8 0),.pl (.int .u8 0),.pl (.int .u8 0),.pl (.int .u8 0),.pl (.int .u8 0),.pl (.int .u8 0),.pl (.int .u8 0),.pl (.int .u8 0),.pl (.int .u8 0),.pl (.int .u8 0),.pl (.int .u8 0),.pl (.int .u8 0),.pl (.int .u8 0),.pl (.int .u8 0),.pl (.int .u8 0),.pl (.int .u8 0),.pl (.int .u8 0),.pl (.int .u8 0),.pl (.int .u8 0),.pl (.int .u8 0),.pl (.int .u8 0),.pl (.int .u8 0),.pl (.int .u8 0),.pl (.int .u8 0),.pl (.int .u8 0),.pl (.int .u8 0),.pl (.int .u8 0),.pl (.int .u8 0),.pl (.int .u8 0),.pl (.int .u8 0),.pl (.int .u8 0),.pl (.int .u8 0),.pl (.int .u8 0),.pl (.int .u8 0),.pl (.int .u8 0),.pl (.int .u8 0),.pl (.int .u8 0),.pl (.int .u8 0),.pl (.int .u8 0),.pl (.int .u8 0),.pl (.int .u8 0),.pl (.int .u8 0),.pl (.int .u8 0),.pl (.int .u8 0),.pl (.int .u8 0),.pl (.int .u8 0),.pl (.int .u8 0),.pl (.int .u8 0),.pl (.int .u8 0),.pl (.int .u8 0),.pl (.int .u8 0),.pl (.int .u8 0),.pl (.int .u8 0),.pl (.int .u8 0),.pl (.int .u8 0),.pl (.int .u8 0),.pl (.int .u8 0),.pl (.int .u8 0),.pl (.int .u8 0),.pl (.int .u8 0),.pl (.int .u8 0),.pl (.int .u8 0),.pl (.int .u8 0),.pl (.int .u8 0)]:List AV)=bv zer64:=rfl;have hzl:(bv zer64).length=64:=rfl;have hz1:List.take 0 (bv zer64)=[]:=rfl;have hz2:List.drop 64 (bv zer64)=[]:=rfl;have tk2:List.take 64 (bv (blk p i))=bv (blk p i):=List.take_of_length_le (by rw[hbv,hbl];exact Nat.le_refl _)
   have hmin:Nat.min 64 64=64:=rfl;have gn:=fun A B x L ex h=>GN σ A B x L ex i h
   have sn:=fun A B x y L ex h=>SN σ A B x y L ex i h
   have hst:z1z p (i+1)=toS (z2P (z1z p i) (blk p i)):=rfl;have hre:=fun ex=>hr ex (z1z p i) _ hbl
   have t8:=toS_l (z4n (z1z p i) (blk p i));rw[t8]at hre;rw[hst,←z7K]at hJ;simp -implicitDefEqProofs only[mkE,go_sem,a1,hlb,hd,List.append_assoc,List.cons_append,List.nil_append,List.length_append,List.length_cons,List.length_nil,hll];rw[hz64];simp -implicitDefEqProofs only[go_sem,hzl,hll,gn,sn,hdt,hle,p0,Int.toNat_natCast,hbv,hbl,hall,z19,tk2,hmin,hz1,hz2,List.append_nil,List.nil_append,G1,S1,z3g,z2Q];refine CO.intro (hre _) ?_;simp -implicitDefEqProofs only[go_sem,a1,G1,S1,z3g,z2Q,z4Q,z6Q,List.append_nil];exact hJ
 · intro J0;have a1:IntKind.i64.wrap (((64*n:Nat):Int)+64)=((64*n+64:Nat):Int):=by simp only[IntKind.wrap,IntKind.bits,IntKind.signed];simp;omega
   have hlb:=z0h p;have hd0:decide (((64*n+64:Nat):Int)≤(p.length:Nat))=false:=decide_eq_false (by omega)
   have hll:=z5J p n;have gn:=fun A B x L ex h=>GN σ A B x L ex n h
   have sn:=fun A B x y L ex h=>SN σ A B x y L ex n h
   generalize z1z p n=H;simp -implicitDefEqProofs only[mkE,go_sem,a1,hlb,hd0,List.append_assoc,List.cons_append,List.nil_append,List.length_append,List.length_cons,List.length_nil,hll];refine Go.Ab.L.count 32 (fun i=>mkE 47 [(2,.ptr σ.length 0),(4,.ptr (σ.length+1) 0),(7,.ptr (σ.length+(n+1+1)) 0),(8,I i)]) (fun i=>σ++(.box (bv zer32)::.box (s8v H)::(leftB p n++[.box (bv (outTo H i))]))) ?_ ?_ rfl rfl
   · intro i hi J hJ;have hd:decide ((i:Int)<32)=true:=decide_eq_true (by omega)
     have q1:((i:Int)).tdiv 4=((i/4:Nat):Int):=rfl;have q2:((i:Int)).tmod 4=((i%4:Nat):Int):=rfl;have q3:IntKind.i64.wrap (8*((i%4:Nat):Int))=((8*(i%4):Nat):Int):=by rw[←z0l (n:=8*(i%4)) (by omega)];congr 1
     have q4:IntKind.i64.wrap (24-((8*(i%4):Nat):Int))=((24-8*(i%4):Nat):Int):=by rw[←z0l (n:=24-8*(i%4)) (by omega)];congr 1;omega
     have q5:IntKind.i64.wrap ((i/4:Nat):Int)=((i/4:Nat):Int):=z0l (by omega)
     have q6:IntKind.u64.wrap ((24-8*(i%4):Nat):Int)=((24-8*(i%4):Nat):Int):=by simp only[IntKind.wrap,IntKind.bits,IntKind.signed];simp;omega
     have p0:∀n:Nat,((0:Int)≤(n:Int))=True:=fun n=>eq_true (Int.natCast_nonneg _)
     have l8:(((i/4:Nat):Int)<((8:Nat):Int))=True:=eq_true (by omega)
     have l32:((i:Int)<((32:Nat):Int))=True:=eq_true (by omega)
     have hh:(List.drop (i/4) (s8v H)).head?=some (V32 (gW H.l (i/4))):=by rw[show s8v H=wv H.l from rfl,List.head?_drop,z2v (by show i/4<8;omega)]
     have v1:=V_shr (gW H.l (i/4)) (24-8*(i%4)) (by omega)
     have v2:=z6K (gW H.l (i/4) >>> (24-8*(i%4)));have wi:IntKind.i64.wrap ((i:Int)+1)=((i+1:Nat):Int):=by rw[←z0l (n:=i+1) (by omega)];congr 1
     have w1:=z1O H i;have w2:=z0h (outTo H i);have li:(i≤31)=True:=eq_true (by omega)
     have hp:=zam (b:=outTo H i) (i:=i) (by omega)
     have hw:outTo H (i+1)=(outTo H i).set i (byteS H i):=rfl;rw[hw]at hJ;unfold byteS at hJ;simp -implicitDefEqProofs only[mkE,go_sem,hd,q1,q2,q3,q4,q5,q6,p0,l8,l32,hh,v1,v2,wi,w1,w2,li,hp,hll,gn,sn,G1,S1,Nat.mul_one,Int.toNat_natCast];exact hJ
   · intro J;have hd:decide (((32:Nat):Int)<32)=false:=rfl;have w1:=z1O H 32;have w2:=z0h (outTo H 32);have w3:(bv zer32).length=32:=rfl;have a1:=z1q (outTo H 32);have k1:List.take 32 (bv (outTo H 32))=bv (outTo H 32):=List.take_of_length_le (by rw[w2,w1];exact Nat.le_refl _)
     have k2:List.drop 32 (bv zer32)=[]:=rfl;simp -implicitDefEqProofs only[mkE,go_sem,hd,G0,S0,G1,S1,hll,gn,sn,w1,w2,w3,a1,k1,k2,List.append_nil];exact Fini.trim2 (σ':=σ) (by simp -implicitDefEqProofs only[go_sem,resA,z03,rvA,oneOf,G0,w1,w2,k1]<;>rfl) rfl (Nat.le_refl _) (z6f _ _) hbel
end
end Go.Proofs.YteakobbdgehlgaaGreatDoor.Sha
