/- Bands and rules as bytes: readers and writers. No condition. -/
import Derived.Test.YtmkmhhjkdaklbaaVXMr2
import Derived.Test.YtmkmhhjkdaklbaaVXPPar5
import Derived.Test.YtmkmhhjkdaklbaaVXVi1
import Derived.Test.YtmkmhhjkdaklbaaAbArg
import Derived.Test.YtmkmhhjkdaklbaaRows
import Derived.Test.YtmkmhhjkdaklbaaAbTree
set_option linter.unusedSimpArgs false
set_option linter.unusedVariables false
set_option linter.unusedSectionVars false
namespace Go.Proofs.Ytmkmhhjkdaklbaa
open Go Go.Ab Go.Cod
set_option maxRecDepth 100000
def okV (u:Nat):Bool:=decide (bitsF u=u)
def valR:Rd Nat:=onlyR wordR okV
def putV (u:Nat):Byt:=wrdB (bitsF u)
theorem val_fits:Fits valR putV (fun u=>u<2^64∧bitsF u=u):=by
 have h:=z21 z81 okV;refine⟨fun a t ho=>?_,fun b a t hr=>?_⟩
 · have:=h.fwd a t ⟨ho.1,by unfold okV;exact decide_eq_true ho.2⟩
   unfold putV;rw[ho.2];exact this
 · obtain⟨⟨h1,h2⟩,h3⟩:=h.bwd b a t hr;have h2:bitsF a=a:=by unfold okV at h2;exact of_decide_eq_true h2
   exact⟨⟨h1,h2⟩,by unfold putV;rw[h2];exact h3⟩
theorem z4V:EndsR valR:=val_fits.ends
abbrev Bnd:=Bool×Nat×Nat
def bnd0:Rd Bnd
 |[]=>none
 |c::t=>if c=0 then(seqR valR valR t).map (fun p=>((false,p.1.1,p.1.2),p.2)) else if c=1 then some ((true,0,0),t) else none
def bandR:Rd Bnd:=onlyR bnd0 (fun x=>mayB x.1 x.2.1 x.2.2)
def putBd (x:Bnd):Byt:=if x.1 then[1] else 0::(putV x.2.1++putV x.2.2)
def bndOk (x:Bnd):Prop:=if x.1 then x.2.1=0∧x.2.2=0 else(x.2.1<2^64∧bitsF x.2.1=x.2.1)∧(x.2.2<2^64∧bitsF x.2.2=x.2.2)
theorem z8p:Fits bnd0 putBd bndOk where
 fwd x t h:=by
  obtain⟨any,lo,hi⟩:=x
  cases any with
  |true =>
   obtain⟨rfl,rfl⟩:lo=0∧hi=0:=h;rfl
  |false =>
   have h:(lo<2^64∧bitsF lo=lo)∧(hi<2^64∧bitsF hi=hi):=h;have h2:=(z0q val_fits val_fits).fwd (lo,hi) t h;simp only at h2;simp only[putBd,Bool.false_eq_true,if_false,bnd0,List.cons_append,if_true,h2,Option.map_some]
 bwd b x t hr:=by
  cases b with
  |nil=>cases hr
  |cons c u =>
   simp only[bnd0]at hr;split at hr
   · rename_i hc
     cases h1:seqR valR valR u with
     |none=>simp[h1]at hr
     |some p =>
      simp only[h1,Option.map_some,Option.some.injEq,Prod.mk.injEq]at hr;obtain⟨rfl,rfl⟩:=hr;obtain⟨h2,h3⟩:=(z0q val_fits val_fits).bwd _ _ _ h1;refine⟨h2,?_⟩;rw[h3,hc];rfl
   · split at hr
     · rename_i hc;simp only[Option.some.injEq,Prod.mk.injEq]at hr;obtain⟨rfl,rfl⟩:=hr;exact⟨⟨rfl,rfl⟩,by rw[hc];rfl⟩
     · cases hr
def bMay (x:Bnd):Bool:=mayB x.1 x.2.1 x.2.2
def bSz (x:Bnd):Prop:=x.2.1<2^64∧x.2.2<2^64
theorem z7s {a b:Nat} (h:leF a b=true):nanF a=false∧nanF b=false:=by
 unfold leF Ieee.Format.order at h;unfold nanF Ieee.Format.order;generalize FloatKind.f64.format.read a=x at *;generalize FloatKind.f64.format.read b=y at *
 cases x with
 |nan s m=>simp[Ieee.Datum.order]at h
 |infinity s =>
  cases y with
  |nan t n=>simp[Ieee.Datum.order]at h
  |infinity t=>cases s<;>cases t<;>simp[Ieee.Datum.order]at h⊢
  |number t n j=>cases s<;>simp[Ieee.Datum.order]at h⊢
 |number s m i =>
  cases y with
  |nan t n=>simp[Ieee.Datum.order]at h
  |infinity t=>cases t<;>simp[Ieee.Datum.order]at h⊢
  |number t n j=>simp[Ieee.Datum.order]
theorem z5y {a:Nat} (h:nanF a=false):bitsF a=a:=by unfold bitsF;rw[h];rfl
theorem z3k {a:Nat} (h:bitsF a=0):a=0:=by
 unfold bitsF at h;split at h
 · cases h
 · exact h
theorem zbp {x:Bnd} (h:bMay x=true) (w:bSz x):bndOk x:=by
 obtain⟨any,lo,hi⟩:=x;unfold bMay mayB at h
 cases any with
 |true =>
  simp only[if_true,Bool.and_eq_true,beq_iff_eq]at h;exact⟨z3k (Int.ofNat.inj h.1),z3k (Int.ofNat.inj h.2)⟩
 |false =>
  obtain⟨h1,h2⟩:=z7s h;exact⟨⟨w.1,z5y h1⟩,⟨w.2,z5y h2⟩⟩
theorem ok_sz {x:Bnd} (h:bndOk x):bSz x:=by
 obtain⟨any,lo,hi⟩:=x
 cases any with
 |true =>
  obtain⟨rfl,rfl⟩:lo=0∧hi=0:=h;exact⟨by decide,by decide⟩
 |false =>
  have h:(lo<2^64∧bitsF lo=lo)∧(hi<2^64∧bitsF hi=hi):=h;exact⟨h.1.1,h.2.1⟩
theorem band_fits:Fits bandR putBd (fun x=>bMay x=true∧bSz x) :=
 (z21 z8p bMay).weaken fun x=>⟨fun h=>⟨h.2,ok_sz h.1⟩,fun h=>⟨zbp h.1 h.2,h.1⟩⟩
theorem ends_band:EndsR bandR:=band_fits.ends
def mkRu (x:List Mtr×List Mtr×Bnd×List ByteArray):RuM:=⟨x.1,x.2.1,x.2.2.1.1,x.2.2.1.2.1,x.2.2.1.2.2,x.2.2.2⟩
def ruR0:Rd RuM:=z0Y (seqR listR (seqR listR (seqR bandR (rowR 4 (textR 12))))) mkRu
def ruR:Rd RuM:=onlyR ruR0 ruIs
def putR (r:RuM):Byt:=putL r.src++(putL r.tgt++(putBd (r.any,r.lo,r.hi)++z1F txtB r.eq))
def ruSz (r:RuM):Prop:=r.lo<2^64∧r.hi<2^64
theorem z9x:Fits ruR0 putR (fun r=>listB r.src=true∧listB r.tgt=true∧(mayB r.any r.lo r.hi=true∧ruSz r)∧(r.eq.length≤4∧∀a∈r.eq,a.size≤12)) :=
 dress_fits (z0q z25 (z0q z25 (z0q band_fits (z4J (by decide) (z1t (by decide)))))) (g:=fun r=>(r.src,r.tgt,(r.any,r.lo,r.hi),r.eq))
  (fun _ h=>⟨h,rfl⟩) (fun _ h=>⟨h,rfl⟩)
theorem z4x {s:ByteArray} (h:nameB s=true):s.size≤12:=by
 unfold nameB at h;simp only[Bool.and_eq_true,decide_eq_true_eq]at h;exact h.1.1.2
theorem zbq {e:List ByteArray} (h:eqB e=true):e.length≤4∧∀a∈e,a.size≤12:=by
 unfold eqB at h;simp only[Bool.and_eq_true,decide_eq_true_eq]at h;refine⟨h.1,fun a ha=>?_⟩
 obtain⟨i,hi,rfl⟩:=List.getElem_of_mem ha;have h2:=List.all_eq_true.1 h.2 i (List.mem_range.2 hi);unfold eqOk at h2;simp only[Bool.and_eq_true]at h2;have e2:e.getD i ⟨#[]⟩=e[i]:=by rw[List.getD_eq_getElem?_getD,List.getElem?_eq_getElem hi];rfl
 rw[e2]at h2;exact z4x h2.1
theorem z1O {r:RuM} (h:ruIs r=true):listB r.src=true∧listB r.tgt=true∧mayB r.any r.lo r.hi=true∧(r.eq.length≤4∧∀a∈r.eq,a.size≤12):=by
 unfold ruIs at h;simp only[Bool.and_eq_true]at h;exact⟨h.2.2.1,h.2.2.2.1,h.2.2.2.2.1,zbq h.2.2.2.2.2⟩
theorem ru_fits:Fits ruR putR (fun r=>ruIs r=true∧ruSz r) :=
 (z21 z9x ruIs).weaken fun r=>⟨fun h=>⟨h.2,h.1.2.2.1.2⟩,fun h=>⟨⟨(z1O h.1).1,(z1O h.1).2.1,⟨(z1O h.1).2.2.1,h.2⟩,(z1O h.1).2.2.2⟩,h.1⟩⟩
theorem ends_ru:EndsR ruR:=ru_fits.ends
theorem z8q {α:Type} {b:Byt} {rd:Rd α} {st st':Nat×Bool→α×(Nat×Bool)} (h:StepsR b rd st) (h2:∀q,(st' q).2=(st q).2) (h3:∀q,(st q).2.2=false→st' q=st q):StepsR b rd st' where
 some_ a x t ha hr:=by
  have:=h.some_ a x t ha hr;rw[h3 _ (by rw[this]),this]
 none_ a ha hr:=by rw[h2];exact h.none_ a ha hr
 bad a:=by rw[h2];exact h.bad a
 inb q hq:=by rw[h2];exact h.inb q hq
def valS (b:Byt) (q:Nat×Bool):Nat×(Nat×Bool):=(if okV (runR wordR 0 b q).1 then(runR wordR 0 b q).1 else 0,took (runR wordR 0 b q).2 0 (okV (runR wordR 0 b q).1))
theorem z0h (b:Byt):StepsR b valR (valS b):=by
 refine z8q (z0u (z0a b wordR 0) okV) (fun q=>rfl) fun q h=>?_
 unfold z0i took at h;unfold valS z0i;simp only at h⊢
 cases ho:okV (runR wordR 0 b q).1 with
 |true=>rfl
 |false=>rw[ho]at h;simp at h
def bnd0S (b:Byt) (q:Nat×Bool):Bnd×(Nat×Bool) :=
 if(runR byteR 0 b q).1=0 then((false,(valS b (runR byteR 0 b q).2).1,(valS b (valS b (runR byteR 0 b q).2).2).1),(valS b (valS b (runR byteR 0 b q).2).2).2)
 else if(runR byteR 0 b q).1=1 then((true,0,0),(runR byteR 0 b q).2) else((false,0,0),took (runR byteR 0 b q).2 0 false)
theorem z7t (b:Byt):StepsR b bnd0 (bnd0S b) where
 some_ a x t ha hr:=by
  cases hd:b.drop a with
  |nil=>rw[hd]at hr;cases hr
  |cons c u =>
   have h1:byteR (b.drop a)=some (c,u):=by rw[hd];rfl
   obtain⟨e1,e2,e3⟩:=ends_byte.drop ha h1;rw[hd]at hr;simp only[bnd0]at hr;unfold bnd0S;simp only[z0o h1];split at hr
   · rename_i hc;rw[if_pos hc]
     cases h2:seqR valR valR u with
     |none=>simp[h2]at hr
     |some p =>
      simp only[h2,Option.map_some,Option.some.injEq,Prod.mk.injEq]at hr;obtain⟨rfl,rfl⟩:=hr;have:=(z0g (z0h b) (z0h b) z4V).some_ (b.length-u.length) p.1 p.2 (by omega) (by rw[e1];exact h2)
      unfold seqSt at this;simp only[Prod.ext_iff]at this⊢;simp only[this,and_self]
   · rename_i hc;rw[if_neg hc];split at hr
     · rename_i hc;rw[if_pos hc];simp only[Option.some.injEq,Prod.mk.injEq]at hr;obtain⟨rfl,rfl⟩:=hr;rfl
     · cases hr
 none_ a ha hr:=by
  cases hd:b.drop a with
  |nil =>
   have h1:byteR (b.drop a)=none:=by rw[hd];rfl
   unfold bnd0S;simp only[z0F h1,if_true];exact z28 (z0h b).bad _ ((z0h b).bad a)
  |cons c u =>
   have h1:byteR (b.drop a)=some (c,u):=by rw[hd];rfl
   obtain⟨e1,e2,e3⟩:=ends_byte.drop ha h1;rw[hd]at hr;simp only[bnd0]at hr;unfold bnd0S;simp only[z0o h1];split at hr
   · rename_i hc;rw[if_pos hc]
     cases h2:seqR valR valR u with
     |some p=>simp[h2]at hr
     |none =>
      exact(z0g (z0h b) (z0h b) z4V).none_ (b.length-u.length) (by omega) (by rw[e1];exact h2)
   · rename_i hc;rw[if_neg hc];split at hr
     · cases hr
     · rename_i hc;rw[if_neg hc];rfl
 bad a:=by
  unfold bnd0S;simp only[z0j,if_true];exact z28 (z0h b).bad _ ((z0h b).bad a)
 inb q hq:=by
  have h1:=z08 byteR 0 b q hq;unfold bnd0S;split
  · exact(z0h b).inb _ ((z0h b).inb _ h1)
  · split
    · exact h1
    · exact z0J b _ _ h1
def bandS (b:Byt):Nat×Bool→Bnd×(Nat×Bool):=z0i (bnd0S b) bMay
theorem z7u (b:Byt):StepsR b bandR (bandS b):=z0u (z7t b) _
def ruS (b:Byt):Nat×Bool→RuM×(Nat×Bool) :=
 z0i (z19 (seqSt (runR listR [] b) (seqSt (runR listR [] b) (seqSt (runR bandR (false,0,0) b) (rowSt 4 b (runR (textR 12) ⟨#[]⟩ b))))) mkRu) ruIs
theorem z9y (b:Byt):StepsR b ruR (ruS b) :=
 z0u (z0p (z0g (z0a b listR []) (z0g (z0a b listR []) (z0g (z0a b bandR _) (z3T (z0a b (textR 12) _) (z1v 12) 4) ends_band) ends_list) ends_list) mkRu) ruIs
end Go.Proofs.Ytmkmhhjkdaklbaa
namespace Go.Ab
open Go
section
variable {P:Program} {f:FuncId} {args:List AV} {σ:St}
theorem Ans.shutAt {sz n l:Nat} {xs:List AV} {ex:St} (h:Ans P f args σ (.osl l n) (σ++ex)) (hl:σ.length≤l) (hget:(σ++ex)[l]?=some (.row sz xs)) (hn:n=xs.length) (hb:Bel σ.length (.sl sz xs)):Ans P f args σ (.sl sz xs) σ:=by
 intro M ν w vs g hvs
 have hs:sealV (σ++ex) (.osl l n)=some (.sl sz xs,(σ++ex).set l .dead):=by
  simp only[sealV,hget,hn,if_true]
 have ht:((σ++ex).set l .dead).take σ.length=σ:=by
  rw[List.set_append_right _ _ hl,List.take_left]
 have key:∀v w',After M σ ν w (.osl l n) (σ++ex) v w'→After M σ ν w (.sl sz xs) σ v w':=by
  rintro v w' ⟨M',ν',g',l',r1⟩;obtain⟨M2,g2,l2,r2⟩:=z2V g' hs r1;have hbo:∀o∈((σ++ex).set l .dead).take σ.length,BelO σ.length o:=by rw[ht];exact g.bel
  have g3:=g2.take hbo;have l3:=(l'.trans l2).take (m:=σ.length) (Nat.le_refl _);have r3:=r2.take hb;rw[ht]at g3 l3 r3;exact⟨M2,ν',g3,l3,r3⟩
 rcases h M ν w vs g hvs with⟨h1,h2⟩|⟨v,w',h1,h2⟩
 · exact .inl ⟨h1,h2.mono fun e w' ⟨v,he,h3⟩=>⟨v,he,key v w' h3⟩⟩
 · exact .inr ⟨v,w',h1,key v w' h2⟩
end
end Go.Ab
namespace Go.Proofs.Ytmkmhhjkdaklbaa
open Go Go.Ab Go.Cod
set_option maxRecDepth 100000
abbrev Zb:AV:=.pl (.int .u8 0)
abbrev bsv (bs:List Byt):List AV:=bs.map fun b=>.sl 1 (byv b)
theorem z3l (bs:List Byt):(bsv bs).length=bs.length:=List.length_map ..
theorem z8r (bs:List Byt) (i:Nat) (h:i<bs.length):(bsv bs)[i]?=some (.sl 1 (byv bs[i])):=by simp[h]
theorem z5z (bs:List Byt) (i:Nat) (h:i<bs.length):(bs.take (i+1)).flatten=(bs.take i).flatten++bs[i]:=by
 rw[List.take_succ_eq_append_getElem h,List.flatten_append];simp
theorem z8s (bs:List Byt) (i:Nat):((bs.take i).flatten).length≤bs.flatten.length:=by
 have:bs.flatten=(bs.take i).flatten++(bs.drop i).flatten:=by rw[←List.flatten_append,List.take_append_drop]
 rw[this,List.length_append];omega
section
variable (σ:St)
theorem z9z (n:Nat) (h:0<n) (hn:n≤1000000):Ans Try.prog 46 [.nils,I n] σ (.osl (σ.length+1) 0) (σ++[.dead,.row 1 []]):=by
 have d0:decide ((n:Int)<0)=false:=by simp
 have w1:IntKind.i64.wrap (n:Int)=n:=wrapI (by omega)
 have d1:decide ((0:Int)<n)=true:=by simp;omega
 have hz:((n:Int)=0)=False:=eq_false (by omega)
 have hp:((0:Int)<n)=True:=eq_true (by omega)
 have hle:((n:Int)≤4294967296)=True:=eq_true (by omega)
 have hc:(chunks 1 false n (z07 [Zb] n)).length=n:=z0R _ _ _ _;have z0:Int.toNat 0=0:=rfl;refine Ans.of_run t46 ?_;simp -implicitDefEqProofs only[c46,r46,go_sem,d0];have z0:Int.toNat 0=0:=rfl;have z1:Int.toNat ((n:Nat):Int)=n:=Int.toNat_natCast n;have w0:IntKind.i64.wrap 0=0:=rfl;simp -implicitDefEqProofs only[go_sem,d0,Int.sub_zero,w1,d1,w0,hz,hp,hle,z0,z1,g0,s0,hc,List.take_zero,List.drop_zero,Int.natCast_nonneg,Int.le_refl,Nat.sub_zero,List.length_append,List.length_cons,List.length_nil,List.append_assoc,List.cons_append,List.nil_append];exact Fini.ret rfl
theorem z4y (bs:List Byt) (hl:bs.length≤100) (h0:0<bs.flatten.length) (h1:bs.flatten.length≤1000000) :
  Ans Try.prog 20 [.sl 1 (bsv bs)] σ (.osl (σ.length+1) bs.flatten.length) (σ++[.dead,.row 1 (byv bs.flatten)]):=by
 refine Ans.of_run t20 ?_;simp -implicitDefEqProofs only[c20,r20,go_sem,z3l];refine Go.Ab.L.count bs.length (fun i=>mkE 36 [(0,.sl 1 (bsv bs)),(3,I ((bs.take i).flatten.length:Nat)),(9,.sl 1 (bsv bs)),(10,I bs.length),(11,I i)]) (fun _=>σ) ?_ ?_ rfl rfl
 · intro i hi J hJ;have hf:=z8s bs (i+1);rw[z5z bs i hi]at hJ hf;have hx:=z8r bs i hi;rw[List.length_append]at hJ hf;generalize bs[i]=c at hJ hf hx;generalize (bs.take i).flatten.length=t at hJ hf⊢;have ha:IntKind.i64.wrap ((t:Int)+(c.length:Int))=((t+c.length:Nat):Int):=by rw[wrapN (by omega) (by omega)];omega
   have d0:decide (((t+c.length:Nat):Int)<0)=false:=by simp;omega
   have hin:=wrap_succ (i:=i) (by omega)
   simp -implicitDefEqProofs only[mkE,go_sem,z3l,z14 hi,dec_lt hi,hx,z05,ha,d0,hin];exact hJ
 · intro J;have d0:decide ((bs.length:Int)<bs.length)=false:=by simp
   simp -implicitDefEqProofs only[mkE,go_sem,z3l,d0,List.take_length];refine CO.intro (z9z σ bs.flatten.length h0 h1) ?_;simp -implicitDefEqProofs only[go_sem,z3l];refine Go.Ab.L.count bs.length (fun i=>mkE 36 [(6,.osl (σ.length+1) (bs.take i).flatten.length),(25,.sl 1 (bsv bs)),(26,I bs.length),(27,I i)]) (fun i=>σ++[.dead,.row 1 (byv (bs.take i).flatten)]) ?_ ?_ rfl rfl
   · intro i hi J hJ;have hf:=z8s bs (i+1);rw[z5z bs i hi]at hJ hf;have hx:=z8r bs i hi;rw[List.length_append]at hJ hf;generalize bs[i]=c at hJ hf hx;generalize (bs.take i).flatten=t at hJ hf⊢;have hle:t.length+c.length≤4294967296:=by omega
     have hin:=wrap_succ (i:=i) (by omega)
     simp -implicitDefEqProofs only[mkE,go_sem,z3l,z14 hi,dec_lt hi,hx,z05,z0I,bc,hin,g1,s1,hle];simp only[z0T]at hJ;exact hJ
   · intro J;simp -implicitDefEqProofs only[mkE,go_sem,z3l,d0,List.take_length];exact Fini.ret rfl
theorem z5A (bs:List Byt) (hl:bs.length≤100) (h0:0<bs.flatten.length) (h1:bs.flatten.length≤1000000) :
  Ans Try.prog 20 [.sl 1 (bsv bs)] σ (.sl 1 (byv bs.flatten)) σ :=
 (z4y σ bs hl h0 h1).shutAt (by omega) (by rw[List.getElem?_append_right (by omega)];simp) (by rw[z05]) (z1i _ _)
end
end Go.Proofs.Ytmkmhhjkdaklbaa
namespace Go.Proofs.Ytmkmhhjkdaklbaa
open Go Go.Ab Go.Cod
set_option maxRecDepth 100000
theorem z9A (l z:List AV) (i:Nat) (h:i<l.length) (hz:l.length=z.length):(l.take i++z.drop i).set i l[i]=l.take (i+1)++z.drop (i+1):=by
 have h1:(l.take i).length=i:=by rw[List.length_take];omega
 rw[List.set_append_right _ _ (by omega),h1,Nat.sub_self,List.drop_eq_getElem_cons (by omega),List.set_cons_zero,List.take_succ_eq_append_getElem h,List.append_assoc]
 rfl
def fillW (n i:Nat):List AV:=(byv (wrdB n)).take i++(List.replicate 8 Zb).drop i
theorem z1B (n:Nat):(wrdB n).length=8:=rfl
theorem z5B (n i:Nat) (h:i≤8):(fillW n i).length=8:=by
 unfold fillW;rw[List.length_append,List.length_take,List.length_drop,z05,z1B,List.length_replicate];omega
theorem z8t (n i:Nat) (h:i<8):(fillW n i).set i (bc (n/2^(56-8*i)).toUInt8)=fillW n (i+1):=by
 have e:(byv (wrdB n))[i]'(by rw[z05,z1B];exact h)=bc (n/2^(56-8*i)).toUInt8:=by
  match i,h with
  |0,_=>rfl
  |1,_=>rfl
  |2,_=>rfl
  |3,_=>rfl
  |4,_=>rfl
  |5,_=>rfl
  |6,_=>rfl
  |7,_=>show bc n.toUInt8=bc (n/2^0).toUInt8;rw[Nat.pow_zero,Nat.div_one]
 have:=z9A (byv (wrdB n)) (List.replicate 8 Zb) i (by rw[z05,z1B];exact h) (by rw[z05,z1B,List.length_replicate])
 rw[e]at this;exact this
theorem z8u (n i:Nat) (h:i<8):(fillW n i)[i]?=some Zb:=by
 unfold fillW;have h1:((byv (wrdB n)).take i).length=i:=by rw[List.length_take,z05,z1B];omega
 rw[List.getElem?_append_right (by omega),h1,Nat.sub_self,List.getElem?_drop,List.getElem?_replicate,if_pos (by omega)]
theorem mks8:(chunks 1 false (8:Int).toNat (z07 [Zb] (8:Int).toNat)).take (8:Int).toNat=List.replicate 8 Zb:=rfl
theorem shrN (n k:Nat) (h:k≤64):((n:Int).fdiv (2^min ((k:Nat):Int).toNat 64))=((n/2^k:Nat):Int):=by
 have:min ((k:Nat):Int).toNat 64=k:=by rw[Int.toNat_natCast];omega
 rw[this,Int.fdiv_eq_ediv_of_nonneg _ (Int.pow_nonneg (by decide))]
 push_cast;rfl
theorem zbr (n:Nat):IntKind.u8.wrap (n:Int)=((n.toUInt8.toNat:Nat):Int):=by
 rw[z6D,toUInt8_mod]
section
variable (σ:St)
theorem z2M (n:Nat):Ans Try.prog 26 [UN n] σ (.sl 1 (byv (wrdB n))) σ:=by
 refine Ans.of_run' t26 (fun hbel _=>?_)
 have z8:Int.toNat 8=8:=rfl;simp -implicitDefEqProofs only[c26,r26,go_sem,mks8,z8,g0,s0,List.length_cons,List.length_nil];refine Go.Ab.L.count 8 (fun i=>mkE 22 [(0,UN n),(3,.osl σ.length 8),(7,I 8),(8,I i)]) (fun i=>σ++[.row 1 (fillW n i)]) ?_ ?_ rfl rfl
 · intro i hi J hJ;have hl:=z5B n i (by omega)
   have d0:decide ((i:Int)<8)=true:=by simp;omega
   have w1:IntKind.i64.wrap (8*(i:Int))=((8*i:Nat):Int):=by rw[wrapN (by omega) (by omega)];push_cast;rfl
   have w2:IntKind.i64.wrap (56-((8*i:Nat):Int))=((56-8*i:Nat):Int):=by rw[wrapN (by omega) (by omega)];omega
   have h3:=shrN n (56-8*i) (by omega)
   rw[Int.toNat_natCast]at h3;have hlt:((i:Int)<((8:Nat):Int))=True:=eq_true (by omega)
   have hget:(fillW n i)[i]?=some Zb:=z8u n i hi;have hin:=wrap_succ (i:=i) (by omega)
   have hset:(fillW n i).set i (.pl (.int .u8 ((n/2^(56-8*i)).toUInt8.toNat:Nat)))=fillW n (i+1):=z8t n i hi;simp -implicitDefEqProofs only[mkE,go_sem,d0,w1,w2,h3,zbr,g0,s0,hl,hin,hset,hlt,hget];exact hJ
 · intro J;have hl:=z5B n 8 (by omega)
   have d0:decide (((8:Nat):Int)<8)=false:=by decide
   have e8:fillW n 8=byv (wrdB n):=by unfold fillW;rw[List.take_of_length_le (by rw[z05,z1B];omega)];simp
   simp -implicitDefEqProofs only[mkE,go_sem,d0,g0,s0,hl,e8];exact Fini.trim2 (σ':=σ) rfl rfl (Nat.le_refl _) (z1i _ _) hbel
def wN (b:Byt):Nat:=b.foldl (fun a c=>a*256+c.toNat) 0
theorem zaI (b:Byt) (c:UInt8):wN (b++[c])=wN b*256+c.toNat:=by simp[wN]
theorem za8:∀(b:Byt) (a:Nat),b.foldl (fun a c=>a*256+c.toNat) a<(a+1)*2^(8*b.length)
 |[],a=>by simp
 |c::b,a=>by
  have ih:=za8 b (a*256+c.toNat);have hc:=c.toNat_lt;have e:8*(c::b).length=8+8*b.length:=by simp only[List.length_cons];omega
  rw[List.foldl_cons,e,Nat.pow_add,←Nat.mul_assoc];exact Nat.lt_of_lt_of_le ih (Nat.mul_le_mul_right _ (by omega))
theorem wN_lt (b:Byt):wN b<2^(8*b.length):=by have:=za8 b 0;simpa[wN] using this
theorem z6T:∀b:Byt,wordR b=if 8≤b.length then some (wN (b.take 8),b.drop 8) else none
 |a::b::c::d::e::f::g::h::t=>by
  rw[if_pos (by simp only[List.length_cons];omega)]
  simp[wordR,wN]
 |[]=>rfl
 |[_]=>rfl
 |[_,_]=>rfl
 |[_,_,_]=>rfl
 |[_,_,_,_]=>rfl
 |[_,_,_,_,_]=>rfl
 |[_,_,_,_,_,_]=>rfl
 |[_,_,_,_,_,_,_]=>rfl
theorem zbs (n c:Nat) (hc:c<256) (hn:n<2^56):IntKind.u64.wrap ((BitVec.ofInt 64 (IntKind.u64.wrap ((n:Int)*2^min 8 64)) ||| BitVec.ofInt 64 (c:Int)).toNat:Int)=((n*256+c:Nat):Int):=by
 have h:=z9Z c n 8 (by omega) (by decide) (by omega)
 rw[BitVec.or_comm];exact h.trans (by congr 1;omega)
def wordV (b:Byt):AV:=match wordR b with
 |none=>.tup [UN 0,Bo false]
 |some p=>.tup [UN p.1,Bo true]
theorem z6j (b:Byt) (hb:b.length≤100000):Ans Try.prog 56 [.sl 1 (byv b)] σ (wordV b) σ:=by
 refine Ans.of_run t56 ?_;unfold wordV;rw[z6T];by_cases h8:8≤b.length
 · have d0:decide ((b.length:Int)<8)=false:=by simp;omega
   have l8:(8:Int)≤(b.length:Nat):=by omega
   have lt8:(b.take 8).length=8:=by rw[List.length_take];omega
   have z8:Int.toNat 8=8:=rfl;have z0:Int.toNat 0=0:=rfl;rw[if_pos h8];simp only;simp -implicitDefEqProofs only[c56,r56,go_sem,z05,d0,l8,z8,z0,z3v,z3w,List.drop_zero,lt8];refine Go.Ab.L.count 8 (fun i=>mkE 24 [(4,UN (wN ((b.take 8).take i))),(11,.sl 1 (byv (b.take 8))),(12,I 8),(13,I i)]) (fun _=>σ) ?_ ?_ rfl rfl
   · intro i hi J hJ;have hx:=z82 (b.take 8) i (by omega)
     have hs:(b.take 8).take (i+1)=(b.take 8).take i++[(b.take 8)[i]]:=List.take_succ_eq_append_getElem (by omega)
     rw[hs,zaI]at hJ;have hl:=wN_lt ((b.take 8).take i);rw[List.length_take]at hl;have hl:wN ((b.take 8).take i)<2^56:=Nat.lt_of_lt_of_le hl (Nat.pow_le_pow_right (by decide) (by omega))
     have hc:=((b.take 8)[i]).toNat_lt;generalize (b.take 8)[i]=c at hx hJ hc;generalize wN ((b.take 8).take i)=w at hl hJ⊢;have hor:=zbs w c.toNat hc hl;have hwc:=z1y (n:=c.toNat) (by omega)
     have d1:decide ((i:Int)<8)=true:=by simp;omega
     have hlt:((i:Int)<((8:Nat):Int))=True:=eq_true (by omega)
     have hin:=wrap_succ (i:=i) (by omega)
     simp -implicitDefEqProofs only[mkE,go_sem,d1,z05,lt8,hlt,hx,bc,hwc,z8,hin]
     have key:∀v:Int,v=((w*256+c.toNat:Nat):Int)→J (mkE 24 [(4,.pl (.int .u64 v)),(11,.sl 1 (byv (b.take 8))),(12,I 8),(13,I ((i+1:Nat):Int))]) σ:=by
      rintro _ rfl;exact hJ
     exact key _ hor
   · intro J;have d1:decide (((8:Nat):Int)<8)=false:=by decide
     have e8:(b.take 8).take 8=b.take 8:=List.take_of_length_le (by omega)
     simp -implicitDefEqProofs only[mkE,go_sem,d1,e8];exact Fini.ret rfl
 · have d0:decide ((b.length:Int)<8)=true:=by simp;omega
   rw[if_neg h8];simp -implicitDefEqProofs only[c56,r56,go_sem,z05,d0];exact Fini.ret rfl
theorem z5C (u:Nat):Ans Try.prog 55 [UN u] σ (Fl u) σ:=ext_frombits.ok _ _ _ _ rfl
theorem za9 (u:Nat):Ans Try.prog 41 [UN u] σ (.tup [Fl (if okV u then u else 0),Bo (okV u)]) σ:=by
 have e:(((bitsF u:Nat):Int) != (u:Nat))= !okV u:=by
  unfold okV;rw[bne];congr 1
  rw[Bool.eq_iff_iff];simp only[beq_iff_eq,decide_eq_true_eq];omega
 refine Ans.of_run t41 ?_;simp -implicitDefEqProofs only[c41,r41,go_sem];refine CO.intro (z5C σ u) ?_;simp -implicitDefEqProofs only[go_sem];refine CO.intro (z2c σ u) ?_;simp -implicitDefEqProofs only[go_sem,e]
 cases h:okV u with
 |true =>
  simp -implicitDefEqProofs only[go_sem];exact Fini.ret rfl
 |false =>
  simp -implicitDefEqProofs only[go_sem];exact Fini.ret rfl
section
variable (p:Nat) (b:Byt) (q:Nat×Bool)
theorem z6U (h:σ[p]?=some (rob b q)) (hq:Inb b q) (hb:b.length≤50000) :
  Ans Try.prog 42 [.ptr p 0] σ (UN (runR wordR 0 b q).1) (σ.set p (rob b (runR wordR 0 b q).2)):=by
 refine Ans.of_run t42 ?_;simp -implicitDefEqProofs only[c42,r42,go_sem];refine CO.intro (z0B σ p b q h hq) ?_;simp -implicitDefEqProofs only[go_sem];refine CO.intro (z6j σ (b.drop q.1) (by rw[List.length_drop];omega)) ?_
 obtain⟨a,bad⟩:=q;simp only at hq h⊢;have hq:a≤b.length:=hq;unfold wordV;have hw:=z6T (b.drop a);have ht:=z0C σ p b (a,bad) 8 (wordR (b.drop a)).isSome h (by simp only;omega)
 cases hg:wordR (b.drop a) with
 |none =>
  rw[hg]at ht;have e:took (a,bad) 8 (none:Option (Nat×Byt)).isSome=(a,true):=by cases bad<;>rfl
  rw[e]at ht;simp -implicitDefEqProofs only[go_sem];refine CO.intro ht ?_;simp -implicitDefEqProofs only[go_sem]
  cases bad with
  |true=>rw[z0j];exact Fini.ret rfl
  |false=>rw[z0F hg];exact Fini.ret rfl
 |some x =>
  obtain⟨n,t⟩:=x;rw[hg]at ht hw
  have hl:t.length=b.length-(a+8)∧a+8≤b.length:=by
   split at hw
   · rename_i h8;simp only[Option.some.injEq,Prod.mk.injEq]at hw;rw[hw.2,List.length_drop,List.length_drop];rw[List.length_drop]at h8;omega
   · cases hw
  simp -implicitDefEqProofs only[go_sem];refine CO.intro ht ?_
  cases bad with
  |true =>
   have e:took (a,true) 8 (some (n,t)).isSome=(a,true):=rfl;rw[e,z0j];simp -implicitDefEqProofs only[go_sem];exact Fini.ret rfl
  |false =>
   have e:took (a,false) 8 (some (n,t)).isSome=(b.length-t.length,false):=by
    simp only[took,Option.isSome_some,Bool.false_or,Bool.not_true,Bool.false_eq_true,if_false];congr 1;omega
   rw[e,z0o hg];simp -implicitDefEqProofs only[go_sem];exact Fini.ret rfl
theorem z6V (h:σ[p]?=some (rob b q)) (hq:Inb b q) (hb:b.length≤50000) :
  Ans Try.prog 53 [.ptr p 0] σ (Fl (valS b q).1) (σ.set p (rob b (valS b q).2)):=by
 refine Ans.of_run t53 ?_;simp -implicitDefEqProofs only[c53,r53,go_sem];refine CO.intro (z6U σ p b q h hq hb) ?_;have hi2:=z08 wordR 0 b q hq;unfold valS;generalize runR wordR 0 b q=w at hi2⊢;simp -implicitDefEqProofs only[go_sem];refine CO.intro (za9 _ w.1) ?_;simp -implicitDefEqProofs only[go_sem];have h2:=z06 (σ.set p (rob b w.2)) p b w.2 (okV w.1) (z3U h _) hi2 hb;rw[List.set_set]at h2;refine CO.intro h2 ?_;simp -implicitDefEqProofs only[go_sem];exact Fini.ret rfl
end
end
end Go.Proofs.Ytmkmhhjkdaklbaa
namespace Go.Proofs.Ytmkmhhjkdaklbaa
open Go Go.Ab
set_option maxRecDepth 100000
def vals8:List ByteArray:=values++[⟨#[]⟩]
abbrev Mz:=Int×ByteArray×ByteArray
abbrev dv (d:Int×Int×Int):AV:=.agg [I d.1,I d.2.1,I d.2.2]
section
variable (σ:St)
end
def allV:List ByteArray:=vals8++pats
instance:DecidableEq ByteArray:=fun a b=>decidable_of_iff (a.data=b.data) (by cases a;cases b;simp)
structure MOK (x:Mz):Prop where
 lo:1≤x.1
 hi:x.1≤4
 nm:x.2.1∈names
 low:x.1<3→x.2.2∈vals8
 high:¬x.1<3→x.2.2∈pats
theorem MOK.val {x:Mz} (h:MOK x):x.2.2∈allV:=by
 unfold allV;by_cases h3:x.1<3
 · exact List.mem_append_left _ (h.low h3)
 · exact List.mem_append_right _ (h.high h3)
end Go.Proofs.Ytmkmhhjkdaklbaa
namespace Go.Proofs.Ytmkmhhjkdaklbaa
open Go Go.Ab Go.Cod
set_option maxRecDepth 100000
def bandV (b:Bool×Nat×Nat):AV:=.agg [Bo b.1,Fl b.2.1,Fl b.2.2]
theorem z1c (n:Nat) (b:Bool×Nat×Nat):Bel n (bandV b):=.agg _ fun i hi=>by
 have:∀y∈([Bo b.1,Fl b.2.1,Fl b.2.2]:List AV),Bel n y:=by
  intro y hy;simp only[List.mem_cons,List.not_mem_nil,or_false]at hy;rcases hy with rfl|rfl|rfl<;>exact .pl _
 exact this _ (List.getElem_mem hi)
section
variable (σ:St)
end
theorem z9B (l:List ByteArray) (s:ByteArray):txs (l++[s])=txs l++[Sx s]:=by simp[txs]
theorem zaJ:txs []=[]:=rfl
theorem z1G (n:Nat) (L:List ByteArray):Bel n (.sl 1 (txs L)):=by
 refine .sl 1 _ fun i hi=>?_
 have:∀y∈txs L,Bel n y:=by
  intro y hy;simp only[txs,List.mem_map]at hy;obtain⟨x,_,rfl⟩:=hy;exact .pl _
 exact this _ (List.getElem_mem hi)
theorem g2 (σ:St) (x y z:Ob) (ex:St):(σ++x::y::z::ex)[σ.length+2]?=some z:=by rw[List.getElem?_append_right (by simp)];simp
theorem s2 (σ:St) (x y z u:Ob) (ex:St):(σ++x::y::z::ex).set (σ.length+2) u=σ++x::y::u::ex:=by rw[List.set_append_right _ _ (by simp)];simp
section
variable (σ:St)
end
theorem Inb0 (b:Byt):Inb b (0,false):=Nat.zero_le _
section
variable (σ:St)
theorem z6W (n:Nat) (hn:n<18446744073709551616):Ans Try.prog 21 [UN n] σ (.sl 1 (byv (putN n))) σ:=(z4L σ n hn).shut (by rw[z05]) (z1i _ _)
theorem z46 (x:Bnd):Ans Try.prog 23 [bandV x] σ (.sl 1 (byv (putBd x))) σ:=by
 obtain⟨any,lo,hi⟩:=x;refine Ans.of_run t23 ?_;unfold bandV putBd
 cases any with
 |true =>
  simp -implicitDefEqProofs only[c23,r23,go_sem];exact Fini.ret rfl
 |false =>
  have hc:=fun s=>z5A s [[0],putV lo,putV hi] (by simp) (by simp) (by simp[putV,z1B])
  have e:([[0],putV lo,putV hi]:List Byt).flatten=0::(putV lo++putV hi):=by simp
  rw[e]at hc;have i1:=fun s=>z2c s lo
  have i2:=fun s=>z2c s hi
  have i3:=fun s=>z2M s (bitsF lo)
  have i4:=fun s=>z2M s (bitsF hi)
  simp -implicitDefEqProofs only[c23,r23,go_sem]
  first|refine CD.intro (i1 _) ?_|refine CS.intro i1 ?_
  simp -implicitDefEqProofs only[go_sem]
  first|refine CD.intro (i3 _) ?_|refine CS.intro i3 ?_
  simp -implicitDefEqProofs only[go_sem]
  first|refine CD.intro (i2 _) ?_|refine CS.intro i2 ?_
  simp -implicitDefEqProofs only[go_sem]
  first|refine CD.intro (i4 _) ?_|refine CS.intro i4 ?_
  simp -implicitDefEqProofs only[go_sem];refine CD.intro (hc _) ?_;simp -implicitDefEqProofs only[go_sem];exact Fini.ret rfl
theorem z3p (b:Byt) (hb:b.length≤50000):Ans Try.prog 36 [.sl 1 (byv b)] σ (readV (bandR b) b bandV (bandV (false,0,0))) σ:=by
 have hS:=(z7u b).top;refine Ans.of_run' t36 (fun hbel _=>?_)
 simp -implicitDefEqProofs only[c36,r36,go_sem];refine CO.intro (z3g _ b) ?_;simp -implicitDefEqProofs only[go_sem,List.append_assoc,List.length_append];generalize hq1:runR byteR 0 b (0,false)=q1;have hin1:Inb b q1.2:=by rw[←hq1];exact z08 _ _ _ _ (Inb0 b)
 have hby:=z0K (σ++[.box [Bo false,Fl 0,Fl 0],rob b (0,false),.box [Bo false,Fl 0,Fl 0]]) (σ.length+1) b (0,false) (g1 _ _ _ _) (Inb0 b) hb;rw[hq1,s1]at hby;refine CO.intro hby ?_;obtain⟨c,q⟩:=q1;simp only at hin1⊢;by_cases h0:c=0
 · subst h0;have v1:=z6V (σ++[.box [Bo false,Fl 0,Fl 0],rob b q,.box [Bo false,Fl 0,Fl 0]]) (σ.length+1) b q (g1 _ _ _ _) hin1 hb;have hi2:=(z0h b).inb q hin1
   have hL:bandS b (0,false)=((false,(valS b q).1,(valS b (valS b q).2).1),took (valS b (valS b q).2).2 0 (mayB false (valS b q).1 (valS b (valS b q).2).1)):=by
    unfold bandS z0i bnd0S;rw[hq1];rfl
   generalize valS b q=w1 at v1 hi2 hL;obtain⟨lo,p1⟩:=w1;simp only at v1 hi2 hL;rw[s1]at v1;have v2:=z6V (σ++[.box [Bo false,Fl 0,Fl 0],rob b p1,.box [Bo false,Fl 0,Fl 0]]) (σ.length+1) b p1 (g1 _ _ _ _) hi2 hb;have hi3:=(z0h b).inb p1 hi2;generalize valS b p1=w2 at v2 hi3 hL;obtain⟨hi,p2⟩:=w2;simp only at v2 hi3 hL;rw[s1]at v2;have e0:((((0:UInt8).toNat:Nat):Int)==0)=true:=rfl;simp -implicitDefEqProofs only[go_sem,bc,e0,g0,g1,g2,s0,s1,s2];refine CO.intro v1 ?_;simp -implicitDefEqProofs only[go_sem];refine CO.intro v2 ?_;have h1:=z06 (σ++[.box [Bo false,Fl 0,Fl 0],rob b p2,.box [Bo false,Fl lo,Fl hi]]) (σ.length+1) b p2 (mayB false lo hi) (g1 _ _ _ _) hi3 hb;rw[s1]at h1;have hL:bandS b (0,false)=((false,lo,hi),took p2 0 (mayB false lo hi)):=hL;rw[hL]at hS;generalize took p2 0 (mayB false lo hi)=qe at h1 hS;have h2:=z2k (σ++[.box [Bo false,Fl 0,Fl 0],rob b qe,.box [Bo false,Fl lo,Fl hi]]) (σ.length+1) b qe (g1 _ _ _ _);simp -implicitDefEqProofs only[go_sem,g0,g1,g2,s0,s1,s2];refine CO.intro (z1m _ false lo hi) ?_;simp -implicitDefEqProofs only[go_sem];refine CO.intro h1 ?_;simp -implicitDefEqProofs only[go_sem];refine CO.intro h2 ?_
   cases hr:bandR b with
   |none =>
    have hb2:=hS.2 hr;obtain⟨qa,qb⟩:=qe;simp only at hb2;subst hb2;simp -implicitDefEqProofs only[go_sem,g0,g1,g2,s0,s1,s2];exact Fini.trim2 (σ':=σ) (ex:=[_,_,_]) (by simp -implicitDefEqProofs only[go_sem,resA,z03,rvA,oneOf,g0];rfl) rfl (Nat.le_refl _) (by unfold readV;exact z0P (z1c _ _)) hbel
   |some p =>
    obtain⟨M,t⟩:=p;have hb2:=hS.1 M t hr;simp only[Prod.mk.injEq]at hb2;obtain⟨rfl,rfl⟩:=hb2;simp -implicitDefEqProofs only[go_sem,g0,g1,g2,s0,s1,s2];exact Fini.trim2 (σ':=σ) (ex:=[_,_,_]) (by simp -implicitDefEqProofs only[go_sem,resA,z03,rvA,oneOf,g0];rfl) rfl (Nat.le_refl _) (by unfold readV;exact z0P (z1c _ _)) hbel
 · have e0:(((c.toNat:Nat):Int)==0)=false:=by
    rw[Bool.eq_false_iff];intro h;rw[beq_iff_eq]at h;exact h0 (UInt8.toNat_inj.1 (by rw[show(0:UInt8).toNat=0 from rfl];omega))
   by_cases h1:c=1
   · subst h1
     have hL:bandS b (0,false)=((true,0,0),took q 0 (mayB true 0 0)):=by
      unfold bandS z0i bnd0S;rw[hq1];rfl
     have e1:((((1:UInt8).toNat:Nat):Int)==1)=true:=rfl;simp -implicitDefEqProofs only[go_sem,bc,e0,e1,g0,g1,g2,s0,s1,s2];have h1:=z06 (σ++[.box [Bo false,Fl 0,Fl 0],rob b q,.box [Bo true,Fl 0,Fl 0]]) (σ.length+1) b q (mayB true 0 0) (g1 _ _ _ _) hin1 hb;rw[s1]at h1;have hL:bandS b (0,false)=((true,0,0),took q 0 (mayB true 0 0)):=hL;rw[hL]at hS;generalize took q 0 (mayB true 0 0)=qe at h1 hS;have h2:=z2k (σ++[.box [Bo false,Fl 0,Fl 0],rob b qe,.box [Bo true,Fl 0,Fl 0]]) (σ.length+1) b qe (g1 _ _ _ _);refine CO.intro (z1m _ true 0 0) ?_;simp -implicitDefEqProofs only[go_sem];refine CO.intro h1 ?_;simp -implicitDefEqProofs only[go_sem];refine CO.intro h2 ?_
     cases hr:bandR b with
     |none =>
      have hb2:=hS.2 hr;obtain⟨qa,qb⟩:=qe;simp only at hb2;subst hb2;simp -implicitDefEqProofs only[go_sem,g0,g1,g2,s0,s1,s2];exact Fini.trim2 (σ':=σ) (ex:=[_,_,_]) (by simp -implicitDefEqProofs only[go_sem,resA,z03,rvA,oneOf,g0];rfl) rfl (Nat.le_refl _) (by unfold readV;exact z0P (z1c _ _)) hbel
     |some p =>
      obtain⟨M,t⟩:=p;have hb2:=hS.1 M t hr;simp only[Prod.mk.injEq]at hb2;obtain⟨rfl,rfl⟩:=hb2;simp -implicitDefEqProofs only[go_sem,g0,g1,g2,s0,s1,s2];exact Fini.trim2 (σ':=σ) (ex:=[_,_,_]) (by simp -implicitDefEqProofs only[go_sem,resA,z03,rvA,oneOf,g0];rfl) rfl (Nat.le_refl _) (by unfold readV;exact z0P (z1c _ _)) hbel
   · have hL:bandS b (0,false)=((false,0,0),took (took q 0 false) 0 (mayB false 0 0)):=by
      unfold bandS z0i bnd0S;rw[hq1];simp only[h0,h1,if_false];rfl
     have e1:(((c.toNat:Nat):Int)==1)=false:=by
      rw[Bool.eq_false_iff];intro h;rw[beq_iff_eq]at h;exact h1 (UInt8.toNat_inj.1 (by rw[show(1:UInt8).toNat=1 from rfl];omega))
     have v1:=z06 (σ++[.box [Bo false,Fl 0,Fl 0],rob b q,.box [Bo false,Fl 0,Fl 0]]) (σ.length+1) b q false (g1 _ _ _ _) hin1 hb;rw[s1]at v1;have hi2:=z0J b q false hin1;generalize took q 0 false=p1 at v1 hi2 hL;simp -implicitDefEqProofs only[go_sem,bc,e0,e1,g0,g1,g2,s0,s1,s2];refine CO.intro v1 ?_;have h1:=z06 (σ++[.box [Bo false,Fl 0,Fl 0],rob b p1,.box [Bo false,Fl 0,Fl 0]]) (σ.length+1) b p1 (mayB false 0 0) (g1 _ _ _ _) hi2 hb;rw[s1]at h1;have hL:bandS b (0,false)=((false,0,0),took p1 0 (mayB false 0 0)):=hL;rw[hL]at hS;generalize took p1 0 (mayB false 0 0)=qe at h1 hS;have h2:=z2k (σ++[.box [Bo false,Fl 0,Fl 0],rob b qe,.box [Bo false,Fl 0,Fl 0]]) (σ.length+1) b qe (g1 _ _ _ _);simp -implicitDefEqProofs only[go_sem,g0,g1,g2,s0,s1,s2];refine CO.intro (z1m _ false 0 0) ?_;simp -implicitDefEqProofs only[go_sem];refine CO.intro h1 ?_;simp -implicitDefEqProofs only[go_sem];refine CO.intro h2 ?_
     cases hr:bandR b with
     |none =>
      have hb2:=hS.2 hr;obtain⟨qa,qb⟩:=qe;simp only at hb2;subst hb2;simp -implicitDefEqProofs only[go_sem,g0,g1,g2,s0,s1,s2];exact Fini.trim2 (σ':=σ) (ex:=[_,_,_]) (by simp -implicitDefEqProofs only[go_sem,resA,z03,rvA,oneOf,g0];rfl) rfl (Nat.le_refl _) (by unfold readV;exact z0P (z1c _ _)) hbel
     |some p =>
      obtain⟨M,t⟩:=p;have hb2:=hS.1 M t hr;simp only[Prod.mk.injEq]at hb2;obtain⟨rfl,rfl⟩:=hb2;simp -implicitDefEqProofs only[go_sem,g0,g1,g2,s0,s1,s2];exact Fini.trim2 (σ':=σ) (ex:=[_,_,_]) (by simp -implicitDefEqProofs only[go_sem,resA,z03,rvA,oneOf,g0];rfl) rfl (Nat.le_refl _) (by unfold readV;exact z0P (z1c _ _)) hbel
end
theorem z2x {α:Type} {r:Option (α×Byt)} {b:Byt} {enc:α→AV} {z:AV} (h:r=none):readV r b enc z=.tup [z,I 0,Bo false]:=by subst h;rfl
theorem z2y {α:Type} {r:Option (α×Byt)} {b:Byt} {enc:α→AV} {z:AV} {x:α} {t:Byt} (h:r=some (x,t)):readV r b enc z=.tup [enc x,I (b.length-t.length:Nat),Bo true]:=by subst h;rfl
abbrev mlV (M:List Mtr):AV:=.sl 3 (mvs3 M)
section
variable (σ:St) (p:Nat) (b:Byt) (q:Nat×Bool)
theorem z5D (h:σ[p]?=some (rob b q)) (hq:Inb b q) (hb:b.length≤50000):Ans Try.prog 33 [.ptr p 0,.fn 34 [] []] σ (mlV (runR listR [] b q).1) (σ.set p (rob b (runR listR [] b q).2)):=by
 obtain⟨a,bad⟩:=q;have hq:a≤b.length:=hq;have hl:(b.drop a).length≤50000:=by rw[List.length_drop];omega
 cases hr:listR (b.drop a) with
 |none =>
  have hrd:=z5w σ (b.drop a) hl;rw[z2x hr]at hrd
  have e:runR listR [] b (a,bad)=([],(a,true)):=by
   cases bad
   · exact z0F hr
   · exact z0j _ _ _ _
  have e2:took (a,bad) 0 false=(a,true):=by cases bad<;>rfl
  have ht:=z0C σ p b (a,bad) 0 false h (by simp only;omega)
  rw[e2]at ht;rw[e]
  have:Ans Try.prog 33 [.ptr p 0,.fn 34 [] []] σ .nils (σ.set p (rob b (a,true))):=by
   refine Ans.of_run t33 ?_;simp -implicitDefEqProofs only[c33,r33,go_sem];refine CO.intro (z0B σ p b (a,bad) h hq) ?_;simp -implicitDefEqProofs only[go_sem];refine CO.intro hrd ?_;simp -implicitDefEqProofs only[go_sem];refine CO.intro ht ?_;simp -implicitDefEqProofs only[go_sem];exact Fini.ret rfl
  exact this.subR (.nils 3)
 |some x =>
  obtain⟨x,t⟩:=x;have hrd:=z5w σ (b.drop a) hl;rw[z2y hr]at hrd;have hdr:=ends_list.drop hq hr;have ht:=z0C σ p b (a,bad) ((b.drop a).length-t.length) true h (by simp only[List.length_drop];omega)
  cases bad with
  |true =>
   have e2:took (a,true) ((b.drop a).length-t.length) true=(a,true):=rfl;rw[e2]at ht;rw[z0j]
   have:Ans Try.prog 33 [.ptr p 0,.fn 34 [] []] σ .nils (σ.set p (rob b (a,true))):=by
    refine Ans.of_run t33 ?_;simp -implicitDefEqProofs only[c33,r33,go_sem];refine CO.intro (z0B σ p b (a,true) h hq) ?_;simp -implicitDefEqProofs only[go_sem];refine CO.intro hrd ?_;simp -implicitDefEqProofs only[go_sem];refine CO.intro ht ?_;simp -implicitDefEqProofs only[go_sem];exact Fini.ret rfl
   exact this.subR (.nils 3)
  |false =>
   have e2:took (a,false) ((b.drop a).length-t.length) true=(b.length-t.length,false):=by
    simp only[took,Bool.false_or,Bool.not_true,Bool.false_eq_true,if_false,List.length_drop];congr 1;omega
   rw[e2]at ht;rw[z0o hr];refine Ans.of_run t33 ?_;simp -implicitDefEqProofs only[c33,r33,go_sem];refine CO.intro (z0B σ p b (a,false) h hq) ?_;simp -implicitDefEqProofs only[go_sem];refine CO.intro hrd ?_;simp -implicitDefEqProofs only[go_sem];refine CO.intro ht ?_;simp -implicitDefEqProofs only[go_sem];exact Fini.ret rfl
theorem z8v (h:σ[p]?=some (rob b q)) (hq:Inb b q) (hb:b.length≤50000):Ans Try.prog 35 [.ptr p 0,.fn 36 [] []] σ (bandV (runR bandR (false,0,0) b q).1) (σ.set p (rob b (runR bandR (false,0,0) b q).2)):=by
 obtain⟨a,bad⟩:=q;have hq:a≤b.length:=hq;have hl:(b.drop a).length≤50000:=by rw[List.length_drop];omega
 have hp:p<σ.length:=(List.getElem?_eq_some_iff.1 h).1;have hz:∀ob,(σ++[ob])[p]?=some (rob b (a,bad)):=fun ob=>by rw[List.getElem?_append_left hp];exact h
 have hst:∀ob X,(σ++[ob]).set p X=σ.set p X++[ob]:=fun ob X=>by rw[List.set_append_left _ _ hp]
 have hlen:∀X,(σ.set p X).length=σ.length:=fun X=>List.length_set
 have gx:∀(X:Ob) (o:Ob) (ex:St),(σ.set p X++o::ex)[σ.length]?=some o:=fun X o ex=>by rw[←hlen X];exact g0 _ _ _
 have sx:∀(X:Ob) (o u:Ob) (ex:St),(σ.set p X++o::ex).set σ.length u=σ.set p X++u::ex:=fun X o u ex=>by rw[←hlen X];exact s0 _ _ _ _
 have gx1:∀(X:Ob) (o o2:Ob) (ex:St),(σ.set p X++o::o2::ex)[σ.length+1]?=some o2:=fun X o o2 ex=>by rw[←hlen X];exact g1 _ _ _ _
 have hbo:∀(hbel:∀o∈σ,BelO σ.length o) (q:Nat×Bool),∀o∈σ.set p (rob b q),BelO (σ.set p (rob b q)).length o:=fun hbel q=>by
  rw[hlen]
  exact z1x hbel (fun c hc=>by
   simp only[List.mem_cons,List.not_mem_nil,or_false]at hc;rcases hc with rfl|rfl|rfl
   · exact z1i _ _
   · exact .pl _
   · exact .pl _)
 cases hr:bandR (b.drop a) with
 |none =>
  have hrd:=fun s=>z3p s (b.drop a) hl
  simp only[z2x hr]at hrd
  have e:runR bandR (false,0,0) b (a,bad)=((false,0,0),(a,true)):=by
   cases bad
   · exact z0F hr
   · exact z0j _ _ _ _
  have e2:took (a,bad) 0 false=(a,true):=by cases bad<;>rfl
  have ht:=fun ob=>z0C (σ++[ob]) p b (a,bad) 0 false (hz ob) (by simp only;omega)
  simp only[e2,hst]at ht;rw[e];refine Ans.of_run' t35 (fun hbel _=>?_)
  simp -implicitDefEqProofs only[c35,r35,go_sem];refine CO.intro (z0B _ p b (a,bad) (hz _) hq) ?_;simp -implicitDefEqProofs only[go_sem];refine CO.intro (hrd _) ?_;simp -implicitDefEqProofs only[go_sem,bandV];refine CO.intro (ht _) ?_;simp -implicitDefEqProofs only[go_sem,gx,sx,gx1,List.append_assoc,List.length_append,hlen];exact Fini.trim2 (σ':=σ.set p (rob b (a,true))) (ex:=[_,_]) (by simp -implicitDefEqProofs only[go_sem,resA,z03,rvA,oneOf,gx]<;>rfl) rfl (by rw[hlen];exact Nat.le_refl _) (z1c _ (false,0,0)) (hbo hbel _)
 |some x =>
  obtain⟨x,t⟩:=x;have hrd:=fun s=>z3p s (b.drop a) hl
  simp only[z2y hr]at hrd;have hdr:=ends_band.drop hq hr;have ht:=fun ob=>z0C (σ++[ob]) p b (a,bad) ((b.drop a).length-t.length) true (hz ob) (by simp only[List.length_drop];omega)
  simp only[hst]at ht
  cases bad with
  |true =>
   have e2:took (a,true) ((b.drop a).length-t.length) true=(a,true):=rfl;rw[e2]at ht;rw[z0j];refine Ans.of_run' t35 (fun hbel _=>?_)
   simp -implicitDefEqProofs only[c35,r35,go_sem];refine CO.intro (z0B _ p b (a,true) (hz _) hq) ?_;simp -implicitDefEqProofs only[go_sem];refine CO.intro (hrd _) ?_;simp -implicitDefEqProofs only[go_sem,bandV];refine CO.intro (ht _) ?_;simp -implicitDefEqProofs only[go_sem,gx,sx,gx1,List.append_assoc,List.length_append,hlen];exact Fini.trim2 (σ':=σ.set p (rob b (a,true))) (ex:=[_,_]) (by simp -implicitDefEqProofs only[go_sem,resA,z03,rvA,oneOf,gx]<;>rfl) rfl (by rw[hlen];exact Nat.le_refl _) (z1c _ (false,0,0)) (hbo hbel _)
  |false =>
   have e2:took (a,false) ((b.drop a).length-t.length) true=(b.length-t.length,false):=by
    simp only[took,Bool.false_or,Bool.not_true,Bool.false_eq_true,if_false,List.length_drop];congr 1;omega
   rw[e2]at ht;rw[z0o hr];refine Ans.of_run' t35 (fun hbel _=>?_)
   simp -implicitDefEqProofs only[c35,r35,go_sem];refine CO.intro (z0B _ p b (a,false) (hz _) hq) ?_;simp -implicitDefEqProofs only[go_sem];refine CO.intro (hrd _) ?_;simp -implicitDefEqProofs only[go_sem,bandV];refine CO.intro (ht _) ?_;simp -implicitDefEqProofs only[go_sem,gx,sx,gx1,List.append_assoc,List.length_append,hlen];exact Fini.trim2 (σ':=σ.set p (rob b (b.length-t.length,false))) (ex:=[_]) (by simp -implicitDefEqProofs only[go_sem,resA,z03,rvA,oneOf,gx]<;>rfl) rfl (by rw[hlen];exact Nat.le_refl _) (z1c _ x) (hbo hbel _)
end
def headR (r:RuM):Byt:=putL r.src++(putL r.tgt++(putBd (r.any,r.lo,r.hi)++putN r.eq.length))
def preR (r:RuM) (i:Nat):Byt:=headR r++z0A txtB (r.eq.take i)
theorem z5E (r:RuM) (i:Nat) (h:i<r.eq.length):preR r (i+1)=preR r i++txtB r.eq[i]:=by
 unfold preR z0A;rw[List.take_succ_eq_append_getElem h,List.flatMap_append,List.append_assoc];simp
theorem z6X (r:RuM):preR r r.eq.length=putR r:=by unfold preR putR headR z1F;rw[List.take_length];simp[List.append_assoc]
theorem z5F (r:RuM):preR r 0=headR r:=by unfold preR z0A;simp
theorem z47 (x:Bnd):(putBd x).length≤17:=by
 unfold putBd;split
 · simp
 · simp[putV,z1B]
theorem z4W {M:List Mtr} (h:listB M=true):(putL M).length≤510:=by
 have:=z4U h M.length (Nat.le_refl _);rw[z4T]at this;have:=(z3C h).1;omega
theorem z4X (M:List Mtr):0<(putL M).length:=by
 have:=z3P M.length;unfold putL z1F
 cases h:putN M.length with
 |nil=>exact absurd h this
 |cons a b=>simp
theorem z5G {r:RuM} (h:ruIs r=true):(headR r).length≤1050:=by
 obtain⟨h1,h2,h3,h4,h5⟩:=z1O h;have:=z4W h1;have:=z4W h2;have:=z47 (r.any,r.lo,r.hi);have:=z0t (n:=r.eq.length) (by omega)
 unfold headR;simp only[List.length_append];omega
theorem z4Y {r:RuM} (h:ruIs r=true):∀i,i≤r.eq.length→(preR r i).length≤1050+30*i
 |0,_=>by rw[z5F];have:=z5G h;omega
 |i+1,hi=>by
  have ih:=z4Y h i (by omega)
  have hx:=(z1O h).2.2.2.2 r.eq[i] (List.getElem_mem (by omega))
  have h1:=z1p r.eq[i] (by omega)
  rw[z5E r i (by omega),List.length_append]
  omega
def z1d (r:RuM):Byt:=if ruIs r then putR r else[]
section
variable (σ:St)
theorem z6k (r:RuM):Ans Try.prog 24 [ruV r] σ (.sl 1 (byv (z1d r))) σ:=by
 have hi:=fun s=>z1b s r
 unfold z1d
 cases hR:ruIs r with
 |false =>
  have:Ans Try.prog 24 [ruV r] σ .nils σ:=by
   refine Ans.of_run t24 ?_;unfold ruV at hi⊢;simp -implicitDefEqProofs only[c24,r24,go_sem];refine CO.intro (hi _) ?_;rw[hR];simp -implicitDefEqProofs only[go_sem];exact Fini.ret rfl
  exact this.subR (.nils 1)
 |true =>
  obtain⟨h1,h2,h3,h4,h5⟩:=z1O hR;have hpl:=z4Y hR;have m1:=fun s=>z3j s r.src
  have m2:=fun s=>z3j s r.tgt
  have e1:z0m r.src=putL r.src:=by unfold z0m;rw[h1];rfl
  have e2:z0m r.tgt=putL r.tgt:=by unfold z0m;rw[h2];rfl
  rw[e1]at m1;rw[e2]at m2;have b1:=fun s=>z46 s (r.any,r.lo,r.hi)
  unfold bandV at b1;have n1:=fun s=>z6W s r.eq.length (by omega)
  have hw:=z1y (n:=r.eq.length) (by omega)
  have hc:=fun s=>z4y s [putL r.src,putL r.tgt,putBd (r.any,r.lo,r.hi),putN r.eq.length] (by simp) (by
   have:=z4X r.src
   simp only[List.flatten_cons,List.length_append];omega) (by
   have:=z5G hR;unfold headR at this;simp only[List.length_append]at this
   simp only[List.flatten_cons,List.flatten_nil,List.append_nil,List.length_append];omega)
  have e3:([putL r.src,putL r.tgt,putBd (r.any,r.lo,r.hi),putN r.eq.length]:List Byt).flatten=preR r 0:=by
   rw[z5F];simp[headR]
  rw[e3]at hc;refine Ans.of_run' t24 (fun hbel _=>?_)
  unfold ruV at hi⊢;simp -implicitDefEqProofs only[c24,r24,go_sem];refine CO.intro (hi _) ?_;rw[hR];simp -implicitDefEqProofs only[go_sem];refine CD.intro (m1 _) ?_;simp -implicitDefEqProofs only[go_sem];refine CD.intro (m2 _) ?_;simp -implicitDefEqProofs only[go_sem];refine CD.intro (b1 _) ?_;simp -implicitDefEqProofs only[go_sem,z1l,hw];refine CD.intro (n1 _) ?_;simp -implicitDefEqProofs only[go_sem];refine CD.intro (hc _) ?_;simp -implicitDefEqProofs only[go_sem,z1l];refine Go.Ab.L.count r.eq.length (fun i=>mkE 38 [(3,.osl (σ.length+1) (preR r i).length),(26,.sl 1 (txs r.eq)),(27,I r.eq.length),(28,I i)]) (fun i=>σ++[.dead,.row 1 (byv (preR r i))]) ?_ ?_ rfl rfl
  · intro i hi J hJ;have hx:=z8n r.eq i hi;have hs:=h5 r.eq[i] (List.getElem_mem hi);have hp:=hpl (i+1) (by omega)
    rw[z5E r i hi]at hJ hp;generalize r.eq[i]=s at hx hs hJ hp;generalize preR r i=pre at hJ hp⊢;have hin:=wrap_succ (i:=i) (by omega)
    rw[List.length_append]at hp hJ;have l1:pre.length+(txtB s).length≤4294967296:=by omega
    simp -implicitDefEqProofs only[mkE,go_sem,z1l,z14 hi,dec_lt hi,hx];refine CO.intro (z1k _ s (by omega)) ?_
    simp -implicitDefEqProofs only[go_sem,g1,s1,z05,z0I,bc,l1,hin];simp only[z0T]at hJ;exact hJ
  · intro J;have d0:decide ((r.eq.length:Int)<r.eq.length)=false:=by simp
    simp -implicitDefEqProofs only[mkE,go_sem,d0,g1,s1,z05,z6X];exact Fini.trim2 (σ':=σ) (ex:=[_,_]) rfl rfl (Nat.le_refl _) (z1i _ _) hbel
end
theorem g3 (σ:St) (x y z u:Ob) (ex:St):(σ++x::y::z::u::ex)[σ.length+3]?=some u:=by rw[List.getElem?_append_right (by simp)];simp
theorem s3 (σ:St) (x y z u v:Ob) (ex:St):(σ++x::y::z::u::ex).set (σ.length+3) v=σ++x::y::z::v::ex:=by rw[List.set_append_right _ _ (by simp)];simp
def txC (n:Nat) (e:List ByteArray):AV:=if e.isEmpty then .nils else .osl n e.length
def txS (e:List ByteArray):St:=if e.isEmpty then[] else[.row 1 (txs e)]
theorem z8w (n:Nat) {e:List ByteArray} (h:e.isEmpty=false):txC n e=.osl n e.length:=by unfold txC;rw[h];rfl
theorem z8x {e:List ByteArray} (h:e.isEmpty=false):txS e=[.row 1 (txs e)]:=by unfold txS;rw[h];rfl
theorem z6Y (e:List ByteArray) (s:ByteArray):(e++[s]).isEmpty=false:=by cases e<;>rfl
theorem z6l (n:Nat) (r:RuM):Bel n (ruV r):=.agg _ fun i hi=>by
 have:∀y∈([.sl 3 (mvs3 r.src),.sl 3 (mvs3 r.tgt),Bo r.any,Fl r.lo,Fl r.hi,.sl 1 (txs r.eq)]:List AV),Bel n y:=by
  intro y hy;simp only[List.mem_cons,List.not_mem_nil,or_false]at hy;rcases hy with rfl|rfl|rfl|rfl|rfl|rfl
  · exact z0N _ _
  · exact z0N _ _
  · exact .pl _
  · exact .pl _
  · exact .pl _
  · exact z1G _ _
 exact this _ (List.getElem_mem hi)
def noRu:RuM:=⟨[],[],false,0,0,[]⟩
abbrev Z6:Ob:=.box [.nils,.nils,Bo false,Fl 0,Fl 0,.nils]
def noRuV:AV:=.agg [.nils,.nils,Bo false,Fl 0,Fl 0,.nils]
theorem z4Z:Sub noRuV (ruV noRu):=.agg (.cons (.nils 3) (.cons (.nils 3) (.cons (.refl _) (.cons (.refl _) (.cons (.refl _) (.cons (.nils 1) .nil))))))
theorem z3a (n:Nat):Bel n noRuV:=.agg _ fun i hi=>by
 have:∀y∈([.nils,.nils,Bo false,Fl 0,Fl 0,.nils]:List AV),Bel n y:=by
  intro y hy;simp only[List.mem_cons,List.not_mem_nil,or_false]at hy;rcases hy with rfl|rfl|rfl|rfl|rfl|rfl
  · exact .nils
  · exact .nils
  · exact .pl _
  · exact .pl _
  · exact .pl _
  · exact .nils
 exact this _ (List.getElem_mem hi)
section
variable (σ:St)
set_option maxHeartbeats 4000000 in
theorem z6m (b:Byt) (hb:b.length≤50000):Ans Try.prog 38 [.sl 1 (byv b)] σ (readV (ruR b) b ruV noRuV) σ:=by
 have hS:=(z9y b).top;refine Ans.of_run' t38 (fun hbel _=>?_)
 simp -implicitDefEqProofs only[c38,r38,go_sem];refine CO.intro (z3g _ b) ?_
 have hs2:∀q,ruS b q=(mkRu ((runR listR [] b q).1,(runR listR [] b (runR listR [] b q).2).1,(runR bandR (false,0,0) b (runR listR [] b (runR listR [] b q).2).2).1,(rowSt 4 b (runR (textR 12) ⟨#[]⟩ b) (runR bandR (false,0,0) b (runR listR [] b (runR listR [] b q).2).2).2).1),
   took (rowSt 4 b (runR (textR 12) ⟨#[]⟩ b) (runR bandR (false,0,0) b (runR listR [] b (runR listR [] b q).2).2).2).2 0 (ruIs (mkRu ((runR listR [] b q).1,(runR listR [] b (runR listR [] b q).2).1,(runR bandR (false,0,0) b (runR listR [] b (runR listR [] b q).2).2).1,(rowSt 4 b (runR (textR 12) ⟨#[]⟩ b) (runR bandR (false,0,0) b (runR listR [] b (runR listR [] b q).2).2).2).1)))):=fun q=>rfl
 rw[hs2]at hS;have h1:=z5D (σ++[Z6,rob b (0,false)]) (σ.length+1) b (0,false) (g1 _ _ _ _) (Inb0 b) hb;rw[s1]at h1;have i1:=z08 listR [] b (0,false) (Inb0 b);generalize runR listR [] b (0,false)=w1 at h1 i1 hS;obtain⟨m1,q1⟩:=w1;simp only at h1 i1 hS;have h2:=z5D (σ++[Z6,rob b q1]) (σ.length+1) b q1 (g1 _ _ _ _) i1 hb;rw[s1]at h2;have i2:=z08 listR [] b q1 i1;generalize runR listR [] b q1=w2 at h2 i2 hS;obtain⟨m2,q2⟩:=w2;simp only at h2 i2 hS;have h3:=z8v (σ++[Z6,rob b q2]) (σ.length+1) b q2 (g1 _ _ _ _) i2 hb;rw[s1]at h3;have i3:=z08 bandR (false,0,0) b q2 i2;generalize runR bandR (false,0,0) b q2=w3 at h3 i3 hS;obtain⟨⟨any,lo,hi⟩,q3⟩:=w3;unfold bandV at h3;simp only at h3 i3 hS;simp -implicitDefEqProofs only[go_sem,List.append_assoc,List.length_append];refine CO.intro h1 ?_;simp -implicitDefEqProofs only[go_sem];refine CO.intro h2 ?_;simp -implicitDefEqProofs only[go_sem];refine CO.intro h3 ?_;unfold rowSt at hS;have h4:=z1T (σ++[Z6,rob b q3,.box [mlV m1,mlV m2,Bo any,Fl lo,Fl hi,.nils]]) (σ.length+1) b q3 4 (by decide) (g1 _ _ _ _) i3 hb
 rw[s1]at h4;have i4:=z08 (numR 4) 0 b q3 i3;have hn4:=z1V (most:=4) b q3;generalize runR (numR 4) 0 b q3=w4 at h4 i4 hS hn4;obtain⟨n,q4⟩:=w4;simp only at h4 i4 hS hn4;simp -implicitDefEqProofs only[go_sem,List.append_assoc,List.length_append,g0,g1,g2,s0,s1,s2];refine CO.intro h4 ?_;simp -implicitDefEqProofs only[go_sem]
 refine Go.Ab.L.count n (fun i=>mkE 44 [(2,.ptr σ.length 0),(5,.ptr (σ.length+1) 0),(6,.ptr (σ.length+2) 0),(19,UN n),(20,UN i)])
  (fun i=>σ++Z6::rob b (itSt (runR (textR 12) ⟨#[]⟩ b) q4 i).2::.box [mlV m1,mlV m2,Bo any,Fl lo,Fl hi,txC (σ.length+3) (itSt (runR (textR 12) ⟨#[]⟩ b) q4 i).1]::txS (itSt (runR (textR 12) ⟨#[]⟩ b) q4 i).1) ?_ ?_ rfl rfl
 · intro i hin J hJ;have hit:=z1A (z08 (textR 12) ⟨#[]⟩ b) q4 i4 i;have hlen:=z29 (runR (textR 12) ⟨#[]⟩ b) q4 i;simp only[itSt]at hJ;generalize itSt (runR (textR 12) ⟨#[]⟩ b) q4 i=c at hJ hit hlen⊢;obtain⟨l,q⟩:=c;simp only at hJ hit hlen⊢;have d0:decide ((i:Int)<n)=true:=dec_lt hin;have w0:=z1y (n:=i+1) (by omega)
   have e0:((i:Int)+1)=((i+1:Nat):Int):=rfl;have h5:=z2a (σ++Z6::rob b q::.box [mlV m1,mlV m2,Bo any,Fl lo,Fl hi,txC (σ.length+3) l]::txS l) (σ.length+1) b q 12 (by decide) (g1 _ _ _ _) hit hb
   rw[s1]at h5;generalize runR (textR 12) ⟨#[]⟩ b q=w5 at h5 hJ;obtain⟨s,q5⟩:=w5;simp only at h5 hJ;rw[z8w _ (z6Y l s),z8x (z6Y l s),z9B]at hJ;rw[List.length_append,List.length_singleton]at hJ
   cases hem:l.isEmpty with
   |true =>
    have hle:l=[]:=List.isEmpty_iff.1 hem;subst hle;unfold txC txS at h5⊢;simp only[List.isEmpty_nil,if_true]at h5⊢;simp -implicitDefEqProofs only[mkE,go_sem,d0,g0,g1,g2,s0,s1,s2];refine CD.intro h5 ?_;have p32:((1:Nat)≤2^32)=True:=eq_true (by decide)
    simp -implicitDefEqProofs only[go_sem,g0,g1,g2,s0,s1,s2,w0,e0,p32,List.length_append,List.append_assoc,List.length_cons,List.length_nil];exact hJ
   |false =>
    rw[z8w _ hem,z8x hem]at h5⊢;have hll:l.length+1≤4294967296:=by omega
    simp -implicitDefEqProofs only[mkE,go_sem,d0,g0,g1,g2,s0,s1,s2];refine CD.intro h5 ?_;simp -implicitDefEqProofs only[go_sem,g0,g1,g2,g3,s0,s1,s2,s3,w0,e0,z1l,hll,List.length_singleton];exact hJ
 · intro J;have hit:=z1A (z08 (textR 12) ⟨#[]⟩ b) q4 i4 n;have hlen:=z29 (runR (textR 12) ⟨#[]⟩ b) q4 n;generalize itSt (runR (textR 12) ⟨#[]⟩ b) q4 n=c at hS hit hlen⊢;obtain⟨l,q⟩:=c;simp only at hS hit hlen⊢;have d0:decide ((n:Int)<n)=false:=by simp
   have hru:=fun s=>z1b s (mkRu (m1,m2,(any,lo,hi),l))
   generalize ruIs (mkRu (m1,m2,(any,lo,hi),l))=ok at hru hS
   cases hem:l.isEmpty with
   |true =>
    have hle:l=[]:=List.isEmpty_iff.1 hem;subst hle;unfold txC txS;simp only[List.isEmpty_nil,if_true];have h6:=z06 (σ++[Z6,rob b q,.box [mlV m1,mlV m2,Bo any,Fl lo,Fl hi,.sl 1 (txs [])]]) (σ.length+1) b q ok (g1 _ _ _ _) hit hb;rw[s1]at h6;generalize took q 0 ok=qe at h6 hS;have h7:=z2k (σ++[Z6,rob b qe,.box [mlV m1,mlV m2,Bo any,Fl lo,Fl hi,.sl 1 (txs [])]]) (σ.length+1) b qe (g1 _ _ _ _);simp -implicitDefEqProofs only[mkE,go_sem,d0,zaJ,g0,g1,g2,g3,s0,s1,s2,s3];refine CO.intro (hru _) ?_;simp -implicitDefEqProofs only[go_sem];refine CO.intro h6 ?_;simp -implicitDefEqProofs only[go_sem];refine CO.intro h7 ?_
    cases hr:ruR b with
    |none =>
     have hb2:=hS.2 hr;obtain⟨qa,qb⟩:=qe;simp only at hb2;subst hb2;simp -implicitDefEqProofs only[go_sem,g0,g1,g2,g3,s0,s1,s2,s3];exact Fini.trim2 (σ':=σ) (ex:=[_,_,_]) (by simp -implicitDefEqProofs only[go_sem,resA,z03,rvA,oneOf,g0];rfl) rfl (Nat.le_refl _) (by unfold readV;exact z0P (z3a _)) hbel
    |some p =>
     obtain⟨M,t⟩:=p;have hb2:=hS.1 M t hr;simp only[Prod.mk.injEq]at hb2;obtain⟨rfl,rfl⟩:=hb2;simp -implicitDefEqProofs only[go_sem,g0,g1,g2,g3,s0,s1,s2,s3];exact Fini.trim2 (σ':=σ) (ex:=[_,_,_]) (by simp -implicitDefEqProofs only[go_sem,resA,z03,rvA,oneOf,g0];rfl) rfl (Nat.le_refl _) (by unfold readV;exact z0P (z6l _ _)) hbel
   |false =>
    rw[z8w _ hem,z8x hem];have ne32:(σ.length+3≠σ.length+2)=True:=eq_true (by omega)
    have h6:=z06 (σ++[Z6,rob b q,.box [mlV m1,mlV m2,Bo any,Fl lo,Fl hi,.sl 1 (txs l)],.dead]) (σ.length+1) b q ok (g1 _ _ _ _) hit hb;rw[s1]at h6;generalize took q 0 ok=qe at h6 hS;have h7:=z2k (σ++[Z6,rob b qe,.box [mlV m1,mlV m2,Bo any,Fl lo,Fl hi,.sl 1 (txs l)],.dead]) (σ.length+1) b qe (g1 _ _ _ _);simp -implicitDefEqProofs only[mkE,go_sem,d0,z1l,ne32,g0,g1,g2,g3,s0,s1,s2,s3];refine CO.intro (hru _) ?_;simp -implicitDefEqProofs only[go_sem];refine CO.intro h6 ?_;simp -implicitDefEqProofs only[go_sem];refine CO.intro h7 ?_
    cases hr:ruR b with
    |none =>
     have hb2:=hS.2 hr;obtain⟨qa,qb⟩:=qe;simp only at hb2;subst hb2;simp -implicitDefEqProofs only[go_sem,g0,g1,g2,g3,s0,s1,s2,s3];exact Fini.trim2 (σ':=σ) (ex:=[_,_,_,_]) (by simp -implicitDefEqProofs only[go_sem,resA,z03,rvA,oneOf,g0];rfl) rfl (Nat.le_refl _) (by unfold readV;exact z0P (z3a _)) hbel
    |some p =>
     obtain⟨M,t⟩:=p;have hb2:=hS.1 M t hr;simp only[Prod.mk.injEq]at hb2;obtain⟨rfl,rfl⟩:=hb2;simp -implicitDefEqProofs only[go_sem,g0,g1,g2,g3,s0,s1,s2,s3];exact Fini.trim2 (σ':=σ) (ex:=[_,_,_,_]) (by simp -implicitDefEqProofs only[go_sem,resA,z03,rvA,oneOf,g0];rfl) rfl (Nat.le_refl _) (by unfold readV;exact z0P (z6l _ _)) hbel
theorem z4z (b:Byt) (hb:b.length≤50000):Ans Try.prog 38 [.sl 1 (byv b)] σ (readV (ruR b) b ruV (ruV noRu)) σ:=by
 refine(z6m σ b hb).subR ?_;unfold readV
 cases ruR b with
 |none=>exact .tup (.cons z4Z (.refl _))
 |some p=>exact .refl _
end
end Go.Proofs.Ytmkmhhjkdaklbaa
namespace Go.Ab
open Go Go.ChangeShapes Go.WideShapes
theorem Reads.weak {P:Program} {t:TypeId} {f:Nat} {Q Q':List AV→Prop} (h:Reads P t f Q) (hq:∀xs,Q xs→∃ys,Q' ys∧Subs xs ys):Reads P t f Q':=by
 intro H enc W cs x hx;obtain⟨xs,h1,h2⟩:=h H enc W cs x hx;obtain⟨ys,h3,h4⟩:=hq xs h2;exact⟨ys,h4.reps h1,h3⟩
def zbt:List AV→Prop:=fun xs=>∃n:Nat,xs=[.pl (.float .f64 n)]
theorem Reads.float {P:Program} {t:TypeId} (ht:P.underlying t=some (.float .f64)) (f:Nat):Reads P t f zbt:=by
 intro H enc W cs x h
 have:∃n,cs=[.float .f64 n]:=by
  cases f with
  |zero=>simp[DataW.trod]at h
  |succ n =>
   unfold DataW.trod at h;rw[ht]at h;split at h<;>simp_all
 obtain⟨n,rfl⟩:=this;exact⟨_,z2w (.pl _),n,rfl⟩
def QSl (sz:Nat) (ag:Bool) (Q:List AV→Prop):List AV→Prop:=fun xs=>∃ys:List (List AV),(∀y∈ys,Q y)∧ys.length≤maxLen∧xs=[.sl sz (ys.map (wrapC ag))]
theorem QSlice.weak {sz:Nat} {ag:Bool} {Q:List AV→Prop} (xs:List AV) (h:QSlice sz ag Q xs):∃ys,QSl sz ag Q ys∧Subs xs ys:=by
 rcases h with rfl|⟨ys,h1,h2,rfl⟩
 · exact⟨_,⟨[],by simp,by simp,rfl⟩,.cons (.nils sz) .nil⟩
 · exact⟨_,⟨ys,h1,h2,rfl⟩,Subs.refl _⟩
end Go.Ab
namespace Go.Proofs.Ytmkmhhjkdaklbaa
open Go Go.Ab Go.ChangeShapes Go.WideShapes Go.ChangeAt Go.RowKit
set_option maxRecDepth 100000
section
variable {H:Type} {enc:TypeId×Value→H} {W:World} {base:Nat} {v:Value} {d:DataW H} {ps:List MemPlace}
end
end Go.Proofs.Ytmkmhhjkdaklbaa
namespace Go.Proofs.Ytmkmhhjkdaklbaa
open Go Go.Ab Go.Cod Go.ChangeShapes Go.WideShapes Go.ChangeAt Go.RowKit
set_option maxRecDepth 100000
theorem wf8 {n:Int} (h:(Lit.int .u8 n).wf=true):0≤n∧n<256:=by
 simp[Lit.wf,IntKind.min,IntKind.max,IntKind.bits,IntKind.signed]at h;omega
theorem z8y:∀{ys:List (List AV)},(∀y∈ys,QInt .u8 y)→∃b:Byt,ys.map (wrapC false)=byv b
 |[],_=>⟨[],rfl⟩
 |y::ys,h=>by
  obtain⟨m,hm,rfl⟩:=h y List.mem_cons_self;obtain⟨b,hb⟩:=z8y (ys:=ys) (fun z hz=>h z (List.mem_cons_of_mem _ hz))
  obtain⟨h0,h1⟩:=wf8 hm;obtain⟨n,rfl⟩:=Int.eq_ofNat_of_zero_le h0;refine⟨n.toUInt8::b,?_⟩;rw[List.map_cons,hb,z4K,←bc_of (show n<256 by omega)]
  rfl
theorem z9C {H:Type} {enc:TypeId×Value→H} {W:World} {base:Nat} {v:Value} {d:DataW H} {ps:List MemPlace} (hv:Value.okWide Try.prog W .any base 22 v)
  (h:DataW.Trod enc Try.prog W 0 (fun _=>true) true 22 v d ps):∃b:Byt,Rep noM noR W (.sl 1 (byv b)) v:=by
 obtain⟨sa,len,cap,rfl⟩:=okWide_slice Try.underlying22 hv
 obtain⟨x,hx,hq⟩:=Reads.arg (P:=Try.prog) (t:=22) (Q:=QSlice 1 false (QInt .u8)) (fun f=>by
  cases f with
  |zero=>exact Reads.zero
  |succ f=>exact Reads.slice false Try.underlying22 (by kernel_rfl) (by decide) (Reads.int Try.underlying5 f) (fun y hy _=>by obtain⟨n,_,rfl⟩:=hy;rfl)) rfl h
 rcases hq with hq|⟨ys,hys,_,hq⟩
 · simp only[List.cons.injEq,and_true]at hq;subst hq;refine⟨[],?_⟩;have:=hx.nils_inv;rw[this];exact .sl0 _ _ _
 · obtain⟨b,hn⟩:=z8y hys;simp only[List.cons.injEq,and_true]at hq;subst hq;rw[hn]at hx;exact⟨b,hx⟩
end Go.Proofs.Ytmkmhhjkdaklbaa
namespace Go.Proofs.Ytmkmhhjkdaklbaa
open Go Go.Ab Go.Cod Ieee
set_option maxRecDepth 100000
theorem z1e:bitsF 0=0:=by decide +kernel
end Go.Proofs.Ytmkmhhjkdaklbaa
namespace Go.Proofs.Ytmkmhhjkdaklbaa
open Go Go.Ab Go.Cod
set_option maxRecDepth 100000
abbrev noLb:Lab:=(⟨#[]⟩,⟨#[]⟩)
def valB (v:ByteArray):Bool:=decide (1≤v.size)&&decide (v.size≤24)
def labOk (L:List Lab) (i:Nat):Bool:=nameB (L.getD i noLb).1&&(valB (L.getD i noLb).2&& !(decide (0<i)&&leS (L.getD i noLb).1 (L.getD (i-1) noLb).1))
def setB (L:List Lab):Bool:=decide (1≤L.length)&&(decide (L.length≤6)&&(List.range L.length).all (labOk L))
theorem lvs_D (L:List Lab) (i:Nat) (h:i<L.length):(lvs L)[i]?=some (.agg [Sx (L.getD i noLb).1,Sx (L.getD i noLb).2]):=by
 have:=zay L i h;rw[this,List.getD_eq_getElem?_getD,List.getElem?_eq_getElem h];rfl
theorem z50 (n:Nat) (a b:ByteArray):∀y∈([Sx a,Sx b]:List AV),Bel n y:=by
 intro y hy;simp only[List.mem_cons,List.not_mem_nil,or_false]at hy;rcases hy with rfl|rfl<;>exact .pl _
theorem z13 (n:Nat) (L:List Lab):Bel n (.sl 2 (lvs L)):=by
 refine .sl 2 _ fun i hi=>?_
 have:∀y∈lvs L,Bel n y:=by
  intro y hy;simp only[lvs,List.mem_map]at hy;obtain⟨x,_,rfl⟩:=hy;exact .agg _ fun i hi=>z50 n x.1 x.2 _ (List.getElem_mem hi)
 exact this _ (List.getElem_mem hi)
theorem z6Z (n:Nat) (L:List Lab):Bel n (.sl 2 (lvs L))=True:=eq_true (z13 n L)
theorem BL_lb (n:Nat) (a b:ByteArray):Bel n (.agg [Sx a,Sx b])=True:=eq_true (.agg _ fun i hi=>z50 n a b _ (List.getElem_mem hi))
theorem BL_r2 (n:Nat) (a b:ByteArray):Bel n (.rp [Sx a,Sx b])=True:=eq_true (.rp _ fun i hi=>z50 n a b _ (List.getElem_mem hi))
theorem BL_r1 (n:Nat) (b:ByteArray):Bel n (.rp [Sx b])=True:=eq_true (.rp _ fun i hi=>by
 have:i=0:=by simp at hi;omega
 subst this;exact .pl _)
section
variable (σ:St)
theorem zaK (v:ByteArray):Ans Try.prog 63 [Sx v] σ (Bo (valB v)) σ:=by
 have d1:decide ((1:Int)≤(v.size:Nat))=decide (1≤v.size):=intle 1 v.size;have d2:decide (((v.size:Nat):Int)≤24)=decide (v.size≤24):=intle v.size 24;refine Ans.of_run t63 ?_;unfold valB
 cases h:decide (1≤v.size) with
 |false =>
  simp -implicitDefEqProofs only[c63,r63,go_sem,d1,h];exact Fini.ret rfl
 |true =>
  simp -implicitDefEqProofs only[c63,r63,go_sem,d1,d2,h];exact Fini.ret rfl
theorem z1f (L:List Lab):Ans Try.prog 49 [.sl 2 (lvs L)] σ (Bo (setB L)) σ:=by
 have e1:decide ((L.length:Int)<1)= !decide (1≤L.length):=by
  by_cases h:1≤L.length
  · rw[decide_eq_true h,decide_eq_false (by omega)];rfl
  · rw[decide_eq_false h,decide_eq_true (by omega)];rfl
 have e2:decide ((6:Int)<L.length)= !decide (L.length≤6):=by
  by_cases h:L.length≤6
  · rw[decide_eq_true h,decide_eq_false (by omega)];rfl
  · rw[decide_eq_false h,decide_eq_true (by omega)];rfl
 refine Ans.of_run' t49 (fun hbel hba=>?_)
 have le1:(σ.length≤σ.length+1)=True:=eq_true (by omega)
 have hb0:(∀o∈σ,BelO σ.length o)=True:=eq_true hbel;have htk:∀x:Ob,(σ++[x]).take σ.length=σ:=fun x=>List.take_left' rfl
 unfold setB
 cases h1:decide (1≤L.length) with
 |false =>
  simp -implicitDefEqProofs only[c49,r49,go_sem,z1h,e1,h1];exact Fini.ret rfl
 |true =>
 cases h2:decide (L.length≤6) with
 |false =>
  simp -implicitDefEqProofs only[c49,r49,go_sem,z1h,e1,e2,h1,h2];exact Fini.ret rfl
 |true =>
 have hl6:L.length≤6:=of_decide_eq_true h2;simp -implicitDefEqProofs only[c49,r49,go_sem,z1h,e1,e2,h1,h2];refine Go.Ab.L.scan L.length (labOk L) (fun i=>mkE 46 [(0,.sl 2 (lvs L)),(13,.sl 2 (lvs L)),(14,I L.length),(15,I i)]) (fun _=>σ) ?_ ?_ rfl rfl
 · intro i hi hp J hJ;have hx:=lvs_D L i hi;have hF:labOk L i=false→(List.range L.length).all (labOk L)=false:=fun h=>List.all_eq_false.2 ⟨i,List.mem_range.2 hi,by rw[h];decide⟩
   have hin:=wrap_succ (i:=i) (by omega)
   have d0:decide ((0:Int)<i)=decide (0<i):=by rw[Bool.eq_iff_iff];simp
   have hO:labOk L i=(nameB (L.getD i noLb).1&&(valB (L.getD i noLb).2&& !(decide (0<i)&&leS (L.getD i noLb).1 (L.getD (i-1) noLb).1))):=rfl;rw[hO]at hJ hF;generalize L.getD i noLb=x at hJ hF hx;obtain⟨nm,v⟩:=x;simp only at hJ hF hx;have n1:=fun s=>z42 s nm
   have n2:=fun s=>zaK s v
   simp -implicitDefEqProofs only[mkE,go_sem,z17,z1h,z14 hi,dec_lt hi,hx,g0,s0]
   first|refine CD.intro (n1 _) ?_|refine CS.intro n1 ?_
   cases hb1:nameB nm with
   |false =>
    rw[hb1]at hF;rw[hF rfl];simp -implicitDefEqProofs only[go_sem,z17,g0,s0,le1,B_pl,B_any,z4o,B_tup,B_osl,B_ptr,B_sl0,z6Z,BL_lb,BL_r2,BL_r1,htk,Nat.add_zero,hb0,List.length_append];exact Fini.ret rfl
   |true =>
    rw[hb1]at hF hJ;simp -implicitDefEqProofs only[go_sem,z17,g0,s0]
    first|refine CD.intro (n2 _) ?_|refine CS.intro n2 ?_
    cases hb2:valB v with
    |false =>
     rw[hb2]at hF;rw[hF rfl];simp -implicitDefEqProofs only[go_sem,z17,g0,s0,le1,B_pl,B_any,z4o,B_tup,B_osl,B_ptr,B_sl0,z6Z,BL_lb,BL_r2,BL_r1,htk,Nat.add_zero,hb0,List.length_append];exact Fini.ret rfl
    |true =>
     rw[hb2]at hF hJ;by_cases hz:i=0
     · subst hz;have hgo:=hJ rfl;have w01:IntKind.i64.wrap 1=1:=rfl;simp -implicitDefEqProofs only[go_sem,z17,d0,hin,w01,g0,s0,le1,B_pl,B_any,z4o,B_tup,B_osl,B_ptr,B_sl0,z6Z,BL_lb,BL_r2,BL_r1,htk,Nat.add_zero,hb0,List.length_append,Int.natCast_zero];exact hgo
     · have hpos:decide (0<i)=true:=decide_eq_true (by omega)
       have hx1:=lvs_D L (i-1) (by omega)
       have w1:IntKind.i64.wrap ((i:Int)-1)=((i-1:Nat):Int):=by rw[wrapN (by omega) (by omega)];omega
       have hlt1:(((i-1:Nat):Int)<L.length)=True:=by simp;omega
       rw[hpos]at hJ hF;generalize L.getD (i-1) noLb=x1 at hJ hF hx1;obtain⟨nm1,v1⟩:=x1;simp only at hJ hF hx1;have hle:(Op.bytesLess nm.toList nm1.toList||nm.toList==nm1.toList)=leS nm nm1:=rfl;simp -implicitDefEqProofs only[go_sem,z17,d0,hpos,w1,z1h,hlt1,hx1,hle,g0,s0,hin,g0,s0,le1,B_pl,B_any,z4o,B_tup,B_osl,B_ptr,B_sl0,z6Z,BL_lb,BL_r2,BL_r1,htk,Nat.add_zero,hb0,List.length_append]
       cases h7:leS nm nm1 with
       |true =>
        rw[h7]at hF;rw[hF rfl];simp -implicitDefEqProofs only[go_sem];exact Fini.ret rfl
       |false =>
        rw[h7]at hJ;have hgo:=hJ rfl;simp -implicitDefEqProofs only[go_sem,hin];exact hgo
 · intro hp J;have hd:decide ((L.length:Int)<L.length)=false:=by simp
   simp -implicitDefEqProofs only[mkE,go_sem,z1h,hd];refine Fini.ret' rfl (z1z ?_);exact(List.all_eq_true.2 fun i hi=>hp i (List.mem_range.1 hi)).symm
end
def labR:Rd Lab:=seqR (textR 12) (textR 24)
def setR:Rd (List Lab):=onlyR (rowR 6 labR) setB
def putLb (x:Lab):Byt:=txtB x.1++txtB x.2
def z2B (L:List Lab):Byt:=z1F putLb L
theorem lab_fits:Fits labR putLb (fun x=>x.1.size≤12∧x.2.size≤24):=z0q (z1t (by decide)) (z1t (by decide))
theorem z9D:EndsR labR:=lab_fits.ends
theorem z48 {L:List Lab} (h:setB L=true):L.length≤6∧∀x∈L,x.1.size≤12∧x.2.size≤24:=by
 unfold setB at h;simp only[Bool.and_eq_true,decide_eq_true_eq]at h;refine⟨h.2.1,fun x hx=>?_⟩
 obtain⟨i,hi,rfl⟩:=List.getElem_of_mem hx;have h2:=List.all_eq_true.1 h.2.2 i (List.mem_range.2 hi);unfold labOk valB at h2;simp only[Bool.and_eq_true,decide_eq_true_eq]at h2;have e:L.getD i noLb=L[i]:=by rw[List.getD_eq_getElem?_getD,List.getElem?_eq_getElem hi];rfl
 rw[e]at h2;exact⟨z4x h2.1,h2.2.1.2⟩
theorem set_fits:Fits setR z2B (fun L=>setB L=true) :=
 (z21 (z4J (by decide) lab_fits) setB).weaken fun L=>⟨fun h=>h.2,fun h=>⟨z48 h,h⟩⟩
theorem ends_set:EndsR setR:=set_fits.ends
def labS (b:Byt):Nat×Bool→Lab×(Nat×Bool):=seqSt (runR (textR 12) ⟨#[]⟩ b) (runR (textR 24) ⟨#[]⟩ b)
theorem z49 (b:Byt):StepsR b labR (labS b):=z0g (z0a b _ _) (z0a b _ _) (z1v 12)
def setS (b:Byt):Nat×Bool→List Lab×(Nat×Bool):=z0i (rowSt 6 b (labS b)) setB
theorem z8z (b:Byt):StepsR b setR (setS b):=z0u (z3T (z49 b) z9D 6) _
theorem z8A (L:List Lab) (x:Lab):lvs L++[lv x]=lvs (L++[x]):=by simp[lvs]
abbrev lsV (L:List Lab):AV:=.sl 2 (lvs L)
theorem z7v (σ:St) (b:Byt) (hb:b.length≤50000):Ans Try.prog 40 [.sl 1 (byv b)] σ (readV (setR b) b lsV .nils) σ:=by
 have hS:=(z8z b).top;refine Ans.of_run' t40 (fun hbel _=>?_)
 simp -implicitDefEqProofs only[c40,r40,go_sem];refine CO.intro (z3g σ b) ?_;simp -implicitDefEqProofs only[go_sem,List.append_assoc,List.length_append];generalize hq1:runR (numR 6) 0 b (0,false)=q1;have hin0:Inb b (0,false):=Nat.zero_le _;have hn:=z1T (σ++[rob b (0,false),.row 2 []]) σ.length b (0,false) 6 (by decide) (g0 _ _ _) hin0 hb
 rw[hq1,s0]at hn;refine CO.intro hn ?_;have hn5:q1.1≤6:=by rw[←hq1];exact z1V b _
 have hin1:Inb b q1.2:=by rw[←hq1];exact z08 _ _ _ _ hin0
 simp -implicitDefEqProofs only[go_sem];refine Go.Ab.L.count q1.1 (fun i=>mkE 37 [(5,.ptr σ.length 0),(6,.osl (σ.length+1) i),(12,UN q1.1),(13,UN i)]) (fun i=>σ++[rob b (itSt (labS b) q1.2 i).2,.row 2 (lvs (itSt (labS b) q1.2 i).1)]) ?_ ?_ rfl rfl
 · intro i hi J hJ;have hitI:=z1A (z49 b).inb q1.2 hin1 i;have hlen:=z29 (labS b) q1.2 i;simp only[itSt]at hJ;generalize itSt (labS b) q1.2 i=c at hJ hitI hlen⊢;obtain⟨l,q⟩:=c;simp only at hJ hitI hlen⊢;have d0:decide ((i:Int)<q1.1)=true:=dec_lt hi;have w0:=z1y (n:=i+1) (by omega)
   have e0:((i:Int)+1)=((i+1:Nat):Int):=rfl;unfold labS seqSt at hJ;simp only at hJ;simp -implicitDefEqProofs only[mkE,go_sem,d0];have h2:=z2a (σ++[rob b q,.row 2 (lvs l)]) σ.length b q 12 (by decide) (g0 _ _ _) hitI hb
   have hi3:=z08 (textR 12) ⟨#[]⟩ b q hitI;generalize runR (textR 12) ⟨#[]⟩ b q=r2 at h2 hi3 hJ;rw[s0]at h2;refine CO.intro h2 ?_;have h3:=z2a (σ++[rob b r2.2,.row 2 (lvs l)]) σ.length b r2.2 24 (by decide) (g0 _ _ _) hi3 hb
   generalize runR (textR 24) ⟨#[]⟩ b r2.2=r3 at h3 hJ;rw[s0]at h3;simp -implicitDefEqProofs only[go_sem];refine CO.intro h3 ?_;have hl:(lvs l).length=i:=by rw[z1h,hlen]
   have hle:i+1≤4294967296:=by omega
   have hsn:=z8A l (r2.1,r3.1);simp -implicitDefEqProofs only[go_sem,g1,s1,hl,hle,List.length_singleton,e0,w0];rw[←hsn]at hJ;exact hJ
 · intro J;have hitI:=z1A (z49 b).inb q1.2 hin1 q1.1;have hlen:=z29 (labS b) q1.2 q1.1
   have hL:setS b (0,false)=((itSt (labS b) q1.2 q1.1).1,took (itSt (labS b) q1.2 q1.1).2 0 (setB (itSt (labS b) q1.2 q1.1).1)):=by
    unfold setS z0i rowSt;rw[hq1]
   rw[hL]at hS;generalize itSt (labS b) q1.2 q1.1=c at hS hitI hlen⊢;obtain⟨l,q⟩:=c;simp only at hS hitI hlen⊢;have hl:(lvs l).length=q1.1:=by rw[z1h,hlen]
   have d0:decide ((q1.1:Int)<q1.1)=false:=by simp
   simp -implicitDefEqProofs only[mkE,go_sem,d0,g1,s1,hl];refine CO.intro (z1f _ l) ?_;have h2:=z06 (σ++[rob b q,.dead]) σ.length b q (setB l) (g0 _ _ _) hitI hb;rw[s0]at h2;simp -implicitDefEqProofs only[go_sem];refine CO.intro h2 ?_;have h3:=z2k (σ++[rob b (took q 0 (setB l)),.dead]) σ.length b (took q 0 (setB l)) (g0 _ _ _);simp -implicitDefEqProofs only[go_sem];refine CO.intro h3 ?_;have hbm:Bel σ.length (.sl 2 (lvs l)):=z13 _ _
   cases hr:setR b with
   |none =>
    have hb2:=hS.2 hr;rw[hb2];simp -implicitDefEqProofs only[go_sem];exact Fini.trim2 (σ':=σ) rfl rfl (Nat.le_refl _) (by unfold readV;exact z0P .nils) hbel
   |some p =>
    obtain⟨M,t⟩:=p;have hb2:=hS.1 M t hr;simp only[Prod.mk.injEq]at hb2;obtain⟨rfl,hb2⟩:=hb2;rw[hb2];simp -implicitDefEqProofs only[go_sem];refine Fini.trim2 (σ':=σ) rfl rfl (Nat.le_refl _) ?_ hbel;unfold readV;exact z0P hbm
theorem z5H (σ:St) (b:Byt) (hb:b.length≤50000):Ans Try.prog 40 [.sl 1 (byv b)] σ (readV (setR b) b lsV (lsV [])) σ:=by
 refine(z7v σ b hb).subR ?_;unfold readV
 cases setR b with
 |none=>exact .tup (.cons (.nils 2) (.refl _))
 |some p=>exact .refl _
section
variable (σ:St) (p:Nat) (b:Byt) (q:Nat×Bool)
theorem zbu (h:σ[p]?=some (rob b q)) (hq:Inb b q) (hb:b.length≤50000):Ans Try.prog 39 [.ptr p 0,.fn 40 [] []] σ (lsV (runR setR [] b q).1) (σ.set p (rob b (runR setR [] b q).2)):=by
 obtain⟨a,bad⟩:=q;have hq:a≤b.length:=hq;have hl:(b.drop a).length≤50000:=by rw[List.length_drop];omega
 cases hr:setR (b.drop a) with
 |none =>
  have hrd:=z5H σ (b.drop a) hl;rw[z2x hr]at hrd
  have e:runR setR [] b (a,bad)=([],(a,true)):=by
   cases bad
   · exact z0F hr
   · exact z0j _ _ _ _
  have e2:took (a,bad) 0 false=(a,true):=by cases bad<;>rfl
  have ht:=z0C σ p b (a,bad) 0 false h (by simp only;omega)
  rw[e2]at ht;rw[e]
  have:Ans Try.prog 39 [.ptr p 0,.fn 40 [] []] σ .nils (σ.set p (rob b (a,true))):=by
   refine Ans.of_run t39 ?_;simp -implicitDefEqProofs only[c39,r39,go_sem];refine CO.intro (z0B σ p b (a,bad) h hq) ?_;simp -implicitDefEqProofs only[go_sem];refine CO.intro hrd ?_;simp -implicitDefEqProofs only[go_sem];refine CO.intro ht ?_;simp -implicitDefEqProofs only[go_sem];exact Fini.ret rfl
  exact this.subR (.nils 2)
 |some x =>
  obtain⟨x,t⟩:=x;have hrd:=z5H σ (b.drop a) hl;rw[z2y hr]at hrd;have hdr:=ends_set.drop hq hr;have ht:=z0C σ p b (a,bad) ((b.drop a).length-t.length) true h (by simp only[List.length_drop];omega)
  cases bad with
  |true =>
   have e2:took (a,true) ((b.drop a).length-t.length) true=(a,true):=rfl;rw[e2]at ht;rw[z0j]
   have:Ans Try.prog 39 [.ptr p 0,.fn 40 [] []] σ .nils (σ.set p (rob b (a,true))):=by
    refine Ans.of_run t39 ?_;simp -implicitDefEqProofs only[c39,r39,go_sem];refine CO.intro (z0B σ p b (a,true) h hq) ?_;simp -implicitDefEqProofs only[go_sem];refine CO.intro hrd ?_;simp -implicitDefEqProofs only[go_sem];refine CO.intro ht ?_;simp -implicitDefEqProofs only[go_sem];exact Fini.ret rfl
   exact this.subR (.nils 2)
  |false =>
   have e2:took (a,false) ((b.drop a).length-t.length) true=(b.length-t.length,false):=by
    simp only[took,Bool.false_or,Bool.not_true,Bool.false_eq_true,if_false,List.length_drop];congr 1;omega
   rw[e2]at ht;rw[z0o hr];refine Ans.of_run t39 ?_;simp -implicitDefEqProofs only[c39,r39,go_sem];refine CO.intro (z0B σ p b (a,false) h hq) ?_;simp -implicitDefEqProofs only[go_sem];refine CO.intro hrd ?_;simp -implicitDefEqProofs only[go_sem];refine CO.intro ht ?_;simp -implicitDefEqProofs only[go_sem];exact Fini.ret rfl
theorem zbv (h:σ[p]?=some (rob b q)) (hq:Inb b q) (hb:b.length≤50000):Ans Try.prog 37 [.ptr p 0,.fn 38 [] []] σ (ruV (runR ruR noRu b q).1) (σ.set p (rob b (runR ruR noRu b q).2)):=by
 obtain⟨a,bad⟩:=q;have hq:a≤b.length:=hq;have hl:(b.drop a).length≤50000:=by rw[List.length_drop];omega
 have hp:p<σ.length:=(List.getElem?_eq_some_iff.1 h).1;have hz:∀ob,(σ++[ob])[p]?=some (rob b (a,bad)):=fun ob=>by rw[List.getElem?_append_left hp];exact h
 have hst:∀ob X,(σ++[ob]).set p X=σ.set p X++[ob]:=fun ob X=>by rw[List.set_append_left _ _ hp]
 have hlen:∀X,(σ.set p X).length=σ.length:=fun X=>List.length_set
 have gx:∀(X:Ob) (o:Ob) (ex:St),(σ.set p X++o::ex)[σ.length]?=some o:=fun X o ex=>by rw[←hlen X];exact g0 _ _ _
 have sx:∀(X:Ob) (o u:Ob) (ex:St),(σ.set p X++o::ex).set σ.length u=σ.set p X++u::ex:=fun X o u ex=>by rw[←hlen X];exact s0 _ _ _ _
 have gx1:∀(X:Ob) (o o2:Ob) (ex:St),(σ.set p X++o::o2::ex)[σ.length+1]?=some o2:=fun X o o2 ex=>by rw[←hlen X];exact g1 _ _ _ _
 have hbo:∀(hbel:∀o∈σ,BelO σ.length o) (q:Nat×Bool),∀o∈σ.set p (rob b q),BelO (σ.set p (rob b q)).length o:=fun hbel q=>by
  rw[hlen]
  exact z1x hbel (fun c hc=>by
   simp only[List.mem_cons,List.not_mem_nil,or_false]at hc;rcases hc with rfl|rfl|rfl
   · exact z1i _ _
   · exact .pl _
   · exact .pl _)
 cases hr:ruR (b.drop a) with
 |none =>
  have hrd:=fun s=>z4z s (b.drop a) hl
  simp only[z2x hr]at hrd
  have e:runR ruR noRu b (a,bad)=(noRu,(a,true)):=by
   cases bad
   · exact z0F hr
   · exact z0j _ _ _ _
  have e2:took (a,bad) 0 false=(a,true):=by cases bad<;>rfl
  have ht:=fun ob=>z0C (σ++[ob]) p b (a,bad) 0 false (hz ob) (by simp only;omega)
  simp only[e2,hst]at ht;rw[e]
  have:Ans Try.prog 37 [.ptr p 0,.fn 38 [] []] σ noRuV (σ.set p (rob b (a,true))):=by
   refine Ans.of_run' t37 (fun hbel _=>?_)
   simp -implicitDefEqProofs only[c37,r37,go_sem];refine CO.intro (z0B _ p b (a,bad) (hz _) hq) ?_;simp -implicitDefEqProofs only[go_sem];refine CO.intro (hrd _) ?_;simp -implicitDefEqProofs only[go_sem,ruV];refine CO.intro (ht _) ?_;simp -implicitDefEqProofs only[go_sem,gx,sx,gx1,List.append_assoc,List.length_append,hlen];exact Fini.trim2 (σ':=σ.set p (rob b (a,true))) (ex:=[_,_]) (by simp -implicitDefEqProofs only[go_sem,resA,z03,rvA,oneOf,gx]<;>rfl) rfl (by rw[hlen];exact Nat.le_refl _) (z3a _) (hbo hbel _)
  exact this.subR z4Z
 |some x =>
  obtain⟨x,t⟩:=x;have hrd:=fun s=>z4z s (b.drop a) hl
  simp only[z2y hr]at hrd;have hdr:=ends_ru.drop hq hr;have ht:=fun ob=>z0C (σ++[ob]) p b (a,bad) ((b.drop a).length-t.length) true (hz ob) (by simp only[List.length_drop];omega)
  simp only[hst]at ht
  cases bad with
  |true =>
   have e2:took (a,true) ((b.drop a).length-t.length) true=(a,true):=rfl;rw[e2]at ht;rw[z0j]
   have:Ans Try.prog 37 [.ptr p 0,.fn 38 [] []] σ noRuV (σ.set p (rob b (a,true))):=by
    refine Ans.of_run' t37 (fun hbel _=>?_)
    simp -implicitDefEqProofs only[c37,r37,go_sem];refine CO.intro (z0B _ p b (a,true) (hz _) hq) ?_;simp -implicitDefEqProofs only[go_sem];refine CO.intro (hrd _) ?_;simp -implicitDefEqProofs only[go_sem,ruV];refine CO.intro (ht _) ?_;simp -implicitDefEqProofs only[go_sem,gx,sx,gx1,List.append_assoc,List.length_append,hlen];exact Fini.trim2 (σ':=σ.set p (rob b (a,true))) (ex:=[_,_]) (by simp -implicitDefEqProofs only[go_sem,resA,z03,rvA,oneOf,gx]<;>rfl) rfl (by rw[hlen];exact Nat.le_refl _) (z3a _) (hbo hbel _)
   exact this.subR z4Z
  |false =>
   have e2:took (a,false) ((b.drop a).length-t.length) true=(b.length-t.length,false):=by
    simp only[took,Bool.false_or,Bool.not_true,Bool.false_eq_true,if_false,List.length_drop];congr 1;omega
   rw[e2]at ht;rw[z0o hr];refine Ans.of_run' t37 (fun hbel _=>?_)
   simp -implicitDefEqProofs only[c37,r37,go_sem];refine CO.intro (z0B _ p b (a,false) (hz _) hq) ?_;simp -implicitDefEqProofs only[go_sem];refine CO.intro (hrd _) ?_;simp -implicitDefEqProofs only[go_sem,ruV];refine CO.intro (ht _) ?_;simp -implicitDefEqProofs only[go_sem,gx,sx,gx1,List.append_assoc,List.length_append,hlen];exact Fini.trim2 (σ':=σ.set p (rob b (b.length-t.length,false))) (ex:=[_]) (by simp -implicitDefEqProofs only[go_sem,resA,z03,rvA,oneOf,gx]<;>rfl) rfl (by rw[hlen];exact Nat.le_refl _) (z6l _ x) (hbo hbel _)
end
structure ReM where
 tok:ByteArray
 op:Int
 id:Int
 txt:ByteArray
 st:Nat
 en:Nat
 sta:Int
 mt:List Mtr
 any:Bool
 lo:Nat
 hi:Nat
 ru:RuM
 ls:List Lab
 val:Nat
def reC (r:ReM):List AV:=[Sx r.tok,I r.op,I r.id,Sx r.txt,UN r.st,UN r.en,I r.sta,mlV r.mt,Bo r.any,Fl r.lo,Fl r.hi,mlV r.ru.src,mlV r.ru.tgt,Bo r.ru.any,Fl r.ru.lo,Fl r.ru.hi,.sl 1 (txs r.ru.eq),lsV r.ls,Fl r.val]
def reV (r:ReM):AV:=.agg (reC r)
def fTab:List Int:=[0,1,3,3,116,117,1,8,128,1,768,1,16,0,1,0,0]
def fOf (op:Int):Int×Bool:=if 1≤op∧op≤17 then(fTab.getD (op.toNat-1) 0,true) else(0,false)
theorem ops17 (op:Int):op=1∨op=2∨op=3∨op=4∨op=5∨op=6∨op=7∨op=8∨op=9∨op=10∨op=11∨op=12∨op=13∨op=14∨op=15∨op=16∨op=17∨(op<1∨17<op):=by omega
theorem zaa {op:Int} (h:op<1∨17<op):fOf op=(0,false):=by unfold fOf;rw[if_neg (by omega)]
theorem neI {op k:Int} (h:op≠k):(op==k)=false:=by simpa using h
def zF (n:Nat):Bool:=((bitsF n:Nat):Int)==0
def noBd (x:Bnd):Bool:=!x.1&&(zF x.2.1&&zF x.2.2)
def emI (n:Nat):Bool:=((n:Nat):Int)==0
def noRl (r:RuM):Bool:=emI r.src.length&&(emI r.tgt.length&&(emI r.eq.length&&noBd (r.any,r.lo,r.hi)))
def tokB (s:ByteArray):Bool:=decide (4≤s.size)&&decide (s.size≤16)
section
variable (σ:St)
theorem z0G (op:Int):Ans Try.prog 18 [I op] σ (.tup [I (fOf op).1,Bo (fOf op).2]) σ:=by
 refine Ans.of_run t18 ?_;rcases ops17 op with rfl|rfl|rfl|rfl|rfl|rfl|rfl|rfl|rfl|rfl|rfl|rfl|rfl|rfl|rfl|rfl|rfl|h
 all_goals first
  |(rw[zaa h]
    simp -implicitDefEqProofs only[c18,r18,go_sem,neI (op:=op) (k:=1) (by omega),neI (op:=op) (k:=2) (by omega),neI (op:=op) (k:=3) (by omega),neI (op:=op) (k:=4) (by omega),neI (op:=op) (k:=5) (by omega),neI (op:=op) (k:=6) (by omega),neI (op:=op) (k:=7) (by omega),neI (op:=op) (k:=8) (by omega),neI (op:=op) (k:=9) (by omega),neI (op:=op) (k:=10) (by omega),neI (op:=op) (k:=11) (by omega),neI (op:=op) (k:=12) (by omega),neI (op:=op) (k:=13) (by omega),neI (op:=op) (k:=14) (by omega),neI (op:=op) (k:=15) (by omega),neI (op:=op) (k:=16) (by omega),neI (op:=op) (k:=17) (by omega)]
    exact Fini.ret rfl)
  |(simp -implicitDefEqProofs only[c18,r18,go_sem]
    exact Fini.ret rfl)
theorem z0H (n:Nat):Ans Try.prog 59 [Fl n] σ (Bo (zF n)) σ:=by
 refine Ans.of_run t59 ?_;simp -implicitDefEqProofs only[c59,r59,go_sem];refine CO.intro (z2c σ n) ?_;simp -implicitDefEqProofs only[go_sem];exact Fini.ret rfl
theorem z0M (x:Bnd):Ans Try.prog 57 [bandV x] σ (Bo (noBd x)) σ:=by
 obtain⟨a,lo,hi⟩:=x;refine Ans.of_run t57 ?_;unfold bandV noBd;simp only
 cases a with
 |true =>
  simp -implicitDefEqProofs only[c57,r57,go_sem];exact Fini.ret rfl
 |false =>
  simp -implicitDefEqProofs only[c57,r57,go_sem];refine CO.intro (z0H σ lo) ?_
  cases zF lo with
  |false =>
   simp -implicitDefEqProofs only[go_sem];exact Fini.ret rfl
  |true =>
   simp -implicitDefEqProofs only[go_sem];refine CO.intro (z0H σ hi) ?_;simp -implicitDefEqProofs only[go_sem];exact Fini.ret rfl
theorem z0V (r:RuM):Ans Try.prog 58 [ruV r] σ (Bo (noRl r)) σ:=by
 have hb:=z0M σ (r.any,r.lo,r.hi);refine Ans.of_run t58 ?_;unfold ruV noRl emI;unfold bandV at hb
 cases h1:(((r.src.length:Nat):Int)==0) with
 |false =>
  simp -implicitDefEqProofs only[c58,r58,go_sem,z0r,h1];exact Fini.ret rfl
 |true =>
 cases h2:(((r.tgt.length:Nat):Int)==0) with
 |false =>
  simp -implicitDefEqProofs only[c58,r58,go_sem,z0r,h1,h2];exact Fini.ret rfl
 |true =>
 cases h3:(((r.eq.length:Nat):Int)==0) with
 |false =>
  simp -implicitDefEqProofs only[c58,r58,go_sem,z0r,z1l,h1,h2,h3];exact Fini.ret rfl
 |true =>
  simp -implicitDefEqProofs only[c58,r58,go_sem,z0r,z1l,h1,h2,h3];refine CO.intro hb ?_;simp -implicitDefEqProofs only[go_sem];exact Fini.ret rfl
theorem z1H (s:ByteArray):Ans Try.prog 13 [Sx s] σ (Bo (tokB s)) σ:=by
 have d1:decide ((4:Int)≤(s.size:Nat))=decide (4≤s.size):=intle 4 s.size;have d2:decide (((s.size:Nat):Int)≤16)=decide (s.size≤16):=intle s.size 16;refine Ans.of_run t13 ?_;unfold tokB
 cases h:decide (4≤s.size) with
 |false =>
  simp -implicitDefEqProofs only[c13,r13,go_sem,d1,h];exact Fini.ret rfl
 |true =>
  simp -implicitDefEqProofs only[c13,r13,go_sem,d1,d2,h];exact Fini.ret rfl
end
def preS (L:List Lab) (i:Nat):Byt:=putN L.length++z0A putLb (L.take i)
theorem z5I (L:List Lab) (i:Nat) (h:i<L.length):preS L (i+1)=preS L i++(txtB L[i].1++txtB L[i].2):=by
 unfold preS z0A;rw[List.take_succ_eq_append_getElem h,List.flatMap_append,List.append_assoc];simp[putLb]
theorem z70 (L:List Lab):preS L L.length=z2B L:=by unfold preS z2B z1F;rw[List.take_length]
theorem z5J (L:List Lab):preS L 0=putN L.length:=by unfold preS z0A;simp
theorem z51 {L:List Lab} (h:setB L=true):∀i,i≤L.length→(preS L i).length≤10+60*i
 |0,_=>by rw[z5J];have:=z0t (n:=L.length) (by have:=(z48 h).1;omega);omega
 |i+1,hi=>by
  have ih:=z51 h i (by omega)
  have hx:=(z48 h).2 L[i] (List.getElem_mem (by omega))
  have h1:=z1p L[i].1 (by omega)
  have h2:=z1p L[i].2 (by omega)
  rw[z5I L i (by omega),List.length_append,List.length_append]
  omega
def z1P (L:List Lab):Byt:=if setB L then z2B L else[]
section
variable (σ:St)
theorem z7w (L:List Lab):Ans Try.prog 25 [.sl 2 (lvs L)] σ (.sl 1 (byv (z1P L))) σ:=by
 have hi:=fun s=>z1f s L
 unfold z1P
 cases hR:setB L with
 |false =>
  have:Ans Try.prog 25 [.sl 2 (lvs L)] σ .nils σ:=by
   refine Ans.of_run t25 ?_;simp -implicitDefEqProofs only[c25,r25,go_sem];refine CO.intro (hi _) ?_;rw[hR];simp -implicitDefEqProofs only[go_sem];exact Fini.ret rfl
  exact this.subR (.nils 1)
 |true =>
  obtain⟨h1,h2⟩:=z48 hR;have hpl:=z51 hR;have n1:=fun s=>z4L s L.length (by omega)
  rw[←z5J]at n1;have hw:=z1y (n:=L.length) (by omega)
  refine Ans.of_run' t25 (fun hbel _=>?_)
  simp -implicitDefEqProofs only[c25,r25,go_sem];refine CO.intro (hi _) ?_;rw[hR];simp -implicitDefEqProofs only[go_sem,z1h,hw];refine CO.intro (n1 _) ?_;simp -implicitDefEqProofs only[go_sem,z1h];refine Go.Ab.L.count L.length (fun i=>mkE 31 [(3,.osl σ.length (preS L i).length),(13,.sl 2 (lvs L)),(14,I L.length),(15,I i)]) (fun i=>σ++[.row 1 (byv (preS L i))]) ?_ ?_ rfl rfl
  · intro i hi J hJ;have hx:=lvs_D L i hi;rw[List.getD_eq_getElem?_getD,List.getElem?_eq_getElem hi,Option.getD_some]at hx;have hs:=h2 L[i] (List.getElem_mem hi);have hp:=hpl (i+1) (by omega)
    rw[z5I L i hi]at hJ hp;generalize L[i]=s at hx hs hJ hp;generalize preS L i=pre at hJ hp⊢;have hin:=wrap_succ (i:=i) (by omega)
    rw[List.length_append,List.length_append]at hp hJ;have l1:pre.length+(txtB s.1).length≤4294967296:=by omega
    have l2:pre.length+(txtB s.1).length+(txtB s.2).length≤4294967296:=by omega
    simp -implicitDefEqProofs only[mkE,go_sem,z1h,z14 hi,dec_lt hi,hx];refine CO.intro (z1k _ s.1 (by omega)) ?_
    simp -implicitDefEqProofs only[go_sem,g0,s0,z05,z0I,bc,l1];refine CO.intro (z1k _ s.2 (by omega)) ?_
    simp -implicitDefEqProofs only[go_sem,g0,s0,z05,z0I,bc,l1,l2,hin,List.length_append];simp only[z0T,List.append_assoc,Nat.add_assoc]at hJ⊢;exact hJ
  · intro J;have d0:decide ((L.length:Int)<L.length)=false:=by simp
    simp -implicitDefEqProofs only[mkE,go_sem,z1h,d0,g0,s0,z05,z70];exact Fini.trim2 (σ':=σ) (ex:=[_]) rfl rfl (Nat.le_refl _) (z1i _ _) hbel
end
end Go.Proofs.Ytmkmhhjkdaklbaa
