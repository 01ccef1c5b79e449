/- Further operations over abstract values: constant texts as bytes, copy, arrays as slices and back, rows that are cut. No condition. -/
import Derived.Test.YteakobbdgehlgaaGreatDoorAbRun8E3
set_option linter.unusedSimpArgs false
set_option linter.unusedVariables false
set_option linter.unusedSectionVars false
set_option maxHeartbeats 4000000
namespace Go.Ab
open Go Go.Lib
section
variable {P:Program} {M M':Nat→Prop} {σ σ':St} {ν ν':Nat→Value} {w w':World} {R:Ref→Value→Prop}
theorem run_mark {b o:Nat} {c:Array Value} {e:TypeId} {fr:Nat×Nat} (h:w.heap[b]?=some (.cells c e fr)) :
  ∃fr',(markStringish ⟨b,o,none⟩).run P w=.ok () (putRow w b c e fr'):=by
 have u0:w.shape? b=some (e,c.size):=by unfold World.shape?;rw[h]
 obtain⟨lo,hi⟩:=fr;refine⟨if lo==hi then(c.size,c.size+1) else(min lo c.size,max hi (c.size+1)),?_⟩
 have y0:w.freeze ⟨b,c.size,none⟩ 1=putRow w b c e (if lo==hi then(c.size,c.size+1) else(min lo c.size,max hi (c.size+1))):=by
  obtain⟨hb,hh⟩:=Array.getElem?_eq_some_iff.1 h;unfold World.freeze putRow;rw[if_neg (by decide)]
  congr 1
  apply Array.ext_getElem?;intro i;rw[Array.getElem?_setIfInBounds,Array.getElem?_modify];by_cases hi:b=i
  · subst hi;simp[hb,hh]
  · simp[hi]
 simp[markStringish,u0];simpa using y0
theorem z9i {t e:TypeId} {l sz:Nat} {xs:List AV} {x:Value} (g:Good M σ ν w) (ht:P.underlying t=some (.slice e)) (he:P.underlying e=some (.int .u8))
  (hs:σ[l]?=some (.row sz xs)) (h0:0<xs.length) (hr:Rep M (RefOK σ ν) w (.osl l xs.length) x):Yields P (convert t t x) M σ ν w (.sl sz xs) (σ.set l .dead):=by
 obtain⟨a,len,cap,rfl,hR⟩:=hr.osl_inv;have e1:=hR.s_row hs rfl;rcases(g.ob l _ hs).row_inv with⟨e3,rfl⟩|⟨b,o,cap2,c,el,fr,e3,hM,hh,hlen,hsz,hf,hrow⟩
 · simp at h0
 · rw[e3]at e1;simp at e1;obtain⟨rfl,rfl,rfl⟩:=e1;obtain⟨q0,y0⟩:=run_mark (P:=P) (o:=o) hh
   have j0:(convert t t (.slice (some ⟨b,o,none⟩) xs.length cap)).run P w=.ok (.slice (some ⟨b,o,none⟩) xs.length cap) (putRow w b c el q0):=by
    simp[convert,z04 ht,z04 he,y0]
   have u0:∀k,k<w.heap.size→blk (ν l)≠some k→(putRow w b c el q0).heap[k]?=w.heap[k]?:=fun k _ m0=>z13 (fun e=>m0 (by rw[e3,blk,e])) _ _ _
   obtain⟨g',l'⟩:=g.update (ν':=ν) (M':=fun k=>M k∧blk (ν l)≠some k) (w':=putRow w b c el q0) hs (by simp) .dead (fun _ _=>rfl) (by simp) u0
    (fun _ _ h=>h.1) (fun _ h h'=>⟨h,h'⟩) (fun k h=>by simpa using g.lt k h.1) (fun h=>absurd rfl h) (fun _ _ h=>h.set_dead hs) (.dead _)
   refine⟨_,_,_,ν,j0,g',l',?_⟩;refine .sl sz xs b o cap (fun i j=>c[o+(i*sz+j)]?.getD undef) hlen (fun i j hi hj=>?_) (fun i j hi hj=>?_)
   · obtain⟨q1,_⟩:=hrow i j hi hj;have k0:=z2h (i:=i) (k:=cap) (by omega) q1
     refine⟨q1,fun x=>x.2 (by rw[e3];rfl),?_⟩
     rw[cell_of_row _ _ _ _ _ _ (z14 hh c el q0)];simp[show o+(i*sz+j)<c.size by omega]
   · obtain⟨q1,q2⟩:=hrow i j hi hj;have k0:=z2h (i:=i) (k:=cap) (by omega) q1
     exact l'.rep g (q2 _ (by simp[show o+(i*sz+j)<c.size by omega]))
theorem za9 {t t2 ty e:TypeId} {b o n cap m:Nat} {x:Value} {vs:List Value} {c:Array Value} {el:TypeId} {fr:Nat×Nat} (he:P.underlying t=some (.slice e)) (hn:szOf P e=some 1)
  (hk:∀w',(Builtin.lenOf x).run P w'=.ok m w') (hnew:(Builtin.firstCells 1 (Nat.min m n) x).run P w=.ok vs.toArray w) (hvl:vs.length=Nat.min m n) (h1:∀v∈vs,v.oneCell'=true)
  (hh:w.heap[b]?=some (.cells c el fr)) (hs:o+n≤c.size) (hf:∀j,j<n→¬(fr.1≤o+j∧o+j<fr.2)) :
  ∃c',(Builtin.copy_ #[t,t2] ty #[.slice (some ⟨b,o,none⟩) n cap,x]).run P w=.ok (.int .i64 (Nat.min m n:Nat)) (putRow w b c' el fr)∧c'.toList=z0s c.toList o vs:=by
 have hle:vs.length≤n:=by rw[hvl];exact Nat.min_le_right _ _
 obtain⟨c',hr,u0⟩:=z15 (P:=P) b o el fr vs 0 c w hh (by omega) h1 (fun j hj=>by
  have:=hf j (by omega)
  rw[show o+0+j=o+j by omega];exact this)
 refine⟨c',?_,by simpa using u0⟩
 unfold Builtin.copy_;simp only[List.getElem?_toArray,List.getElem?_cons_zero,List.getElem?_cons_succ,Sem.run_bind,z04 he,Result.andThen,hk,z0p hn,hnew,hr,Sem.run_pure,goInt]
theorem set_same {l:Nat} {o:Ob} (hs:σ[l]?=some o):σ.set l o=σ:=by
 apply List.ext_getElem?;intro k;by_cases hk:k=l
 · subst hk;rw[z0m hs,hs]
 · rw[z0A hk]
theorem z5A {t t2 ty e:TypeId} {l:Nat} {xs ys:List AV} {x sv:Value} (g:Good M σ ν w) (he:P.underlying t=some (.slice e)) (hn:szOf P e=some 1) (hx:SrcOK P M (RefOK σ ν) w 1 ys x)
  (hs:σ[l]?=some (.row 1 xs)) (hr:Rep M (RefOK σ ν) w (.osl l xs.length) sv) :
  Yields P (Builtin.copy_ #[t,t2] ty #[sv,x]) M σ ν w (.pl (.int .i64 (Nat.min ys.length xs.length:Nat))) (σ.set l (.row 1 (ys.take (Nat.min ys.length xs.length)++xs.drop (Nat.min ys.length xs.length)))):=by
 have u1:Nat.min ys.length xs.length≤ys.length:=Nat.min_le_left _ _;have hk2:Nat.min ys.length xs.length≤xs.length:=Nat.min_le_right _ _;obtain⟨vs,h0,y1,h1,d0⟩:=hx.part _ u1;rw[Nat.mul_one]at h0;obtain⟨a,len,cap,rfl,hR⟩:=hr.osl_inv;have e1:=hR.s_row hs rfl;rcases(g.ob l _ hs).row_inv with⟨e3,rfl⟩|⟨b,o,cap2,c,el,fr,e3,hM,hh,hlen,hsz,hf,hrow⟩
 · rw[e3]at e1;simp at e1;obtain⟨rfl,rfl,rfl⟩:=e1;have x1:Nat.min ys.length ([]:List AV).length=0:=Nat.min_zero _;have t0:Nat.min ys.length 0=0:=Nat.min_zero _;rw[x1]at d0⊢;have:(ys.take 0++([]:List AV).drop 0)=[]:=by simp
   rw[this,set_same hs];refine .same g (v:=.int .i64 ((0:Nat):Int)) ?_ (.pl _);unfold Builtin.copy_;simp only[List.getElem?_toArray,List.getElem?_cons_zero,List.getElem?_cons_succ,Sem.run_bind,z04 he,Result.andThen,hx.len,z0p hn,t0,d0,Sem.run_pure,goInt]
 · rw[e3]at e1;simp at e1;obtain⟨rfl,rfl,rfl⟩:=e1;obtain⟨c',r0,m0⟩:=za9 (t2:=t2) (ty:=ty) (cap:=cap) he hn hx.len d0 h0 h1 hh (n:=xs.length) (by omega) (fun j hj=>hf j (by omega))
   generalize hkk:Nat.min ys.length xs.length=k at *;have k0:o+vs.length≤c.toList.length:=by simp;omega
   have hcl:c'.size=c.size:=by rw[←Array.length_toList,m0,z0z _ _ _ k0,Array.length_toList]
   have y0:(ys.take k++xs.drop k).length=xs.length:=by simp;omega
   have n0:∀r v,RefOK σ ν r v→RefOK (σ.set l (.row 1 (ys.take k++xs.drop k))) ν r v:=fun r v h=>h.set_row hs y0
   have q0:∀q,q<w.heap.size→blk (ν l)≠some q→(putRow w b c' el fr).heap[q]?=w.heap[q]?:=fun q _ o0=>z13 (fun e=>o0 (by rw[e3,blk,e])) _ _ _
   have u0:∀q,q<w.heap.size→¬M q→¬M q∧(putRow w b c' el fr).heap[q]?=w.heap[q]?:=fun q hq hm=>⟨hm,q0 q hq (fun e=>hm (by rw[e3,blk]at e;simp at e;exact e▸hM))⟩
   have l0:=g.update (ν':=ν) (M':=M) (w':=putRow w b c' el fr) hs (by simp) (.row 1 (ys.take k++xs.drop k)) (fun _ _=>rfl) (by simp) q0 (fun _ _ h=>h) (fun _ h _=>h)
    (fun q h=>by simpa using g.lt q h) (fun _ q h=>.inl h) n0
    (by rw[e3]
        refine ObOK.row' _ y0.symm hM (z14 hh _ _ _) (by omega) (by omega) hf (fun i j hi hj=>?_)
        by_cases hik:i<k
        · have j0:i<(ys.take k).length:=by simp;omega
          simp only[List.getElem_append_left j0]at hj⊢;obtain⟨q1,q2⟩:=y1 i j j0 hj;refine⟨q1,fun v hv=>(q2 v ?_).mono u0 n0⟩
          rw[←Array.getElem?_toList,m0,z0U _ _ _ _ k0,if_pos (by omega)]at hv
          rw[←hv];congr 1;omega
        · have j0:¬i<(ys.take k).length:=by simp;omega
          have e0:(ys.take k).length=k:=by simp;omega
          have j1:i<xs.length:=by omega
          have f0:(ys.take k++xs.drop k)[i]=xs[i]:=by
           rw[List.getElem_append_right (Nat.le_of_not_lt j0)];simp only[List.getElem_drop,e0];congr 1;omega
          simp only[f0]at hj⊢;obtain⟨q1,q2⟩:=hrow i j j1 hj;refine⟨q1,fun v hv=>(q2 v ?_).mono u0 n0⟩
          rw[←Array.getElem?_toList,m0,z0U _ _ _ _ k0,if_neg (by omega),Array.getElem?_toList]at hv
          exact hv)
   exact⟨_,_,M,ν,r0,l0.1,l0.2,.pl _⟩
theorem z5B {t t2 ty e:TypeId} {l off n:Nat} {cs ys:List AV} {x sv:Value} (g:Good M σ ν w) (he:P.underlying t=some (.slice e)) (hn:szOf P e=some 1) (hx:SrcOK P M (RefOK σ ν) w 1 ys x)
  (hs:σ[l]?=some (.box cs)) (hr:Rep M (RefOK σ ν) w (.psl l off n) sv) (hb:off+n≤cs.length) (hone:ys.all AV.one=true) :
  Yields P (Builtin.copy_ #[t,t2] ty #[sv,x]) M σ ν w (.pl (.int .i64 (Nat.min ys.length n:Nat))) (σ.set l (.box (z0s cs off (ys.take (Nat.min ys.length n))))):=by
 have u1:Nat.min ys.length n≤ys.length:=Nat.min_le_left _ _;have hk2:Nat.min ys.length n≤n:=Nat.min_le_right _ _;obtain⟨vs,d0,x1,h1,y1⟩:=hx.part _ u1;rw[Nat.mul_one]at d0;obtain⟨b,o,rfl,hR⟩:=hr.psl_inv;have e:=hR.p_box hs;obtain⟨b',o',c,el,fr,e',hM,hh,hsz,hf,t0⟩:=(g.ob l _ hs).box_inv;rw[e']at e;simp at e;obtain⟨rfl,rfl⟩:=e;obtain⟨c',r0,h0⟩:=za9 (t2:=t2) (ty:=ty) (cap:=n) he hn hx.len y1 d0 h1 hh (n:=n) (o:=o+off) (by omega) (fun j hj=>by rw[Nat.add_assoc];exact hf (off+j) (by omega))
 generalize hkk:Nat.min ys.length n=k at *;have f0:o+off+vs.length≤c.toList.length:=by simp;omega
 have hcl:c'.size=c.size:=by rw[←Array.length_toList,h0,z0z _ _ _ f0,Array.length_toList]
 have hkl:(ys.take k).length=k:=by simp;omega
 have l0:(z0s cs off (ys.take k)).length=cs.length:=z0z _ _ _ (by omega)
 have n0:∀r v,RefOK σ ν r v→RefOK (σ.set l (.box (z0s cs off (ys.take k)))) ν r v:=fun r v h=>h.set_box hs
 have q0:∀q,q<w.heap.size→blk (ν l)≠some q→(putRow w b c' el fr).heap[q]?=w.heap[q]?:=fun q _ o0=>z13 (fun e=>o0 (by rw[e',blk,e])) _ _ _
 have y0:∀q,q<w.heap.size→¬M q→¬M q∧(putRow w b c' el fr).heap[q]?=w.heap[q]?:=fun q hq hm=>⟨hm,q0 q hq (fun e=>hm (by rw[e',blk]at e;simp at e;exact e▸hM))⟩
 have e0:=g.update (ν':=ν) (M':=M) (w':=putRow w b c' el fr) hs (by simp) (.box (z0s cs off (ys.take k))) (fun _ _=>rfl) (by simp) q0 (fun _ _ h=>h) (fun _ h _=>h)
  (fun q h=>by simpa using g.lt q h) (fun _ q h=>.inl h) n0
  (by rw[e']
      refine .box _ b o c' el fr hM (z14 hh _ _ _) (by omega) (fun j hj=>hf j (by omega)) (fun j hj u hu=>?_)
      rw[←Array.getElem?_toList,h0,z0U _ _ _ _ f0]at hu;have k0:=List.getElem?_eq_getElem hj;rw[z0U _ _ _ _ (by omega)]at k0
      by_cases hin:off≤j∧j<off+(ys.take k).length
      · rw[if_pos hin]at k0;rw[if_pos (by omega)]at hu
        obtain⟨m0,j0⟩:=List.getElem?_eq_some_iff.1 k0;have q1:((ys.take k)[j-off]).one=true:=List.all_eq_true.1 hone _ (List.mem_of_mem_take (List.getElem_mem m0));have u0:=AV.one_cells q1;have:=(x1 (j-off) 0 m0 (by rw[u0];simp)).2 u (by rw[Nat.mul_one,Nat.add_zero];rw[←hu];congr 1;omega)
        rw[←j0];simp only[u0,List.getElem_cons_zero]at this;exact this.mono y0 n0
      · rw[if_neg hin]at k0;rw[if_neg (by omega)]at hu
        obtain⟨m0,j0⟩:=List.getElem?_eq_some_iff.1 k0;rw[←j0]
        exact(t0 j m0 u (by rw[←Array.getElem?_toList];exact hu)).mono y0 n0)
 exact⟨_,_,M,ν,r0,e0.1,e0.2,.pl _⟩
theorem z59 {t ty e:TypeId} {l lo sz:Nat} {ag:Bool} {z xs:List AV} {sv:Value} (g:Good M σ ν w) (he:elemOf? P t=some (e,sz)) (hz:zcOf P e=some z)
  (hag:ag=false→sz=1) (hone:z.all AV.one=true) (hzl:z.length=sz) (hs:σ[l]?=some (.row sz xs)) (hlo:lo<xs.length) (hr:Rep M (RefOK σ ν) w (.win sz l xs.length lo) sv) :
  Yields P (Builtin.clear_ #[t] ty #[sv]) M σ ν w (.tup []) (σ.set l (.row sz (xs.take lo++chunks sz ag (xs.length-lo) (z0b z (xs.length-lo))))):=by
 obtain⟨hu,hn,m1⟩:=z1a he;obtain⟨zv,n1,y1⟩:=z3Z hz;obtain⟨_,b,o,cap,rfl,hR⟩:=hr.win_inv;have e1:=hR.s_row hs rfl;rcases(g.ob l _ hs).row_inv with⟨e3,rfl⟩|⟨b2,o2,cap2,c,el,fr,e3,hM,hh,hlen,hsz,hf,hrow⟩
 · simp at hlo
 · rw[e3]at e1;simp at e1;obtain⟨⟨rfl,rfl⟩,rfl⟩:=e1;have t1:zv.cells.size=sz:=((y1 M (RefOK σ ν) w).1.trans Array.length_toList).symm.trans hzl;have q0:=z3f (y1 M (RefOK σ ν) w) (xs.length-lo)
   have y0:∀n,(z0b z n).all AV.one=true:=by
    intro n
    induction n with
    |zero=>rfl
    |succ n ih=>simp only[z0b,List.all_append,hone,ih,Bool.and_self]
   have u1:=z2I hag (xs.length-lo) (z0b z (xs.length-lo)) _ q0 (by rw[z0T,hzl]) (y0 _)
   have h1:=q0.one (y0 _);have hvl:(Builtin.zeroCells zv.cells (xs.length-lo)).toList.length=(xs.length-lo)*sz:=by rw[Array.length_toList,size_zeroCells,t1]
   have r1:((Array.range ((xs.length-lo)*zv.cells.size)).map (zv.cells[·%zv.cells.size]!))=Builtin.zeroCells zv.cells (xs.length-lo):=rfl;rw[r1]at u1 h1;generalize j1:(Builtin.zeroCells zv.cells (xs.length-lo)).toList=vs at *;have hmul:xs.length*sz=lo*sz+(xs.length-lo)*sz:=by rw[←Nat.add_mul];congr 1;omega
   have x1:xs.length*sz≤cap*sz:=Nat.mul_le_mul_right _ hlen
   obtain⟨c',k1,t0⟩:=z15 (P:=P) b (o+lo*sz) el fr vs 0 c w hh (by omega) h1 (fun j hj=>by
    have:=hf (lo*sz+j) (by omega)
    rw[show o+lo*sz+0+j=o+(lo*sz+j) by omega];exact this)
   simp only[Nat.add_zero]at t0
   have h0:(Builtin.clear_ #[t] ty #[.slice (some ⟨b,o+lo*sz,none⟩) (xs.length-lo) (cap-lo)]).run P w=.ok (.tuple #[]) (putRow w b c' el fr):=by
    have l0:xs.length-lo≠0:=by omega
    obtain⟨q,hq⟩:∃q,xs.length-lo=q+1:=⟨xs.length-lo-1,by omega⟩
    rw[hq]at j1⊢;unfold Builtin.clear_;simp only[List.getElem?_toArray,List.getElem?_cons_zero,Sem.run_bind,z04 hu,Result.andThen,n1,j1,k1,Sem.run_pure]
   have d0:o+lo*sz+vs.length≤c.toList.length:=by simp;omega
   have hcl:c'.size=c.size:=by rw[←Array.length_toList,t0,z0z _ _ _ d0,Array.length_toList]
   have m0:=z1y sz ag (xs.length-lo) (z0b z (xs.length-lo));have j0:(xs.take lo++chunks sz ag (xs.length-lo) (z0b z (xs.length-lo))).length=xs.length:=by rw[List.length_append,m0,List.length_take];omega
   have f0:∀r v,RefOK σ ν r v→RefOK (σ.set l (.row sz (xs.take lo++chunks sz ag (xs.length-lo) (z0b z (xs.length-lo))))) ν r v:=fun r v h=>h.set_row hs j0
   have k0:∀q,q<w.heap.size→blk (ν l)≠some q→(putRow w b c' el fr).heap[q]?=w.heap[q]?:=fun q _ l0=>z13 (fun e=>l0 (by rw[e3,blk,e])) _ _ _
   have u0:∀q,q<w.heap.size→¬M q→¬M q∧(putRow w b c' el fr).heap[q]?=w.heap[q]?:=fun q hq hm=>⟨hm,k0 q hq (fun e=>hm (by rw[e3,blk]at e;simp at e;exact e▸hM))⟩
   have o0:=g.update (ν':=ν) (M':=M) (w':=putRow w b c' el fr) hs (by simp) (.row sz (xs.take lo++chunks sz ag (xs.length-lo) (z0b z (xs.length-lo)))) (fun _ _=>rfl) (by simp) k0 (fun _ _ h=>h) (fun _ h _=>h)
    (fun q h=>by simpa using g.lt q h) (fun _ q h=>.inl h) f0
    (by rw[e3]
        refine ObOK.row' _ j0.symm hM (z14 hh _ _ _) (by omega) (by omega) hf (fun i j hi hj=>?_)
        by_cases hik:i<lo
        · have e0:i<(xs.take lo).length:=by rw[List.length_take];omega
          have r0:i<xs.length:=by omega
          have n0:(xs.take lo++chunks sz ag (xs.length-lo) (z0b z (xs.length-lo)))[i]=xs[i]:=by
           rw[List.getElem_append_left e0];simp
          simp only[n0]at hj⊢;obtain⟨q1,q2⟩:=hrow i j r0 hj;refine⟨q1,fun v hv=>(q2 v ?_).mono u0 f0⟩
          have:=z2h hik q1;rw[←Array.getElem?_toList,t0,z0U _ _ _ _ d0,if_neg (by omega),Array.getElem?_toList]at hv
          exact hv
        · have e0:(xs.take lo).length=lo:=by rw[List.length_take];omega
          have r0:i-lo<(chunks sz ag (xs.length-lo) (z0b z (xs.length-lo))).length:=by rw[m0];omega
          have n0:(xs.take lo++chunks sz ag (xs.length-lo) (z0b z (xs.length-lo)))[i]=(chunks sz ag (xs.length-lo) (z0b z (xs.length-lo)))[i-lo]:=by
           rw[List.getElem_append_right (by omega)]
           simp only[e0]
          simp only[n0]at hj⊢;obtain⟨q1,q2⟩:=u1 (i-lo) j r0 hj;refine⟨q1,fun v hv=>(q2 v ?_).mono u0 f0⟩
          have q3:i*sz=(i-lo)*sz+lo*sz:=by rw[←Nat.add_mul];congr 1;omega
          have q4:=z2h (by rw[m0]at r0;exact r0) q1
          rw[←Array.getElem?_toList,t0,z0U _ _ _ _ d0,if_pos (by omega)]at hv
          rw[←hv];congr 1;omega)
   exact⟨_,_,M,ν,h0,o0.1,o0.2,.tup [] [] rfl (fun j hj=>by simp at hj)⟩
theorem Good.cut {l sz:Nat} {xs ys:List AV} {v:Value} (g:Good M σ ν w) (hs:σ[l]?=some (.row sz xs)) (hb:∀b,blk v=some b→blk (ν l)=some b)
  (ob:∀(σ':St) (ν':Nat→Value),(∀r v,RefOK σ ν r v→RefOK σ' ν' r v)→ObOK M (RefOK σ' ν') w (.row sz ys) v) :
  ∃ν',Good M (σ.set l .dead++[.row sz ys]) ν' w∧Later M σ ν w M (σ.set l .dead++[.row sz ys]) ν' w∧ν' σ.length=v:=by
 let ν':Nat→Value:=fun k=>if k=σ.length then v else ν k
 have y0:ν' σ.length=v:=by simp[ν']
 have j0:∀k,k<σ.length→ν' k=ν k:=fun k hk=>by simp[ν',Nat.ne_of_lt hk]
 have hlen:(σ.set l .dead).length=σ.length:=by simp
 have r0:∀r v,RefOK σ ν r v→RefOK (σ.set l .dead) ν r v:=fun r v h=>h.set_dead hs
 have n0:∀r v,RefOK (σ.set l .dead) ν r v→RefOK (σ.set l .dead++[.row sz ys]) ν' r v:=fun r v h =>
  RefOK.ext (fun k o' hk=>by
   have k0:=(List.getElem?_eq_some_iff.1 hk).1
   exact⟨by rw[List.getElem?_append_left k0];exact hk,j0 k (by omega)⟩) h
 have m0:∀r v,RefOK σ ν r v→RefOK (σ.set l .dead++[.row sz ys]) ν' r v:=fun r v h=>n0 r v (r0 r v h)
 have hl:live σ l:=⟨_,hs,by simp⟩
 have u0:∀k,live (σ.set l .dead++[.row sz ys]) k→(k<σ.length∧k≠l∧live σ k)∨k=σ.length:=by
  rintro k ⟨o',ho,hod⟩;by_cases hk:k<σ.length
  · left
    rw[List.getElem?_append_left (by omega)]at ho
    have q0:k≠l:=by
     rintro rfl;rw[z0m hs]at ho;simp at ho;exact hod ho.symm
    rw[z0A q0]at ho;exact⟨hk,q0,o',ho,hod⟩
  · right
    have:=(List.getElem?_eq_some_iff.1 ho).1;simp at this;omega
 refine⟨ν',⟨?_,g.lt,?_⟩,⟨Nat.le_refl _,fun _ _ _=>rfl,fun _ _ h=>h,fun _ _ h _=>h,?_,m0,rfl,rfl⟩,y0⟩
 · intro k o ho;by_cases hk:k<σ.length
   · rw[List.getElem?_append_left (by omega)]at ho
     rw[j0 k hk];by_cases q0:k=l
     · subst q0;rw[z0m hs]at ho;simp at ho;subst ho;exact .dead _
     · rw[z0A q0]at ho;exact(g.ob k o ho).mono (fun b _ hm=>⟨hm,rfl⟩) m0 fun b _ _ hm=>⟨hm,rfl⟩
   · have k0:k=σ.length:=by
      have:=(List.getElem?_eq_some_iff.1 ho).1;simp at this;omega
     subst k0;rw[List.getElem?_append_right (by omega)]at ho
     simp at ho;subst ho;rw[y0];exact ob _ _ m0
 · intro k k' b h1 h2 e1 e2;rcases u0 k h1 with⟨hk,q0,hlk⟩|hk<;>rcases u0 k' h2 with⟨hk',hkl',hlk'⟩|hk'
   · rw[j0 k hk]at e1;rw[j0 k' hk']at e2;exact g.apart k k' b hlk hlk' e1 e2
   · rw[j0 k hk]at e1;subst hk';rw[y0]at e2;exact absurd (g.apart k l b hlk hl e1 (hb b e2)) q0
   · rw[j0 k' hk']at e2;subst hk;rw[y0]at e1;exact absurd (g.apart k' l b hlk' hl e2 (hb b e1)) hkl'
   · omega
 · rintro b hb' ⟨k,hk,e'⟩;rcases u0 k hk with⟨h,q0,hlk⟩|h
   · rw[j0 k h]at e';exact⟨k,hlk,e'⟩
   · subst h;rw[y0]at e';exact⟨l,hl,hb b e'⟩
theorem zeD {cs:List AV} {b o len:Nat} (h:Rep M R w (.rp cs) (.pointer (some ⟨b,o,none⟩))) (hl:len≤cs.length) (hone:(cs.take len).all AV.one=true) :
  Rep M R w (.sl 1 (cs.take len)) (.slice (some ⟨b,o,none⟩) len len):=by
 obtain⟨b',o',f,e,hc⟩:=h.rp_inv;simp at e;obtain⟨rfl,rfl⟩:=e;have hlen:(cs.take len).length=len:=by simp;omega
 have u0:∀i (hi:i<(cs.take len).length),((cs.take len)[i]).cells=[cs[i]'(by omega)]:=fun i hi=>by
  have:=AV.one_cells (List.all_eq_true.1 hone _ (List.getElem_mem hi));rw[this];simp
 have:=Rep.sl (M:=M) (R:=R) (w:=w) 1 (cs.take len) b o len (fun i _=>f i) (by omega)
  (fun i j hi hj=>by
   rw[u0 i hi]at hj;simp at hj;subst hj;refine⟨by omega,?_⟩
   have:=hc.1 i (by omega)
   simpa using this)
  (fun i j hi hj=>by
   have y0:j=0:=by rw[u0 i hi]at hj;simpa using hj
   subst y0;simp only[u0 i hi,List.getElem_cons_zero]
   exact hc.2 i (by omega))
 rw[hlen]at this;exact this
theorem z9j {t t2 ty e:TypeId} {sz n:Nat} {ag:Bool} {z:List AV} {k k2:IntKind} (g:Good M σ ν w) (he:elemOf? P t=some (e,sz)) (hz:zcOf P e=some z)
  (hag:ag=false→sz=1) (hone:z.all AV.one=true) (hzl:z.length=sz) (hap:appOK P e sz=true) (ht2:P.underlying t2=some (.int k2)) (h0:0<n) (hc:n≤4294967296) :
  Yields P (Builtin.append_ #[t,t2] ty #[.slice none 0 0,.int k n]) M σ ν w (.osl σ.length n) (σ++[.row sz (chunks sz ag n (z0b z n))]):=by
 obtain⟨hu,hsz,o0⟩:=z1a he;unfold appOK at hap
 cases hi:P.info? e with
 |none=>simp[hi]at hap
 |some i =>
  cases hzv:i.zero with
  |none=>simp[hi,hzv]at hap
  |some zv =>
   simp[hi,hzv]at hap;have u0:zv.cells.toList.map cval=z:=by simpa[zcOf,hi,hzv] using hz
   have m0:¬(281474976710656<Builtin.nextslicecap n 0*i.bytes):=by
    have:n*i.bytes≤4294967296*32768:=Nat.mul_le_mul hc hap.1;have:=growslice_fits (need:=n) (old:=0) (bytes:=i.bytes) h0 (by omega)
    omega
   have u1:¬(281474976710656<(n:Int)*(i.bytes:Int)):=by
    have:n*i.bytes≤4294967296*32768:=Nat.mul_le_mul hc hap.1;have h2:((n*i.bytes:Nat):Int)≤281474976710656:=by omega
    rw[Int.natCast_mul]at h2;omega
   have hw:IntKind.i64.wrap (n:Int)=n:=by rw[IntKind.wrap_i64];omega
   have r0:¬((n:Int)<0):=by omega
   have k0:¬(9223372036854775807<(n:Int)):=by omega
   have t0:¬(n=0):=by omega
   have f0:¬(sz=0):=by omega
   have hge:=grownCap_ge w n 0 e
   have n0:(Builtin.append_ #[t,t2] ty #[.slice none 0 0,.int k n]).run P w=.ok (.slice (some ⟨w.heap.size,0,none⟩) n (grownCap w n 0 e))
     ((w.drew).alloc (.cells (Builtin.zeroCells zv.cells n++Builtin.zeroCells zv.cells (grownCap w n 0 e-n)) e)):=by
    simp[Builtin.append_,z04 hu,z0p hsz,z04 ht2,asInt,asIntOf,hw,r0,u1,t0,k0,z4d hi,m0,Question.forced,zeroValue,hzv,newRow,grownCap,Builtin.firstCells];intro h;exact absurd h (Nat.mul_ne_zero t0 f0)
   have hr:Reps M (RefOK σ ν) w z zv.cells.toList:=by rw[←u0];exact z5w zv.cells.toList
   have q0:=z3f hr n
   have y0:∀n,(z0b z n).all AV.one=true:=by
    intro n
    induction n with
    |zero=>rfl
    |succ n ih=>simp only[z0b,List.all_append,hone,ih,Bool.and_self]
   have l0:=z2I hag n (z0b z n) _ q0 (by rw[z0T,hzl]) (y0 n)
   have e0:Good M σ ν w.drew:=g.grow (Nat.le_refl _) fun _ _=>rfl
   have d0:Later M σ ν w M σ ν w.drew:=.grow (Nat.le_refl _) fun _ _=>rfl
   have hlen:(chunks sz ag n (z0b z n)).length=n:=z1y _ _ _ _
   have j0:Elems M (RefOK σ ν) w.drew sz (chunks sz ag n (z0b z n)) (Builtin.zeroCells zv.cells n++Builtin.zeroCells zv.cells (grownCap w n 0 e-n)).toList:=by
    have:=l0.more (zs:=(Builtin.zeroCells zv.cells (grownCap w n 0 e-n)).toList) (by rw[hlen];simp[hap.2])
    have h3:=Elems.mono (w:=w) (M:=M) (R:=RefOK σ ν) (M':=M) (w':=w.drew) (R':=RefOK σ ν) (fun b _ hm=>⟨hm,rfl⟩) (fun _ _ h=>h) this
    simpa[Builtin.zeroCells] using h3
   obtain⟨M',ν',g',l',r'⟩:=e0.newRow sz (chunks sz ag n (z0b z n)) e _ (grownCap w n 0 e) (by omega)
    (by simp only[Array.size_append,size_zeroCells,hap.2];rw[←Nat.add_mul];apply Nat.mul_le_mul_right;omega) j0
   rw[hlen]at r';exact⟨_,_,M',ν',n0,g',d0.trans l',r'⟩
end
end Go.Ab
namespace Go.Ab
def isU8 (P:Program) (e:TypeId):Bool :=
 match P.underlying e with
 |some (.int .u8)=>true
 |_=>false
theorem z7g {P:Program} {e:TypeId} (h:isU8 P e=true):P.underlying e=some (.int .u8):=by
 unfold isU8 at h;split at h<;>first|assumption|cases h
def zeroC:Operand→Bool
 |.const (.int _ 0)=>true
 |_=>false
def nilC (P:Program) (t:TypeId):Operand→Option Bool
 |.const (.pointer none)=>match P.underlying t with
  |some (.pointer _)=>some true
  |_=>none
 |.const (.slice none 0 0)=>match P.underlying t with
  |some (.slice _)=>some false
  |_=>none
 |_=>none
def mksOK (P:Program) (ag:Bool) (z:List AV) (en:TypeId×Nat):Bool:=(ag||en.2==1)&&z.all AV.one&&z.length==en.2&&appOK P en.1 en.2
def opAO2 (P:Program) (own:Bool):Op→Option AO
 |.convert s d x=>match P.underlying s,P.underlying d with
  |some .string,some (.slice e)=>if isU8 P e then some (.s2b x) else none
  |some (.slice e),some .string=>if isU8 P e then some (.b2s x) else none
  |some .string,some .string=>some (.s2s x)
  |some (.slice e),some (.slice _)=>if s=d∧isU8 P e=true then some (.strm x) else none
  |_,_=>none
 |.makeSlice t x y=>(elemOf? P t).bind fun en=>(agOf P en.1).bind fun ag=>(zcOf P en.1).bind fun z=>if mksOK P ag z en then some (.mks en.2 ag z x y) else none
 |.sliceToArrayPointer t x=>match P.underlying t with
  |some (.array n _)=>some (.arrp n x)
  |_=>none
 |.slice t x lo hi none=>match P.underlying t with
  |some (.slice _)=>if own then
    match lo,hi with
    |some l,none=>(elemOf? P t).map fun en=>.slcw en.2 x l
    |lo,hi=>(elemOf? P t).map fun en=>.slco en.2 x lo hi
   else none
  |some (.array n e)=>if lo.isNone&&hi.isNone&&szOf P e==some 1 then some (.slca n x) else none
  |_=>none
 |.slice t x none (some hi) (some mx)=>match P.underlying t with
  |some (.slice _)=>if zeroC hi&&zeroC mx then(elemOf? P t).map fun _=>.slc0 x else none
  |_=>none
 |.indexAddr t (.global g) i=>match P.underlying t with
  |some (.array len e)=>(szOf P e).map fun n=>.giadr g n len i
  |_=>none
 |.binOp op t x y _=>match nilC P t y,op with
  |some p,.eql=>some (.isnil false p x)
  |some p,.neq=>some (.isnil true p x)
  |_,_=>none
 |.call { callee:=.builtin .cap,args:=⟨[x]⟩,argTypes:=⟨[t]⟩ }=>match P.underlying t with
  |some (.slice _)=>some (.capn x)
  |_=>none
 |.call { callee:=.builtin .clear,args:=⟨[x]⟩,argTypes:=⟨[t]⟩ }=>(elemOf? P t).bind fun en=>(agOf P en.1).bind fun ag=>(zcOf P en.1).bind fun z=>if mksOK P ag z en then some (.clr en.2 ag z x) else none
 |.call { callee:=.builtin .min,args:=⟨[x,y]⟩,.. }=>some (.mm false x y)
 |.call { callee:=.builtin .max,args:=⟨[x,y]⟩,.. }=>some (.mm true x y)
 |.call { callee:=.builtin .copy,args:=⟨[x,y]⟩,argTypes:=⟨[t,_]⟩ }=>match P.underlying t with
  |some (.slice e)=>if szOf P e==some 1 then some (.copy x y) else none
  |_=>none
 |.call { callee:=.builtin .append,args:=⟨[x,y]⟩,argTypes:=⟨[t,t2]⟩ }=>match P.underlying t2 with
  |some (.int _)=>(elemOf? P t).bind fun en=>(agOf P en.1).bind fun ag=>(zcOf P en.1).bind fun z=>if mksOK P ag z en then some (.appz en.2 ag z x y) else none
  |_=>none
 |_=>none
section
variable {P:Program} {M M':Nat→Prop} {σ σ':St} {ν ν':Nat→Value} {w w':World} {R:Ref→Value→Prop}
theorem zeE {a:AV} {v:Value} {p b:Bool} (h:nilA p a=some b) (hr:Rep M R w a v) :
  (p=true∧∃q:Option Addr,v=.pointer q∧q.isNone=b)∨(p=false∧∃q n c,v=.slice q n c∧q.isNone=b):=by
 unfold nilA at h;split at h<;>simp at h<;>subst h
 · exact .inr ⟨rfl,_,_,_,hr.nils_inv,rfl⟩
 · obtain⟨a,cap,e,_,hz|⟨b,o,f,rfl,_⟩⟩:=hr.sl_inv
   · cases hz
   · exact .inr ⟨rfl,_,_,_,e,rfl⟩
 · obtain⟨b,o,f,e,_⟩:=hr.rp_inv;exact .inl ⟨rfl,_,e,rfl⟩
 · obtain⟨b,o,e,_⟩:=hr.ptr_inv;exact .inl ⟨rfl,_,e,rfl⟩
 · obtain⟨b,o,e,_⟩:=hr.ep_inv;exact .inl ⟨rfl,_,e,rfl⟩
 · exact .inl ⟨rfl,_,hr.pl_inv,rfl⟩
 · exact .inr ⟨rfl,_,_,_,hr.pl_inv,rfl⟩
theorem zcp {a:AV} {v:Value} {p b:Bool} (g:Good M σ ν w) (h:nilA2 σ p a=some b) (hr:Rep M (RefOK σ ν) w a v) :
  (p=true∧∃q:Option Addr,v=.pointer q∧q.isNone=b)∨(p=false∧∃q n c,v=.slice q n c∧q.isNone=b):=by
 unfold nilA2 at h;split at h
 · rename_i l n;split at h
   · rename_i sz xs hs;split at h
     · rename_i hc;obtain⟨rfl,rfl,h0⟩:=hc;simp at h;subst h;obtain⟨a,len,cap,rfl,hR⟩:=hr.osl_inv;have e:=hR.s_row hs rfl;rcases(g.ob l _ hs).row_inv with⟨e3,rfl⟩|⟨b,o,cap2,c,el,fr,e3,_⟩
       · simp at h0
       · rw[e3]at e;simp at e;obtain⟨rfl,rfl,rfl⟩:=e;exact .inr ⟨rfl,_,_,_,rfl,rfl⟩
     · cases h
   · cases h
 · exact zeE h hr
theorem z4f:∀{σ:St} {k:Nat} {vs:List Value},gloA σ k=some vs→∃l:Nat,σ[l]?=some (Ob.glo k vs)
 |[],_,_,h=>by cases h
 |.glo g us::s,k,vs,h=>by
  simp only[gloA]at h;split at h
  · rename_i e;subst e;simp at h;subst h;exact⟨0,rfl⟩
  · obtain⟨l,hl⟩:=z4f h;exact⟨l+1,by simpa using hl⟩
 |.dead::s,k,vs,h=>by
  obtain⟨l,hl⟩:=z4f (σ:=s) (by simpa[gloA] using h)
  exact⟨l+1,by simpa using hl⟩
 |.box _::s,k,vs,h=>by
  obtain⟨l,hl⟩:=z4f (σ:=s) (by simpa[gloA] using h)
  exact⟨l+1,by simpa using hl⟩
 |.row _ _::s,k,vs,h=>by
  obtain⟨l,hl⟩:=z4f (σ:=s) (by simpa[gloA] using h)
  exact⟨l+1,by simpa using hl⟩
theorem ObOK.glo_inv {g:Nat} {vs:List Value} {v:Value} (h:ObOK M R w (.glo g vs) v):∀j u,vs[j]?=some u→¬M g∧w.cell? ⟨g,j,none⟩=some u:=by
 cases h;assumption
theorem zcq {neg:Bool} {op:BinOp} {t:TypeId} {x y:Operand} {u v:Value} {b:Bool} (hop:op=if neg then .neq else .eql)
  (h:(∃e q,P.underlying t=some (.pointer e)∧u=.pointer q∧v=.pointer none∧q.isNone=b)∨(∃e q n c,P.underlying t=some (.slice e)∧u=.slice q n c∧v=.slice none 0 0∧q.isNone=b)) :
  (do eqGuard op t x y u v;binOp op t u v:Sem Value).run P w=.ok (.bool (neg ^^ b)) w:=by
 have heq:(Op.equal t u v).run P w=.ok b w:=by
  unfold Op.equal Op.maxDepth;obtain⟨d,hd⟩:∃d:Nat,10000=d+1:=⟨9999,rfl⟩;rw[hd];rcases h with⟨e,q,hu,rfl,rfl,rfl⟩|⟨e,q,n,c,hu,rfl,rfl,rfl⟩<;>cases q<;>simp[Op.equalIn,z04 hu]
 have hg:(eqGuard op t x y u v).run P w=.ok () w:=by
  unfold eqGuard;subst hop;rcases h with⟨e,q,hu,rfl,rfl,rfl⟩|⟨e,q,n,c,hu,rfl,rfl,rfl⟩<;>cases neg<;>simp
 subst hop;rcases h with⟨e,q,hu,rfl,rfl,rfl⟩|⟨e,q,n,c,hu,rfl,rfl,rfl⟩<;>cases neg<;>simp only[Bool.false_eq_true,if_false,if_true]at hg⊢<;>simp[hg,binOp,heq]
theorem z5C {ag:Bool} {z:List AV} {en:TypeId×Nat} (h:mksOK P ag z en=true):(ag=false→en.2=1)∧z.all AV.one=true∧z.length=en.2∧appOK P en.1 en.2=true:=by
 unfold mksOK at h;simp only[Bool.and_eq_true,Bool.or_eq_true,beq_iff_eq]at h;obtain⟨⟨⟨h1,h2⟩,h3⟩,h4⟩:=h;refine⟨fun e=>?_,h2,h3,h4⟩
 rcases h1 with h1|h1
 · rw[e]at h1;cases h1
 · exact h1
theorem zeF {own:Bool} {o:Oper} {ao:AO} {ρ:Operand→AV} {ρ':Operand→Value} {r:AV} (h:opAO2 P own o.op=some ao) (hv:aop ρ σ ao=some (r,σ'))
  (g:Good M σ ν w) (hρ:z27 M (RefOK σ ν) w ρ ρ') (hc:∀v,ρ' (.const v)=v) (hcg:∀k,ρ' (.global k)=.pointer (some ⟨k,0,none⟩)):Done P (execOp ρ' o) M σ ν w r σ':=by
 have j0:∀{s:Sem Value},(execOp ρ' o).run P w=(do pure (.value (←s)):Sem Next).run P w→Yields P s M σ ν w r σ'→Done P (execOp ρ' o) M σ ν w r σ':=by
  intro s e y;obtain⟨n,v,w',M',ν',q1,q2⟩:=y.done;exact⟨n,v,w',M',ν',by rw[e];exact q1,q2⟩
 obtain⟨dst,op,type,pos,after,guard⟩:=o;simp only at h
 cases op with
 |convert s d x =>
  refine j0 (s:=convert s d (ρ' x)) rfl ?_;have hx:=hρ x;simp only[opAO2]at h;split at h
  · rename_i e hs hd;split at h
    · rename_i he;simp at h;subst h;simp only[aop]at hv;split at hv
      · rename_i t ex;simp at hv;obtain⟨rfl,rfl⟩:=hv;rw[ex]at hx;rw[hx.pl_inv];exact zbq t g hs hd (z7g he)
      · cases hv
    · cases h
  · rename_i e hs hd;split at h
    · rename_i he;simp at h;subst h;simp only[aop]at hv;split at hv
      · cases hv
      · rename_i t0;split at hv
        · rename_i ys f0;obtain⟨ns,y3,hv⟩:=z02 hv;simp at hv;obtain⟨rfl,rfl⟩:=hv;refine .same g (zeC g hs hd (z7g he) f0 y3 hx ?_) (.pl _);generalize ρ x=y at *;cases y<;>simp[srcA,AV.isStr]at f0 t0
          · rename_i v;cases v<;>simp[AV.isStr,srcA]at f0 t0
            exact⟨_,_,_,hx.pl_inv⟩
          · exact⟨_,_,_,hx.nils_inv⟩
          · obtain⟨a,cap,e,_⟩:=hx.sl_inv;exact⟨_,_,_,e⟩
          · obtain⟨a,len,cap,e,_⟩:=hx.osl_inv;exact⟨_,_,_,e⟩
          · obtain⟨a,e⟩:=hx.zsl_inv;exact⟨_,_,_,e⟩
        · cases hv
    · cases h
  · rename_i hs hd;simp at h;subst h;simp only[aop]at hv;split at hv
    · rename_i t ex;simp at hv;obtain⟨rfl,rfl⟩:=hv;rw[ex]at hx;rw[hx.pl_inv];refine .same g (v:=.string t) ?_ (.pl _);simp[convert,z04 hs,z04 hd]
    · cases hv
  · rename_i e e' hs hd;split at h
    · rename_i o0;obtain⟨rfl,he⟩:=o0;simp at h;subst h;simp only[aop]at hv;split at hv
      · rename_i l n ex;split at hv
        · rename_i sz xs j2;split at hv
          · rename_i u3;obtain⟨rfl,h0⟩:=u3;simp at hv;obtain⟨rfl,rfl⟩:=hv;rw[ex]at hx;exact z9i g hs (z7g he) j2 h0 hx
          · cases hv
        · cases hv
      · cases hv
    · cases h
  · cases h
 |makeSlice t x y =>
  refine j0 (s:=Instr.makeSlice t (ρ' x) (ρ' y)) rfl ?_;obtain⟨⟨e,sz⟩,he,h⟩:=z06 h;obtain⟨ag,l1,h⟩:=z06 h;obtain⟨z,hz,h⟩:=z06 h;split at h
  · rename_i d0;simp at h;subst h;obtain⟨k1,k2,k3,k4⟩:=z5C d0;simp only[aop]at hv;split at hv
    · rename_i l c el ec;split at hv
      · rename_i y0;obtain⟨h0,h1,h2⟩:=y0;simp at hv;obtain⟨rfl,rfl⟩:=hv;obtain⟨kl,el⟩:=z1Q el (hρ x);obtain⟨kc,ec⟩:=z1Q ec (hρ y);rw[el,ec];have:=z9h (P:=P) (t:=t) (l:=l.toNat) (c:=c.toNat) (kl:=kl) (kc:=kc) g he hz k1 k2 k3 k4 (by omega) (by omega)
        rwa [Int.toNat_of_nonneg h0,Int.toNat_of_nonneg (by omega)]at this
      · cases hv
    · cases hv
  · cases h
 |sliceToArrayPointer t x =>
  refine j0 (s:=Instr.arrayAt t (ρ' x)) rfl ?_;simp only[opAO2]at h;split at h
  · rename_i n e hu;simp at h;subst h;simp only[aop]at hv;split at hv
    · rename_i sz xs ex;split at hv
      · rename_i y0;obtain⟨rfl,h0,h1,h2⟩:=y0;simp at hv;obtain⟨rfl,rfl⟩:=hv;have hx:=hρ x;rw[ex]at hx;obtain⟨a,cap,e2,_,hz|⟨b,o,f,rfl,k0,hr⟩⟩:=hx.sl_inv
        · subst hz;simp at h1;omega
        · have u0:(Instr.arrayAt t (ρ' x)).run P w=.ok (.pointer (some ⟨b,o,none⟩)) w:=by
           rw[e2];simp[Instr.arrayAt,z04 hu,Nat.not_lt.2 h1]
          refine .same g u0 (.rp _ b o (fun i=>f i 0) (fun i hi=>?_) (fun i hi=>?_))
          · have r0:i<xs.length:=by simp at hi;omega
            have q0:=AV.one_cells (List.all_eq_true.1 h2 _ (List.getElem_mem r0));obtain⟨_,q2,q3⟩:=k0 i 0 r0 (by rw[q0];simp)
            exact⟨q2,by simpa using q3⟩
          · have r0:i<xs.length:=by simp at hi;omega
            have q0:=AV.one_cells (List.all_eq_true.1 h2 _ (List.getElem_mem r0));have:=hr i 0 r0 (by rw[q0];simp)
            simp only[q0,List.getElem_cons_zero]at this;simpa using this
      · cases hv
    · cases hv
  · cases h
 |slice t x lo hi mx =>
  refine j0 (s:=Instr.sliceAt t (ρ' x) (lo.map ρ') (hi.map ρ') (mx.map ρ')) rfl ?_;have hx:=hρ x
  cases mx with
  |none =>
   simp only[opAO2]at h;split at h
   · rename_i e0 a2
     have common:(elemOf? P t).map (fun en=>AO.slco en.2 x lo hi)=some ao→Yields P (Instr.sliceAt t (ρ' x) (lo.map ρ') (hi.map ρ') (Option.map ρ' none)) M σ ν w r σ':=by
      intro h;obtain⟨⟨e,sz⟩,he,rfl⟩:=z02 h;obtain⟨hu,hn,n0⟩:=z1a he;simp only[aop]at hv;split at hv
      · rename_i ex;split at hv
        · rename_i l h hl hh;split at hv
          · rename_i y0;obtain⟨rfl,rfl⟩:=y0;simp at hv;obtain⟨rfl,rfl⟩:=hv;rw[ex]at hx;rw[hx.nils_inv];have hb:=z1b (P:=P) (w:=w) (isS:=true) (len:=0) (cap:=0) (z1J hρ hl) (z1J hρ hh) (Int.le_refl _) (Int.le_refl _) (by simp) (Nat.le_refl _)
            refine .same g (v:=.slice none 0 0) ?_ .nils;simp only[Int.toNat_zero]at hb;simp[Instr.sliceAt,Instr.slice,z04 hu,hb,z0p hn]
          · cases hv
        · cases hv
      · rename_i k n ex;split at hv
        · rename_i u1 xs hs;split at hv
          · rename_i l h hl hh;split at hv
            · rename_i y0;obtain⟨rfl,rfl,h0,h1,h2⟩:=y0;simp at hv;obtain⟨rfl,rfl⟩:=hv;rw[ex]at hx;obtain⟨a,len,cap,e2,hR⟩:=hx.osl_inv;have e1:=hR.s_row hs rfl;have m0:((xs.take h.toNat).drop l.toNat).length=h.toNat-l.toNat:=by simp;omega
              rcases(g.ob k _ hs).row_inv with⟨e3,rfl⟩|⟨b,o,cap2,c,el,fr,e3,hM,hh2,hlen,hsz,hf,hrow⟩
              · rw[e3]at e1;simp at e1;obtain⟨rfl,rfl,rfl⟩:=e1;have o1:l=0:=by simp at h2;omega
                have r2:h=0:=by simp at h2;omega
                subst o1;subst r2;have hb:=z1b (P:=P) (w:=w) (isS:=true) (len:=0) (cap:=0) (z1J hρ hl) (z1J hρ hh) (Int.le_refl _) (Int.le_refl _) (by simp) (Nat.le_refl _)
                have u0:(Instr.sliceAt t (ρ' x) (lo.map ρ') (hi.map ρ') (none.map ρ')).run P w=.ok (.slice none 0 0) w:=by
                 rw[e2];simp only[Int.toNat_zero]at hb;simp[Instr.sliceAt,Instr.slice,z04 hu,hb,z0p hn]
                obtain⟨ν',g',l',y1⟩:=g.cut (ys:=[]) (v:=.slice none 0 0) hs (by simp[blk]) (fun σ' ν' _=>.row0 _)
                refine⟨_,_,M,ν',u0,by simpa using g',by simpa using l',?_⟩
                refine .osl _ _ _ _ _ ?_;simp[RefOK,y1]
              · rw[e3]at e1;simp at e1;obtain⟨rfl,rfl,rfl⟩:=e1;have hb:=z1b (P:=P) (w:=w) (isS:=true) (len:=xs.length) (cap:=cap) (z1J hρ hl) (z1J hρ hh) h0 h1 h2 hlen;have hlc:l.toNat≤cap:=by omega
                have hmul:cap*sz=l.toNat*sz+(cap-l.toNat)*sz:=by rw[←Nat.add_mul];congr 1;omega
                have u0:∃o',(Instr.sliceAt t (ρ' x) (lo.map ρ') (hi.map ρ') (none.map ρ')).run P w=.ok (.slice (some ⟨b,o',none⟩) (h.toNat-l.toNat) (cap-l.toNat)) w ∧
                  (o'=o+l.toNat*sz∨(cap=l.toNat∧o'=o)):=by
                 rw[e2];by_cases k0:cap=l.toNat
                 · refine⟨o,?_,.inr ⟨k0,rfl⟩⟩;simp only[k0]at hb⊢;simp[Instr.sliceAt,Instr.slice,z04 hu,hb,z0p hn]
                 · refine⟨o+l.toNat*sz,?_,.inl rfl⟩;simp[Instr.sliceAt,Instr.slice,z04 hu,hb,z0p hn,k0,z25]
                obtain⟨o',u0,j1⟩:=u0
                obtain⟨ν',g',l',y1⟩:=g.cut (ys:=(xs.take h.toNat).drop l.toNat) (v:=.slice (some ⟨b,o',none⟩) (h.toNat-l.toNat) (cap-l.toNat)) hs (by rw[e3];simp[blk])
                 (fun σ' ν' evo=>by
                  refine ObOK.row' _ m0.symm hM hh2 (by omega) ?_ (fun j hj=>?_) (fun i j r0 hj=>?_)
                  · rcases j1 with rfl|⟨k0,rfl⟩
                    · omega
                    · rw[k0]at hsz⊢;simp;omega
                  · rcases j1 with rfl|⟨k0,rfl⟩
                    · rw[Nat.add_assoc];exact hf _ (by omega)
                    · rw[k0]at hj;simp at hj
                  · have j3:l.toNat+i<xs.length:=by omega
                    have x1:((xs.take h.toNat).drop l.toNat)[i]=xs[l.toNat+i]:=by simp
                    simp only[x1]at hj⊢;obtain⟨q1,q2⟩:=hrow (l.toNat+i) j j3 hj;refine⟨q1,fun v hv=>(q2 v ?_).mono (fun b _ hm=>⟨hm,rfl⟩) evo⟩
                    rcases j1 with rfl|⟨k0,rfl⟩
                    · rw[←hv,Nat.add_mul];congr 1;omega
                    · omega)
                refine⟨_,_,M,ν',u0,g',l',?_⟩;rw[←m0];refine .osl _ _ _ _ _ ?_
                have:(σ.set k .dead++[Ob.row sz ((xs.take h.toNat).drop l.toNat)])[σ.length]?=some (.row sz ((xs.take h.toNat).drop l.toNat)):=by
                 rw[List.getElem?_append_right (by simp)];simp
                simp only[RefOK,this];refine⟨Nat.le_refl _,fun _=>?_⟩
                rw[y1,m0]
            · cases hv
          · cases hv
        · cases hv
      · cases hv
     split at h
     · cases lo with
       |none=>exact common h
       |some lo0 =>
        cases hi with
        |some hi0=>exact common h
        |none =>
         obtain⟨⟨e,sz⟩,he,rfl⟩:=z02 h;obtain⟨hu,hn,n0⟩:=z1a he;simp only[aop]at hv;split at hv
         · rename_i l n i ex hi;split at hv
           · rename_i u1 xs hs;split at hv
             · rename_i y0;obtain⟨rfl,rfl,h0,h1⟩:=y0;simp at hv;obtain⟨rfl,rfl⟩:=hv;rw[ex]at hx;obtain⟨a,len,cap,e2,hR⟩:=hx.osl_inv;have e1:=hR.s_row hs rfl;obtain⟨ki,v3⟩:=z1Q hi (hρ lo0);rcases(g.ob l _ hs).row_inv with⟨e3,rfl⟩|⟨b,o,cap2,c,el,fr,e3,hM,hh2,hlen,hsz,hf,hrow⟩
               · simp at h1;omega
               · have u2:=hR;rw[e3]at e1;simp at e1;obtain⟨rfl,rfl,rfl⟩:=e1;have hb:=z1b (P:=P) (w:=w) (isS:=true) (len:=xs.length) (cap:=cap) (lo:=some (ρ' lo0)) (hi:=none) (l:=i) (h:=xs.length) (.inr ⟨ki,by rw[v3]⟩) (.inl ⟨rfl,rfl⟩) h0 (by omega) (Int.le_refl _) hlen
                 have k0:¬cap=i.toNat:=by omega
                 have u0:(Instr.sliceAt t (ρ' x) (Option.map ρ' (some lo0)) (Option.map ρ' none) (Option.map ρ' none)).run P w=.ok (.slice (some ⟨b,o+i.toNat*sz,none⟩) (xs.length-i.toNat) (cap-i.toNat)) w:=by
                  rw[e2];simp only[Int.toNat_natCast]at hb;simp[Instr.sliceAt,Instr.slice,z04 hu,hb,z0p hn,k0,z25]
                 exact .same g u0 (.win sz l xs.length i.toNat b o cap (by omega) u2)
             · cases hv
           · cases hv
         · cases hv
     · cases h
   · rename_i n e hu;split at h
     · rename_i y0;simp only[Bool.and_eq_true,Option.isNone_iff_eq_none,beq_iff_eq]at y0;obtain⟨⟨rfl,rfl⟩,hsz⟩:=y0;simp at h;subst h;simp only[aop]at hv
       have u0:∀b o,ρ' x=.pointer (some ⟨b,o,none⟩)→(Instr.sliceAt t (ρ' x) (Option.map ρ' none) (Option.map ρ' none) (Option.map ρ' none)).run P w=.ok (.slice (some ⟨b,o,none⟩) n n) w:=by
        intro b o e;rw[e];by_cases hn:n=0
        · simp[Instr.sliceAt,z04 hu,Instr.sureAddr,Instr.sliceBounds,z0p hsz,hn]
        · simp[Instr.sliceAt,z04 hu,Instr.sureAddr,Instr.sliceBounds,z0p hsz,hn,z25]
       split at hv
       · rename_i cs ex;split at hv
         · rename_i o0;simp at hv;obtain⟨rfl,rfl⟩:=hv;rw[ex]at hx;obtain⟨b,o,_,e2,_⟩:=hx.rp_inv;have n1:=hx;rw[e2]at n1;exact .same g (u0 b o e2) (zeD n1 o0.1 o0.2)
         · cases hv
       · rename_i l off ex;simp at hv;obtain⟨rfl,rfl⟩:=hv;rw[ex]at hx;obtain⟨b,o,e2,hR⟩:=hx.ptr_inv;exact .same g (u0 b _ e2) (.psl _ _ _ _ _ hR)
       · cases hv
     · cases h
   · cases h
  |some m =>
   cases lo with
   |some lo=>simp[opAO2]at h
   |none =>
    cases hi with
    |none=>simp[opAO2]at h
    |some hi =>
     simp only[opAO2]at h;split at h
     · rename_i e0 a2;split at h
       · rename_i m1;obtain⟨⟨e,sz⟩,he,rfl⟩:=z02 h;obtain⟨hu,hn,n0⟩:=z1a he
         have d1:∀y:Operand,zeroC y=true→∃k,ρ' y=.int k 0:=by
          intro y hy;unfold zeroC at hy;split at hy
          · exact⟨_,hc _⟩
          · cases hy
         simp only[Bool.and_eq_true]at m1;obtain⟨k1,e1⟩:=d1 _ m1.1;obtain⟨k2,e2⟩:=d1 _ m1.2
         have u0:∀a len cap,ρ' x=.slice a len cap→(Instr.sliceAt t (ρ' x) (Option.map ρ' none) (Option.map ρ' (some hi)) (Option.map ρ' (some m))).run P w=.ok (.slice a 0 0) w:=by
          intro a len cap e;rw[e];simp[Instr.sliceAt,Instr.slice,z04 hu,Instr.sliceBounds,e1,e2,z1I rfl (Int.le_refl 0) (Int.natCast_nonneg _),z0p hn]
         simp only[aop]at hv;split at hv
         · rename_i ex;simp at hv;obtain⟨rfl,rfl⟩:=hv;rw[ex]at hx;exact .same g (u0 _ _ _ hx.nils_inv) .nils
         · rename_i ex;simp at hv;obtain⟨rfl,rfl⟩:=hv;rw[ex]at hx;obtain⟨a,e⟩:=hx.zsl_inv;exact .same g (u0 _ _ _ e) (.zsl a)
         · rename_i u1 xs ex;simp at hv;obtain⟨rfl,rfl⟩:=hv;rw[ex]at hx;obtain⟨a,cap,e,_⟩:=hx.sl_inv;exact .same g (u0 _ _ _ e) (.zsl a)
         · rename_i l n ex;simp at hv;obtain⟨rfl,rfl⟩:=hv;rw[ex]at hx;obtain⟨a,len,cap,e,_⟩:=hx.osl_inv;exact .same g (u0 _ _ _ e) (.zsl a)
         · cases hv
       · cases h
     · cases h
 |indexAddr t x i =>
  cases x with
  |global gl =>
   refine j0 (s:=Instr.indexAt t (ρ' (.global gl)) (ρ' i)) rfl ?_;simp only[opAO2]at h;split at h
   · rename_i len e hu;obtain⟨n,hn,rfl⟩:=z02 h;simp only[aop]at hv;split at hv
     · rename_i vs k y2 d2;obtain⟨ik,ei⟩:=z1Q d2 (hρ i);split at hv
       · rename_i y0;simp at hv;obtain⟨rfl,rfl⟩:=hv;obtain⟨l,hl⟩:=z4f y2;have m2:=(g.ob l _ hl).glo_inv;rw[hcg,ei];refine .same g (z2H (o:=0) hu hn y0.1 y0.2) (.rp _ gl _ (fun j=>(vs[k.toNat*n+j]?).getD undef) (fun j hj=>?_) (fun j hj=>?_))
         · simp only[List.length_map,List.length_drop]at hj;have l0:k.toNat*n+j<vs.length:=by omega
           have:=m2 (k.toNat*n+j) vs[k.toNat*n+j] (List.getElem?_eq_getElem l0);rw[List.getElem?_eq_getElem l0,Nat.zero_add];exact this
         · simp only[List.length_map,List.length_drop]at hj;have l0:k.toNat*n+j<vs.length:=by omega
           simp only[List.getElem_map,List.getElem_drop,List.getElem?_eq_getElem l0,Option.getD_some];exact .pl _
       · cases hv
     · cases hv
   · cases h
  |_=>simp[opAO2]at h
 |binOp op t x y yt =>
  refine j0 (s:=do eqGuard op t x y (ρ' x) (ρ' y);binOp op t (ρ' x) (ρ' y)) rfl ?_
  simp only[opAO2]at h
  have main:∀neg p,nilC P t y=some p→ao=.isnil neg p x→op=(if neg then .neq else .eql)→Yields P (do eqGuard op t x y (ρ' x) (ρ' y);binOp op t (ρ' x) (ρ' y)) M σ ν w r σ':=by
   rintro neg p hp rfl x3;simp only[aop]at hv;obtain⟨b,hb,hv⟩:=z02 hv;simp only[Prod.mk.injEq]at hv;obtain⟨rfl,rfl⟩:=hv;refine .same g (zcq x3 ?_) (.pl _);have hx:=zcp g hb (hρ x);unfold nilC at hp;split at hp
   · split at hp
     · rename_i e hu;simp at hp;subst hp;rcases hx with⟨_,q,e1,e2⟩|⟨h0,_⟩
       · exact .inl ⟨e,q,hu,e1,hc _,e2⟩
       · cases h0
     · cases hp
   · split at hp
     · rename_i e hu;simp at hp;subst hp;rcases hx with⟨h0,_⟩|⟨_,q,n,c,e1,e2⟩
       · cases h0
       · exact .inr ⟨e,q,n,c,hu,e1,hc _,e2⟩
     · cases hp
   · cases hp
  split at h
  · rename_i p hp;simp at h;exact main false p hp h.symm rfl
  · rename_i p hp;simp at h;exact main true p hp h.symm rfl
  · cases h
 |call c =>
  obtain⟨callee,args,t1⟩:=c
  cases callee with
  |value f=>simp[opAO2]at h
  |invoke r m=>simp[opAO2]at h
  |builtin b =>
   unfold opAO2 at h;split at h<;>(rename_i heq;simp only[Op.call.injEq,Call.mk.injEq,Callee.builtin.injEq,reduceCtorEq]at heq)<;>try cases h
   · rename_i x t;obtain⟨rfl,rfl,rfl⟩:=heq;have hx:=hρ x;refine j0 (s:=Builtin.cap_ #[t] type #[ρ' x]) (by simp[execOp,resolve,invoke,builtin]) ?_
     split at h
     · rename_i e hu;simp at h;subst h;simp only[aop]at hv;split at hv
       · rename_i ex;simp at hv;obtain⟨rfl,rfl⟩:=hv;rw[ex]at hx;rw[hx.nils_inv];refine .same g (v:=.int .i64 0) ?_ (.pl _);simp[Builtin.cap_,z04 hu,goInt]
       · cases hv
     · cases h
   · rename_i x t;obtain⟨rfl,rfl,rfl⟩:=heq;have hx:=hρ x;refine j0 (s:=Builtin.clear_ #[t] type #[ρ' x]) (by simp[execOp,resolve,invoke,builtin]) ?_
     obtain⟨⟨e,sz⟩,he,h⟩:=z06 h;obtain⟨ag,l1,h⟩:=z06 h;obtain⟨z,hz,h⟩:=z06 h;split at h
     · rename_i d0;simp at h;subst h;obtain⟨k1,k3,k4,k5⟩:=z5C d0;simp only[aop]at hv;split at hv
       · rename_i u1 l n lo ex;split at hv
         · rename_i n2 xs hs;split at hv
           · rename_i y0;obtain⟨rfl,rfl,rfl,x2⟩:=y0;simp only[Option.some.injEq,Prod.mk.injEq]at hv;obtain⟨rfl,rfl⟩:=hv;rw[ex]at hx;exact z59 g he hz k1 k3 k4 hs x2 hx
           · cases hv
         · cases hv
       · cases hv
     · cases h
   · rename_i x y tq;obtain⟨rfl,rfl,_⟩:=heq;simp only[aop]at hv;split at hv
     · rename_i k a k' b ex ey;split at hv
       · rename_i hk;subst hk;simp at hv;obtain⟨rfl,rfl⟩:=hv;have hx:=hρ x;have hy:=hρ y;rw[ex]at hx;rw[ey]at hy;have e1:=hx.pl_inv;have e2:=hy.pl_inv;refine j0 (s:=Builtin.min_ t1 type #[ρ' x,ρ' y]) (by simp[execOp,resolve,invoke,builtin]) (.same g ?_ (.pl _))
         rw[e1,e2];simp[Builtin.min_,Builtin.min2]
       · cases hv
     · cases hv
   · rename_i x y tq;obtain⟨rfl,rfl,_⟩:=heq;simp only[aop]at hv;split at hv
     · rename_i k a k' b ex ey;split at hv
       · rename_i hk;subst hk;simp at hv;obtain⟨rfl,rfl⟩:=hv;have hx:=hρ x;have hy:=hρ y;rw[ex]at hx;rw[ey]at hy;have e1:=hx.pl_inv;have e2:=hy.pl_inv;refine j0 (s:=Builtin.max_ t1 type #[ρ' x,ρ' y]) (by simp[execOp,resolve,invoke,builtin]) (.same g ?_ (.pl _))
         rw[e1,e2];simp[Builtin.max_,Builtin.max2]
       · cases hv
     · cases hv
   · rename_i x y t t2;obtain⟨rfl,rfl,rfl⟩:=heq;have hx:=hρ x;refine j0 (s:=Builtin.copy_ #[t,t2] type #[ρ' x,ρ' y]) (by simp[execOp,resolve,invoke,builtin]) ?_
     split at h
     · rename_i e hu;split at h
       · rename_i hsz;simp only[beq_iff_eq]at hsz;simp at h;subst h;simp only[aop]at hv;split at hv
         · rename_i ys f0;have hS:=z9b (P:=P) g f0 (hρ y);split at hv
           · rename_i l n ex;split at hv
             · rename_i sz xs hs;split at hv
               · rename_i y0;obtain⟨rfl,rfl⟩:=y0;simp only[Option.some.injEq,Prod.mk.injEq]at hv;obtain⟨rfl,rfl⟩:=hv;rw[ex]at hx;exact z5A g hu hsz hS hs hx
               · cases hv
             · cases hv
           · rename_i l off n ex;split at hv
             · rename_i cs hs;split at hv
               · rename_i y0;simp only[Option.some.injEq,Prod.mk.injEq]at hv;obtain⟨rfl,rfl⟩:=hv;rw[ex]at hx;exact z5B g hu hsz hS hs hx y0.1 y0.2
               · cases hv
             · cases hv
           · cases hv
         · cases hv
       · cases h
     · cases h
   · rename_i x y t t2;obtain⟨rfl,rfl,rfl⟩:=heq;have hx:=hρ x;refine j0 (s:=Builtin.append_ #[t,t2] type #[ρ' x,ρ' y]) (by simp[execOp,resolve,invoke,builtin]) ?_
     split at h
     · rename_i k2 r1;obtain⟨⟨e,sz⟩,he,h⟩:=z06 h;obtain⟨ag,l1,h⟩:=z06 h;obtain⟨z,hz,h⟩:=z06 h;split at h
       · rename_i d0;simp at h;subst h;obtain⟨k1,k3,k4,k5⟩:=z5C d0;simp only[aop]at hv;split at hv
         · rename_i n ex en;rw[ex]at hx;obtain⟨ky,ey⟩:=z1Q en (hρ y);rw[hx.nils_inv,ey];split at hv
           · rename_i i1;subst i1;simp at hv;obtain⟨rfl,rfl⟩:=hv;obtain⟨hu,hsz,n0⟩:=z1a he;refine .same g (v:=.slice none 0 0) ?_ .nils;have hw:IntKind.i64.wrap 0=0:=by rw[IntKind.wrap_i64];omega
             obtain⟨i,hi⟩:∃i,P.info? e=some i:=by
              unfold appOK at k5;split at k5
              · exact⟨_,by assumption⟩
              · cases k5
             simp[Builtin.append_,z04 hu,z0p hsz,z04 r1,asInt,asIntOf,hw,z4d hi,Builtin.firstCells]
           · split at hv
             · rename_i i1 hn1;simp at hv;obtain⟨rfl,rfl⟩:=hv;have:=z9j (P:=P) (t:=t) (t2:=t2) (ty:=type) (n:=n.toNat) (k:=ky) g he hz k1 k3 k4 k5 r1 (by omega) (by omega)
               rwa [Int.toNat_of_nonneg (by omega)]at this
             · cases hv
         · cases hv
       · cases h
     · cases h
 |_=>simp[opAO2]at h
def opAOx (P:Program) (own:Bool) (op:Op):Option AO :=
 match opAO2 P own op with
 |some a=>some a
 |none=>opAO P own op
theorem zeG {own:Bool} {o:Oper} {ao:AO} {ρ:Operand→AV} {ρ':Operand→Value} {r:AV} (h:opAOx P own o.op=some ao) (hv:aop ρ σ ao=some (r,σ'))
  (g:Good M σ ν w) (hρ:z27 M (RefOK σ ν) w ρ ρ') (hc:∀v,ρ' (.const v)=v) (hcg:∀k,ρ' (.global k)=.pointer (some ⟨k,0,none⟩)):Done P (execOp ρ' o) M σ ν w r σ':=by
 unfold opAOx at h;split at h
 · rename_i a ha;simp at h;subst h;exact zeF ha hv g hρ hc hcg
 · exact zgX h hv g hρ
end
abbrev Env:=List AV
def tmpA (env:Env) (t:Nat):AV:=env.getD t .any
def aev (env:Env):Operand→AV
 |.tmp t=>tmpA env t
 |.const v=>cval v
 |.global _=>.any
 |.func f=>.fn f [] []
inductive AOp where
 |prim (ao:AO)
 |call (f:Operand) (args:List Operand)
 |fresh (n:Nat) (d:Tmp) (x:Operand)
 |flo (n:Nat)
 |adopt (own:Bool) (d:Tmp) (n:Nat) (x:Operand)
structure AOper where
 dst:Option Tmp
 guard:Option (Tmp×Bool)
 op:AOp
def putA (env:Env) (d:Option Tmp) (r:AV):Env :=
 match d with
 |some t=>env.set t r
 |none=>env
def wantA (env:Env):Option (Tmp×Bool)→Option Bool
 |none=>some true
 |some (t,want)=>match tmpA env t with
  |.pl (.bool b)=>some (b==want)
  |.tup []=>some false
  |_=>none
def Enters (P : Program) (f : FuncId) : Prop := ∃ fn, P.funcs[f]? = some fn ∧ (fn.name == "runtime.NumGoroutine") = false ∧ fn.body.isNone = false
def After (M:Nat→Prop) (σ:St) (ν:Nat→Value) (w:World) (r:AV) (σ':St) (v:Value) (w':World):Prop :=
 ∃M' ν',Good M' σ' ν' w'∧Later M σ ν w M' σ' ν' w'∧Rep M' (RefOK σ' ν') w' r v
def Ans (P:Program) (f:FuncId) (args:List AV) (σ:St) (r:AV) (σ':St):Prop :=
 ∀M ν w (vs:List Value),Good M σ ν w→Reps M (RefOK σ ν) w args vs →
  (Enters P f∧Calls P f vs.toArray w fun e w'=>∃v,e=.returned v∧After M σ ν w r σ' v w') ∨
  (∃v w',(callFunc f vs.toArray).run P w=.ok (.value v) w'∧After M σ ν w r σ' v w')
def axop (P:Program) (env:Env) (σ:St) (o:AOp) (K:AV→St→Prop):Prop :=
 match o with
 |.prim ao=>match aop (aev env) σ ao with
  |some (r,σ')=>K r σ'
  |none=>False
 |.call f args=>match aev env f with
  |.fn g fs cs=>∃r σ',Ans P g (fs++args.map (aev env)++cs) σ r σ'∧K r σ'
  |_=>False
 |.fresh n d x=>if d<env.length∧(aev env x).okc∧(aev env x).cells.length=n then K (.rp (aev env x).cells) σ else False
 |.flo _=>K .any σ
 |.adopt own d n x=>if d<env.length∧(aev env x).okc∧(aev env x).cells.length=n then
  (if own then K (.ptr σ.length 0) (σ++[.box (aev env x).cells]) else K (.rp (aev env x).cells) σ) else False
def axops (P:Program) (K:Env→St→Prop):List AOper→Env→St→Prop
 |[],env,σ=>K env σ
 |o::os,env,σ=>match wantA env o.guard with
  |some true=>axop P env σ o.op fun r σ'=>axops P K os (putA env o.dst r) σ'
  |some false=>axops P K os (putA env o.dst (.tup [])) σ
  |none=>False
section
variable {P:Program} {M M':Nat→Prop} {σ σ':St} {ν ν':Nat→Value} {w w':World} {R:Ref→Value→Prop}
structure EnvR (M:Nat→Prop) (R:Ref→Value→Prop) (w:World) (env:Env) (a:Act):Prop where
 len:env.length≤a.tmps.size
 rep:∀t,Rep M R w (tmpA env t) (a.tmps.getD t undef)
theorem EnvR.parts {env:Env} {a:Act} (h:EnvR M R w env a):z27 M R w (aev env) a.eval:=by
 intro x
 cases x with
 |tmp t=>exact h.rep t
 |const v=>exact z7f v
 |global g=>exact .any _
 |func f=>exact .fn f [] [] [] [] rfl rfl (fun j hj=>by simp at hj) (fun j hj=>by simp at hj)
theorem EnvR.put {env:Env} {a:Act} (h:EnvR M R w env a) (d:Option Tmp) {r:AV} {v:Value} (hr:Rep M R w r v):EnvR M R w (putA env d r) (a.put d v):=by
 cases d with
 |none=>exact h
 |some t =>
  refine⟨by simpa[putA,Act.put] using h.len,fun s=>?_⟩
  simp only[putA,Act.put,tmpA,List.getD_eq_getElem?_getD,List.getElem?_set];by_cases hs:t=s
  · subst hs;by_cases hlt:t<env.length
    · have:t<a.tmps.size:=Nat.lt_of_lt_of_le hlt h.len;simpa[hlt,this] using hr
    · simp[hlt];exact .any _
  · rw[if_neg hs];have:=h.rep s;simp only[tmpA,List.getD_eq_getElem?_getD]at this;simpa[Array.getElem?_setIfInBounds_ne hs] using this
theorem EnvR.mono {env:Env} {a:Act} {R':Ref→Value→Prop} (h:EnvR M R w env a) (h1:∀b,b<w.heap.size→¬M b→¬M' b∧w'.heap[b]?=w.heap[b]?) (h2:∀r v,R r v→R' r v):EnvR M' R' w' env a :=
 ⟨h.len,fun t=>(h.rep t).mono h1 h2⟩
theorem Later.env (g:Good M σ ν w) (h:Later M σ ν w M' σ' ν' w') {env:Env} {a:Act} (hr:EnvR M (RefOK σ ν) w env a):EnvR M' (RefOK σ' ν') w' env a :=
 hr.mono (h.sealed g) h.evo
theorem z86:Rep M R w (.tup []) undef:=.tup [] [] rfl (fun j hj=>by simp at hj)
def guardOf (ops:Array Oper):Option (Nat×Bool)→Option (Option (Tmp×Bool))
 |none=>some none
 |some (j,want)=>((ops[j]?).bind (·.dst)).map fun t=>some (t,want)
theorem z9k {ops:Array Oper} {o:Oper} {env:Env} {a:Act} {gd:Option (Tmp×Bool)} {b:Bool} (hg:guardOf ops o.guard=some gd) (hw:wantA env gd=some b) (h:EnvR M R w env a) :
  Region.wanted o (yielded ops a.tmps)=b:=by
 unfold Region.wanted
 cases hgd:o.guard with
 |none=>rw[hgd]at hg;simp[guardOf]at hg;subst hg;simp[wantA]at hw;subst hw;rfl
 |some jw =>
  obtain⟨j,u0⟩:=jw;rw[hgd]at hg;simp only[guardOf]at hg;obtain⟨t,ht,rfl⟩:=z02 hg;have hr:=h.rep t;simp only[wantA]at hw;unfold yielded;simp only[ht,Option.bind_some];split at hw
  · rename_i b' e;rw[e]at hr;have e2:=hr.pl_inv
    have e3:a.tmps[t]?=some (.bool b'):=by
     cases hh:a.tmps[t]? with
     |none=>simp[hh,undef]at e2
     |some v=>simp[hh]at e2;rw[e2]
    simp[e3]at hw⊢;cases b'<;>cases u0<;>cases b<;>simp_all
  · rename_i e;rw[e]at hr;obtain⟨vs,e2,y0⟩:=hr.tup_inv
    have:vs=[]:=by
     have:=y0.1;exact List.eq_nil_of_length_eq_zero this.symm
    subst this;simp at hw;subst hw
    cases hh:a.tmps[t]? with
    |none=>rfl
    |some v=>simp[hh]at e2;subst e2;rfl
  · cases hw
def zaa:Op→Option AOp
 |.call { callee:=.value f,args,.. }=>some (.call f args.toList)
 |_=>none
def zab (P:Program) (own:Bool) (op:Op):Option AOp :=
 match zaa op with
 |some c=>some c
 |none=>some (.prim ((opAOx P own op).getD .bad))
theorem z6F {op:Op} {c:AOp} (h:zaa op=some c):∃f args u0,op=.call { callee:=.value f,args,argTypes:=u0 }∧c=.call f args.toList:=by
 unfold zaa at h;split at h
 · rename_i f args u0;simp at h;exact⟨f,args,u0,rfl,h.symm⟩
 · cases h
theorem Reps.map {ρ:Operand→AV} {ρ':Operand→Value} (h:z27 M R w ρ ρ') (l:List Operand):Reps M R w (l.map ρ) (l.map ρ'):=⟨by simp,fun j _ _=>by simpa using h _⟩
theorem Rep.fn_inv {g:FuncId} {fs cs:List AV} {v:Value} (h:Rep M R w (.fn g fs cs) v):∃us vs:List Value,v=.func (.func g) us.toArray vs.toArray∧Reps M R w fs us∧Reps M R w cs vs:=by
 cases h with
 |fn g fs cs us vs hl hl' hr hr'=>exact⟨us,vs,rfl,⟨hl,hr⟩,⟨hl',hr'⟩⟩
theorem z4K {own:Bool} {o:Oper} {ao:AOp} {env:Env} {a:Act} {KA:AV→St→Prop} {K:Act→World→Prop} {Q:Exit→Act→World→Prop}
  (hc:zab P own o.op=some ao) (hx:axop P env σ ao KA) (g:Good M σ ν w) (he:EnvR M (RefOK σ ν) w env a)
  (hK:∀r σ' v w' M' ν',KA r σ'→Good M' σ' ν' w'→Later M σ ν w M' σ' ν' w'→Rep M' (RefOK σ' ν') w' r v→K (a.put o.dst v) w'):o.wp P a w K Q:=by
 unfold zab at hc
 cases hcall:zaa o.op with
 |none =>
  rw[hcall]at hc;simp only[Option.some.injEq]at hc;subst hc;simp only[axop]at hx
  cases hp:opAOx P own o.op with
  |none=>rw[hp]at hx;simp[aop]at hx
  |some p =>
  rw[hp]at hx;simp only[Option.getD_some]at hx;split at hx
  · rename_i r σ' hv;obtain⟨n,v,w',M',ν',h1,h2,h3,h4,h5⟩:=zeG hp hv g he.parts (fun _=>rfl) (fun _=>rfl)
    unfold Oper.wp;rw[h1];rcases h2 with rfl|⟨rfl,rfl⟩
    · exact hK r σ' v w' M' ν' hx h3 h4 h5
    · exact hK r σ' undef w' M' ν' hx h3 h4 h5
  · exact hx.elim
 |some c =>
  rw[hcall]at hc;simp at hc;subst hc;obtain⟨f,args,tys,ho,rfl⟩:=z6F hcall;simp only[axop]at hx;split at hx
  · rename_i gf fs cs hf;obtain⟨r,σ',hS,hx⟩:=hx;have j0:=he.parts f;rw[hf]at j0;obtain⟨us,vs,e,k0,m0⟩:=j0.fn_inv;have u0:=Reps.map he.parts args.toList
    have y0:(execOp a.eval o).run P w=(callFunc gf (us.toArray++(args.map a.eval)++vs.toArray)).run P w:=by
     unfold execOp;rw[ho];simp[resolve,e,Deferred.ofValue,invoke]
    have q0:us.toArray++(args.map a.eval)++vs.toArray=(us++args.toList.map a.eval++vs).toArray:=by
     apply Array.ext';simp
    rw[q0]at y0;unfold Oper.wp;rw[y0];rcases hS M ν w _ g ((k0.append u0).append m0) with⟨⟨fn,hfn,hn,hb⟩,hcalls⟩|⟨v,w',hrun2,M',ν',h1,h2,h3⟩
    · have n0:(callFunc gf (us++args.toList.map a.eval++vs).toArray).run P w=.ok (.enter gf (us++args.toList.map a.eval++vs).toArray) w:=by
       simp only[callFunc,Sem.run_bind,run_program,Result.andThen,hfn,hn,hb,Bool.false_eq_true,if_false,Sem.run_pure]
      rw[n0];refine hcalls.mono ?_;rintro e w' ⟨v,rfl,M',ν',h1,h2,h3⟩;exact hK r σ' v w' M' ν' hx h1 h2 h3
    · rw[hrun2];exact hK r σ' v w' M' ν' hx h1 h2 h3
  · exact hx.elim
def z1T (P:Program) (own:List Tmp) (ops:Array Oper) (o:Oper):Option AOper :=
 (guardOf ops o.guard).bind fun gd=>(zab P (match o.dst with|some d=>own.contains d|none=>false) o.op).map fun op=>{ dst:=o.dst,guard:=gd,op }
def zac (d:Tmp):Operand→Bool
 |.tmp s=>s != d
 |_=>true
def z7h (P:Program) (o1 o2:Oper):Option AOper :=
 match o1.dst,o1.op,o1.guard,o2.op,o2.guard,o2.dst with
 |some d,.alloc t,none,.store t' (.tmp d') x,none,none =>
  if d=d'∧t=t'∧zac d x=true then
   (szOf P t).bind fun n=>if((zcOf P t).map (·.length))=some n then some { dst:=some d,guard:=none,op:=.fresh n d x } else none
  else none
 |_,_,_,_,_,_=>none
def ownB (own:List Tmp):Option Tmp→Bool
 |some d=>own.contains d
 |none=>true
def compL (P:Program) (own:List Tmp) (ops:Array Oper):List Oper→Option (List AOper)
 |[]=>some []
 |[o]=>(z1T P own ops o).map fun x=>[x]
 |o1::o2::l =>
  if ownB own o1.dst then(z1T P own ops o1).bind fun x=>(compL P own ops (o2::l)).map (x::·)
  else match z7h P o1 o2 with
  |some x=>(compL P own ops l).map (x::·)
  |none=>(z1T P own ops o1).bind fun x=>(compL P own ops (o2::l)).map (x::·)
theorem z41 {o1 o2:Oper} {x:AOper} (h:z7h P o1 o2=some x):∃d t y n,o1.dst=some d∧o1.op=.alloc t∧o1.guard=none∧o2.op=.store t (.tmp d) y∧o2.guard=none∧o2.dst=none ∧
  y≠.tmp d∧szOf P t=some n∧(∃z,zcOf P t=some z∧z.length=n)∧x={ dst:=some d,guard:=none,op:=.fresh n d y }:=by
 unfold z7h at h;split at h
 · rename_i d t t' d' y e1 e2 e3 e4 e5 e6;split at h
   · rename_i hc;obtain⟨rfl,rfl,hy⟩:=hc;obtain⟨n,hn,h⟩:=z06 h;split at h
     · rename_i hl;simp at h;obtain⟨z,hz,u0⟩:=z02 hl;refine⟨d,t,y,n,e1,e2,e3,e4,e5,e6,?_,hn,⟨z,hz,u0⟩,h.symm⟩;rintro rfl;simp[zac]at hy
     · cases h
   · cases h
 · cases h
theorem Act.eval_put_ne {a:Act} {d:Tmp} {v:Value} {x:Operand} (h:x≠.tmp d):(a.put (some d) v).eval x=a.eval x :=
 Act.eval_put (fun d' e=>by simp at e;subst e;exact h)
theorem z9l {ops:Array Oper} {Q:Exit→Act→World→Prop} {o1 o2:Oper} {x:AOper} {env:Env} {a:Act} {l:List Oper} {KA:AV→St→Prop}
  (hf:z7h P o1 o2=some x) (hx:axop P env σ x.op KA) (g:Good M σ ν w) (he:EnvR M (RefOK σ ν) w env a)
  (hK:∀r v w',KA r σ→Good M σ ν w'→Later M σ ν w M σ ν w'→Rep M (RefOK σ ν) w' r v→wpList P ops Q l (a.put x.dst v) w'):wpList P ops Q (o1::o2::l) a w:=by
 obtain⟨d,t,y,n,e1,e2,e3,e4,e5,e6,hy,hn,⟨z,hz,x1⟩,rfl⟩:=z41 hf;simp only[axop]at hx;split at hx
 · rename_i hc;obtain⟨j1,ho,m1⟩:=hc;obtain⟨v0,y1,hr0⟩:=z3Z hz;have m0:v0.cells.size=n:=((hr0 M (RefOK σ ν) w).1.trans Array.length_toList).symm.trans x1;have u1:=he.parts y;have u0:=u1.okc_cells ho;have k0:(a.eval y).cells.toList.length=n:=by rw[←u0.1];exact m1
   have q0:(execOp a.eval o1).run P w=.ok (.value (.pointer (some ⟨w.heap.size,0,none⟩))) (w.alloc (.cells v0.cells t)):=by
    unfold execOp;rw[e2];simp[Instr.alloc,y1,newVar,newRow]
   obtain⟨c',h0,o0⟩:=z15 (P:=P) w.heap.size 0 t (0,0) (a.eval y).cells.toList 0 v0.cells (w.alloc (.cells v0.cells t)) (z2Z w _) (by omega)
    (u0.one (AV.okc_all ho)) (fun j _=>by simp)
   have j0:(execOp (a.put (some d) (.pointer (some ⟨w.heap.size,0,none⟩))).eval o2).run P (w.alloc (.cells v0.cells t))=.ok .skip (putRow (w.alloc (.cells v0.cells t)) w.heap.size c' t (0,0)):=by
    unfold execOp;rw[e4];simp only[Act.eval_put_ne hy];have hd:d<a.tmps.size:=Nat.lt_of_lt_of_le j1 he.len
    have hp:(a.put (some d) (.pointer (some ⟨w.heap.size,0,none⟩))).eval (.tmp d)=.pointer (some ⟨w.heap.size,0,none⟩):=by
     simp[Act.put,Act.eval,hd]
    have k1:(a.eval y).cells.size=n:=by simpa using k0
    simp only[hp,Instr.storeAt,Instr.sureAddr,storeVar,Sem.run_bind,Sem.run_pure,Result.andThen,z0p hn,k1,ne_eq,not_true,if_false,h0]
   have d0:∀b,b<w.heap.size→(putRow (w.alloc (.cells v0.cells t)) w.heap.size c' t (0,0)).heap[b]?=w.heap[b]?:=fun b hb=>by
    rw[z13 (by omega),heap_alloc_old w _ b hb]
   have y0:w.heap.size≤(putRow (w.alloc (.cells v0.cells t)) w.heap.size c' t (0,0)).heap.size:=by simp
   have q1:=g.grow y0 d0;have t0:Later M σ ν w M σ ν (putRow (w.alloc (.cells v0.cells t)) w.heap.size c' t (0,0)):=.grow y0 d0;have r0:=z14 (z2Z w (.cells v0.cells t)) c' t (0,0)
   have e0:c'.toList=(a.eval y).cells.toList:=by
    rw[o0];have:v0.cells.toList.length=(a.eval y).cells.toList.length:=by rw[k0];simpa using m0
    simp[z0s,←this]
   have n0:Rep M (RefOK σ ν) (putRow (w.alloc (.cells v0.cells t)) w.heap.size c' t (0,0)) (.rp (aev env y).cells) (.pointer (some ⟨w.heap.size,0,none⟩)):=by
    have l0:=t0.reps g u0;refine .rp _ _ _ (fun j=>c'[j]?.getD undef) (fun j hj=>⟨fun h=>absurd (g.lt _ h) (Nat.lt_irrefl _),?_⟩) (fun j hj=>?_)
    · rw[cell_of_row _ _ _ _ _ _ r0,Nat.zero_add];have:j<c'.size:=by rw[←Array.length_toList,e0,k0];omega
      simp[this]
    · have f0:j<(a.eval y).cells.toList.length:=by rw[k0];omega
      have:=l0.2 j hj f0
      have e:c'[j]?.getD undef=(a.eval y).cells.toList[j]:=by
       have n1:j<(a.eval y).cells.size:=by simpa using f0
       rw[←Array.getElem?_toList,e0];simp[n1]
      rw[e];exact this
   unfold wpList;rw[if_pos (by simp[Region.wanted,e3])]
   refine .inl ?_;unfold Oper.wp;rw[q0,Oper.upon_value,e1];unfold wpList;rw[if_pos (by simp[Region.wanted,e5])]
   refine .inl ?_;unfold Oper.wp;rw[j0,Oper.upon_skip,e6];exact hK _ _ _ hx q1 t0 n0
 · exact hx.elim
theorem z9m {own:List Tmp} {ops:Array Oper} {KA:Env→St→Prop} {Q:Exit→Act→World→Prop} :
  ∀(n:Nat) (l:List Oper) (al:List AOper) (env:Env) (σ:St) (M:Nat→Prop) (ν:Nat→Value) (w:World) (a:Act),l.length≤n →
   compL P own ops l=some al→axops P KA al env σ→Good M σ ν w→EnvR M (RefOK σ ν) w env a →
   (∀env' σ' M' ν' w' a',KA env' σ'→Good M' σ' ν' w'→Later M σ ν w M' σ' ν' w'→EnvR M' (RefOK σ' ν') w' env' a'→a'.defers=a.defers→Q .normal a' w') →
   wpList P ops Q l a w:=by
 intro n
 induction n with
 |zero =>
  intro l al env σ M ν w a hn hl hx g he hK;have:l=[]:=List.eq_nil_of_length_eq_zero (by omega)
  subst this;simp[compL]at hl;subst hl;exact hK env σ M ν w a hx g .refl he rfl
 |succ n ih =>
  intro l al env σ M ν w a hn hl hx g he hK
  have one:∀(o:Oper) (l':List Oper) (x:AOper) (u0:List AOper),l=o::l'→al=x::u0→z1T P own ops o=some x→compL P own ops l'=some u0→wpList P ops Q l a w:=by
   rintro o l' ao u0 rfl rfl h1 h2;unfold z1T at h1;obtain⟨gd,j0,h1⟩:=z06 h1;obtain⟨p,hp,rfl⟩:=z02 h1;simp only[axops]at hx;unfold wpList;have y0:∀(d:Option Tmp) (v:Value),(a.put d v).defers=a.defers:=fun d v=>by cases d<;>rfl
   have n0:l'.length≤n:=by simpa using hn
   split at hx
   · rename_i hw;rw[if_pos (z9k j0 hw he)];refine .inl (z4K hp hx g he fun r σ' v w' M' ν' hk g' l' r'=>?_)
     refine ih _ u0 _ σ' M' ν' w' _ n0 h2 hk g' ((l'.env g he).put _ r') fun env2 σ2 M2 ν2 w2 a2 k2 g2 l2 e2 d2=>?_
     exact hK env2 σ2 M2 ν2 w2 a2 k2 g2 (l'.trans l2) e2 (d2.trans (y0 _ _))
   · rename_i hw;rw[if_neg (by rw[z9k j0 hw he];simp)]
     refine ih _ u0 _ σ M ν w _ n0 h2 hx g (he.put _ z86) fun env2 σ2 M2 ν2 w2 a2 k2 g2 l2 e2 d2=>?_
     exact hK env2 σ2 M2 ν2 w2 a2 k2 g2 l2 e2 (d2.trans (y0 _ _))
   · exact hx.elim
  match l,hl with
  |[],hl =>
   simp[compL]at hl;subst hl;exact hK env σ M ν w a hx g .refl he rfl
  |[o],hl =>
   simp only[compL]at hl;obtain⟨x,hx1,rfl⟩:=z02 hl;exact one o [] x [] rfl rfl hx1 rfl
  |o1::o2::l,hl =>
   have two:((z1T P own ops o1).bind fun x=>(compL P own ops (o2::l)).map (x::·))=some al→wpList P ops Q (o1::o2::l) a w:=by
    intro h;obtain⟨x,hx1,h⟩:=z06 h;obtain⟨u0,m0,rfl⟩:=z02 h;exact one o1 (o2::l) x u0 rfl rfl hx1 m0
   rw[compL]at hl;split at hl
   · exact two hl
   · split at hl
     · rename_i x k0;obtain⟨u0,m0,rfl⟩:=z02 hl
       have j0:x.guard=none:=by
        obtain⟨_,_,_,_,_,_,_,_,_,_,_,_,_,rfl⟩:=z41 k0;rfl
       simp only[axops,j0,wantA]at hx;have y0:∀(d:Option Tmp) (v:Value),(a.put d v).defers=a.defers:=fun d v=>by cases d<;>rfl
       have q0:axop P env σ x.op fun r s=>axops P KA u0 (putA env x.dst r) s:=by
        obtain⟨d,t,y,n',_,_,_,_,_,_,_,_,_,rfl⟩:=z41 k0;exact hx
       refine z9l k0 q0 g he fun r v w' hk g' l' r'=>?_
       refine ih l u0 _ σ M ν w' _ (by simp at hn;omega) m0 hk g' ((l'.env g he).put _ r') fun env2 σ2 M2 ν2 w2 a2 k2 g2 l2 e2 d2=>?_
       exact hK env2 σ2 M2 ν2 w2 a2 k2 g2 (l'.trans l2) e2 (d2.trans (y0 _ _))
     · exact two hl
end
end Go.Ab
