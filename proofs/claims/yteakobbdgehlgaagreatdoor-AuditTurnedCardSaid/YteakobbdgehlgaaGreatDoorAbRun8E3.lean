/- The model's append, over the abstract rows. No condition. -/
import Derived.Test.YteakobbdgehlgaaGreatDoorAbRun5E3
import Derived.Laws.AppendOwn
import Derived.Laws.StructEq
import Derived.ChangeKeysEq
import Derived.Lib.ConvBytes
import Derived.Laws.BytesString
import Derived.Laws.MakeOwn
set_option linter.unusedSimpArgs false
set_option linter.unusedVariables false
set_option linter.unusedSectionVars false
set_option maxHeartbeats 4000000
namespace Go.Ab
open Go
section
variable {P:Program} {M M':Nat→Prop} {σ σ':St} {ν ν':Nat→Value} {w w':World} {R:Ref→Value→Prop}
structure ElemOK (P:Program) (t elem:TypeId) (sz:Nat):Prop where
 ty:P.underlying t=some (.slice elem)
 size:szOf P elem=some sz
 bytes:∃i z,P.info? elem=some i∧i.zero=some z∧i.bytes≤32768∧z.cells.size=sz
 pos:0<sz
def NoInt (P:Program) (t:TypeId):Prop:=(∃e,P.underlying t=some (.slice e))∨P.underlying t=some .string
theorem z2v {t t2 ty elem:TypeId} {sz n cap k:Nat} {a:Option Addr} {x:Value} {os vs:List Value} (he:ElemOK P t elem sz) (ht2:NoInt P t2)
  (hk:∀w',(Builtin.lenOf x).run P w'=.ok k w') (hbig:cap<n+k) (hsz:n+k≤4294967296)
  (hold:∀w':World,w'.heap=w.heap→(Builtin.firstCells sz n (.slice a n cap)).run P w'=.ok os.toArray w')
  (hnew:∀w':World,w'.heap=w.heap→(Builtin.firstCells sz k x).run P w'=.ok vs.toArray w') :
  ∃zs:Array Value,zs.size=(grownCap w (n+k) cap elem-(n+k))*sz ∧
   (Builtin.append_ #[t,t2] ty #[.slice a n cap,x]).run P w=.ok (.slice (some ⟨w.heap.size,0,none⟩) (n+k) (grownCap w (n+k) cap elem))
    ((w.drew).alloc (.cells (os.toArray++vs.toArray++zs) elem)):=by
 obtain⟨i,z,hi,hz,m0,k0⟩:=he.bytes;refine⟨Builtin.zeroCells z.cells (grownCap w (n+k) cap elem-(n+k)),by rw[size_zeroCells,k0],?_⟩
 have hle:¬n+k≤cap:=by omega
 have q0:¬(281474976710656<Builtin.nextslicecap (n+k) cap*i.bytes):=by
  have:(n+k)*i.bytes≤4294967296*32768:=Nat.mul_le_mul hsz m0;have:=growslice_fits (need:=n+k) (old:=cap) (bytes:=i.bytes) hbig (by omega)
  omega
 have j0:¬(9223372036854775807<(n:Int)+(k:Int)):=by omega
 have hs:=he.size;have u0:=hold w.drew rfl;have y0:=hnew w.drew rfl
 rcases ht2 with⟨e2,hd2⟩|hd2 <;>
  (simp[Builtin.append_,z04 he.ty,z0p he.size,z04 hd2,hk,hle,j0,z4d hi,q0,Question.forced,zeroValue,hz,newRow,u0,y0,grownCap]
   congr 2;apply Array.ext';simp[List.append_assoc])
theorem z5y {t t2 ty elem:TypeId} {sz n cap k:Nat} {b o:Nat} {x:Value} {vs:List Value} {c:Array Value} {e:TypeId} {fr:Nat×Nat} (he:ElemOK P t elem sz) (ht2:NoInt P t2)
  (hk:∀w',(Builtin.lenOf x).run P w'=.ok k w') (hroom:n+k≤cap)
  (hnew:(Builtin.firstCells sz k x).run P w=.ok vs.toArray w) (hvl:vs.length=k*sz) (h1:∀v∈vs,v.oneCell'=true)
  (hh:w.heap[b]?=some (.cells c e fr)) (hs:o+cap*sz≤c.size) (hf:∀j,j<cap*sz→¬(fr.1≤o+j∧o+j<fr.2)) :
  ∃c',(Builtin.append_ #[t,t2] ty #[.slice (some ⟨b,o,none⟩) n cap,x]).run P w=.ok (.slice (some ⟨b,o,none⟩) (n+k) cap) (putRow w b c' e fr) ∧
   c'.toList=z0s c.toList (o+n*sz) vs:=by
 have hle:(n+k)*sz≤cap*sz:=Nat.mul_le_mul_right _ hroom;rw[Nat.add_mul]at hle
 obtain⟨c',hr,u0⟩:=z15 (P:=P) b (o+n*sz) e fr vs 0 c w hh (by omega) h1 (fun j hj=>by
  have:=hf (n*sz+j) (by omega)
  rw[show o+n*sz+0+j=o+(n*sz+j) by omega];exact this)
 refine⟨c',?_,by simpa using u0⟩
 rcases ht2 with⟨e2,hd2⟩|hd2 <;>
  simp[Builtin.append_,z04 he.ty,z0p he.size,z04 hd2,hk,hroom,hnew,z25,hr]
theorem Elems.append {sz:Nat} {xs ys:List AV} {us vs:List Value} (h:Elems M R w sz xs us) (h':Elems M R w sz ys vs) (hl:us.length=xs.length*sz):Elems M R w sz (xs++ys) (us++vs):=by
 intro i j hi hj;by_cases h1:i<xs.length
 · simp only[List.getElem_append_left h1]at hj⊢;obtain⟨e1,e2⟩:=h i j h1 hj;refine⟨e1,fun v hv=>e2 v ?_⟩
   rwa [List.getElem?_append_left (by rw[hl];exact z2h h1 e1)]at hv
 · simp only[List.getElem_append_right (Nat.le_of_not_lt h1)]at hj⊢;have u0:i-xs.length<ys.length:=by simp at hi;omega
   obtain⟨e1,e2⟩:=h' (i-xs.length) j u0 hj;refine⟨e1,fun v hv=>e2 v ?_⟩
   have e3:i*sz=(i-xs.length)*sz+xs.length*sz:=by rw[←Nat.add_mul];congr 1;omega
   rw[List.getElem?_append_right (by rw[hl];omega)]at hv
   rw[show(i-xs.length)*sz+j=i*sz+j-us.length by omega]
   exact hv
theorem Elems.more {sz:Nat} {xs:List AV} {us zs:List Value} (h:Elems M R w sz xs us) (hl:us.length=xs.length*sz):Elems M R w sz xs (us++zs):=by
 intro i j hi hj;obtain⟨e1,e2⟩:=h i j hi hj;refine⟨e1,fun v hv=>e2 v ?_⟩
 rwa [List.getElem?_append_left (by rw[hl];exact z2h hi e1)]at hv
theorem ObOK.row' {sz:Nat} (xs:List AV) {n b o cap:Nat} {c:Array Value} {e:TypeId} {fr:Nat×Nat} (hn:n=xs.length) (hM:M b) (hh:w.heap[b]?=some (.cells c e fr))
  (hl:xs.length≤cap) (hs:o+cap*sz≤c.size) (hf:∀j,j<cap*sz→¬(fr.1≤o+j∧o+j<fr.2))
  (hr:∀i j (hi:i<xs.length) (hj:j<(xs[i]).cells.length),j<sz∧∀v,c[o+(i*sz+j)]?=some v→Rep M R w ((xs[i]).cells[j]) v) :
  ObOK M R w (.row sz xs) (.slice (some ⟨b,o,none⟩) n cap):=by subst hn;exact .row sz xs b o cap c e fr hM hh hl hs hf hr
theorem z30 {t t2 ty elem:TypeId} {sz:Nat} {ys:List AV} {x:Value} (g:Good M σ ν w) (he:ElemOK P t elem sz) (ht2:NoInt P t2) (hx:SrcOK P M (RefOK σ ν) w sz ys x)
  {a:Option Addr} (hne:ys≠[]) (hsz:ys.length≤4294967296) :
  Yields P (Builtin.append_ #[t,t2] ty #[.slice a 0 0,x]) M σ ν w (.osl σ.length ys.length) (σ++[.row sz ys]):=by
 obtain⟨vs,y0,m0,h1,r0⟩:=hx.cells;have n0:0<ys.length:=List.length_pos_iff.2 hne;obtain⟨zs,hz,u0⟩:=z2v (w:=w) (ty:=ty) (n:=0) (cap:=0) (a:=a) (os:=[]) he ht2 hx.len (by omega) (by omega) (fun w' _=>by cases a<;>simp[Builtin.firstCells,loadCells,loadCellsFrom]) r0
 simp only[Nat.zero_add]at hz u0;have q0:=grownCap_ge w ys.length 0 elem;have k0:Good M σ ν w.drew:=g.grow (Nat.le_refl _) fun _ _=>rfl
 obtain⟨M',ν',g',l',r'⟩:=k0.newRow sz ys elem (#[]++vs.toArray++zs) (grownCap w ys.length 0 elem) q0 (by simp[y0,hz,←Nat.add_mul];apply Nat.mul_le_mul_right;omega)
  (by have:=m0.more (zs:=zs.toList) y0
      have h3:=Elems.mono (w:=w) (M:=M) (R:=RefOK σ ν) (M':=M) (w':=w.drew) (R':=RefOK σ ν) (fun b _ hm=>⟨hm,rfl⟩) (fun _ _ h=>h) this
      simpa using h3)
 have j0:Later M σ ν w M σ ν w.drew:=.grow (Nat.le_refl _) fun _ _=>rfl
 exact⟨_,_,M',ν',u0,g',j0.trans l',r'⟩
theorem z4J {t t2 ty elem:TypeId} {sz l:Nat} {xs ys:List AV} {x sv:Value} (g:Good M σ ν w) (he:ElemOK P t elem sz) (ht2:NoInt P t2) (hx:SrcOK P M (RefOK σ ν) w sz ys x)
  (hs:σ[l]?=some (.row sz xs)) (hr:Rep M (RefOK σ ν) w (.osl l xs.length) sv) (hsz:xs.length+ys.length≤4294967296) :
  Yields P (Builtin.append_ #[t,t2] ty #[sv,x]) M σ ν w (.osl l (xs.length+ys.length)) (σ.set l (.row sz (xs++ys))):=by
 obtain⟨vs,m0,y1,h1,l0⟩:=hx.cells;obtain⟨a,len,cap,rfl,hR⟩:=hr.osl_inv;have e:=hR.s_row hs rfl
 have hσ:ys=[]→σ.set l (.row sz (xs++ys))=σ:=by
  rintro rfl;rw[List.append_nil];apply List.ext_getElem?;intro k;by_cases hk:k=l
  · subst hk;rw[z0m hs,hs]
  · rw[z0A hk]
 rcases(g.ob l _ hs).row_inv with⟨e3,rfl⟩|⟨b,o,cap2,c,el,fr,e3,hM,hh,hlen,hcs,hf,hrow⟩
 · rw[e3]at e;simp at e;obtain⟨rfl,rfl,rfl⟩:=e;by_cases hy:ys=[]
   · have u1:=hσ hy;subst hy;rw[u1];have:vs=[]:=by simpa using m0
     subst this;refine .same g (v:=.slice none 0 0) ?_ hr;have hk:=hx.len;have r0:=l0 w rfl;simp only[List.length_nil]at hk r0
     rcases ht2 with⟨e2,hd2⟩|hd2 <;>
      simp[Builtin.append_,z04 he.ty,z0p he.size,z04 hd2,hk,r0]
   · obtain⟨zs,hz,u0⟩:=z2v (w:=w) (ty:=ty) (n:=0) (cap:=0) (a:=none) (os:=[]) he ht2 hx.len (by have:=List.length_pos_iff.2 hy;omega) (by simpa using hsz) (fun w' _=>by simp[Builtin.firstCells]) l0
     simp only[Nat.zero_add,List.nil_append,List.length_nil]at hz u0 hsz⊢;have o0:=grownCap_ge w ys.length 0 elem;refine⟨_,_,fun k=>M k∨k=w.heap.size,fun k=>if k=l then .slice (some ⟨w.heap.size,0,none⟩) ys.length (grownCap w ys.length 0 elem) else ν k,u0,?_⟩
     have q0:∀r v,RefOK σ ν r v→RefOK (σ.set l (.row sz ys)) (fun k=>if k=l then .slice (some ⟨w.heap.size,0,none⟩) ys.length (grownCap w ys.length 0 elem) else ν k) r v :=
      fun r v h=>h.grow_row hs (by simpa using List.length_pos_iff.2 hy) (fun k hk=>by simp[hk])
     have f0:∀k,k<w.heap.size→(w.drew.alloc (.cells (#[]++vs.toArray++zs) elem)).heap[k]?=w.heap[k]?:=fun k hk=>heap_alloc_old w.drew _ k hk
     have:=g.update (ν':=fun k=>if k=l then .slice (some ⟨w.heap.size,0,none⟩) ys.length (grownCap w ys.length 0 elem) else ν k) (M':=fun k=>M k∨k=w.heap.size)
      (w':=w.drew.alloc (.cells (#[]++vs.toArray++zs) elem)) hs (by simp) (.row sz ys) (fun k hk=>by simp[hk]) (by simp) (fun k hk _=>f0 k hk)
      (fun k hk h=>h.elim id (fun e=>by omega)) (fun k h _=>.inl h) (fun k h=>by rcases h with h|h;(· have:=g.lt k h;simp;omega);(· simp[h])) (fun _ k hk=>by simp[blk]at hk;right;omega) q0
      (by simp only[if_true]
          have y0:=Elems.mono (M':=fun k=>M k∨k=w.heap.size) (w':=w.drew.alloc (.cells (#[]++vs.toArray++zs) elem)) (fun k hk hm=>⟨fun x=>x.elim hm (fun e=>by omega),f0 k hk⟩) q0 (y1.more (zs:=zs.toList) m0)
          refine .row sz ys w.heap.size 0 _ (#[]++vs.toArray++zs) elem (0,0) (.inr rfl) (heap_alloc_new w.drew _) o0 (by simp[m0,hz,←Nat.add_mul];apply Nat.mul_le_mul_right;omega) (by simp) (fun i j hi hj=>?_)
          refine⟨(y0 i j hi hj).1,fun v hv=>(y0 i j hi hj).2 v ?_⟩
          rw[Nat.zero_add,←Array.getElem?_toList]at hv
          simpa using hv)
     refine⟨this.1,this.2,.osl _ _ _ _ _ ?_⟩;simp[RefOK,z0m hs]
 · rw[e3]at e;simp at e;obtain⟨rfl,rfl,rfl⟩:=e;by_cases hroom:xs.length+ys.length≤cap
   · obtain⟨c',u0,h0⟩:=z5y (ty:=ty) he ht2 hx.len hroom (l0 w rfl) m0 h1 hh hcs hf;by_cases hy:ys=[]
     · have u1:=hσ hy;subst hy;rw[u1];have:vs=[]:=by simpa using m0
       subst this
       have t1:c'=c:=by
        apply Array.ext';rw[h0];simp[z0s]
       subst t1;rw[putRow_self hh]at u0;exact .same g u0 hr
     · have hle:(xs.length+ys.length)*sz≤cap*sz:=Nat.mul_le_mul_right _ hroom;rw[Nat.add_mul]at hle;have x1:(o+xs.length*sz)+vs.length≤c.toList.length:=by simp;omega
       have hcl:c'.size=c.size:=by rw[←Array.length_toList,h0,z0z _ _ _ x1,Array.length_toList]
       have t0:∀k,k≠l→(fun k=>if k=l then Value.slice (some ⟨b,o,none⟩) (xs.length+ys.length) cap else ν k) k=ν k:=fun k hk=>by simp[hk]
       have q0:∀r v,RefOK σ ν r v→RefOK (σ.set l (.row sz (xs++ys))) (fun k=>if k=l then .slice (some ⟨b,o,none⟩) (xs.length+ys.length) cap else ν k) r v :=
        fun r v h=>h.grow_row hs (by have:=List.length_pos_iff.2 hy;simp;omega) t0
       have k0:∀k,k<w.heap.size→blk (ν l)≠some k→(putRow w b c' el fr).heap[k]?=w.heap[k]?:=fun k _ r1=>z13 (fun e=>r1 (by rw[e3,blk,e])) _ _ _
       have j0:∀k,k<w.heap.size→¬M k→¬M k∧(putRow w b c' el fr).heap[k]?=w.heap[k]?:=fun k hk hm=>⟨hm,k0 k hk (fun e=>hm (by rw[e3,blk]at e;simp at e;exact e▸hM))⟩
       have:=g.update (ν':=fun k=>if k=l then .slice (some ⟨b,o,none⟩) (xs.length+ys.length) cap else ν k) (M':=M)
        (w':=putRow w b c' el fr) hs (by simp) (.row sz (xs++ys)) t0 (by simp) k0 (fun _ _ h=>h) (fun _ h _=>h) (fun k h=>by simpa using g.lt k h)
        (fun _ k hk=>by left;rw[e3];simpa[blk] using hk) q0
        (by simp only[if_true]
            refine ObOK.row' (xs++ys) (by simp) hM (z14 hh _ _ _) (by simpa using hroom) (by omega) hf (fun i j hi hj=>?_)
            by_cases hi1:i<xs.length
            · simp only[List.getElem_append_left hi1]at hj⊢;obtain⟨q1,q2⟩:=hrow i j hi1 hj;refine⟨q1,fun v hv=>(q2 v ?_).mono j0 q0⟩
              have:=z2h hi1 q1;rw[←Array.getElem?_toList,h0,z0U _ _ _ _ x1,if_neg (by omega),Array.getElem?_toList]at hv
              exact hv
            · simp only[List.getElem_append_right (Nat.le_of_not_lt hi1)]at hj⊢;have m1:i-xs.length<ys.length:=by simp at hi;omega
              obtain⟨q1,q2⟩:=y1 (i-xs.length) j m1 hj;have q3:i*sz=(i-xs.length)*sz+xs.length*sz:=by rw[←Nat.add_mul];congr 1;omega
              have q4:=z2h m1 q1;refine⟨q1,fun v hv=>(q2 v ?_).mono j0 q0⟩
              rw[←Array.getElem?_toList,h0,z0U _ _ _ _ x1,if_pos (by omega)]at hv
              rw[show(i-xs.length)*sz+j=o+(i*sz+j)-(o+xs.length*sz) by omega]
              exact hv)
       refine⟨_,_,M,_,u0,this.1,this.2,.osl _ _ _ _ _ ?_⟩;simp[RefOK,z0m hs]
   · have hy:ys≠[]:=by rintro rfl;simp at hroom;omega
     have hle:xs.length*sz≤cap*sz:=Nat.mul_le_mul_right _ hlen
     have n1:∀m,m<xs.length*sz→w.cell? ⟨b,o+m,none⟩=some (c[o+m]?.getD undef):=fun m hm=>by
      rw[cell_of_row _ _ _ _ _ _ hh];simp[show o+m<c.size by omega]
     obtain⟨zs,hz,u0⟩:=z2v (w:=w) (ty:=ty) (n:=xs.length) (cap:=cap) (a:=some ⟨b,o,none⟩) (os:=(List.range (xs.length*sz)).map fun m=>c[o+m]?.getD undef) he ht2 hx.len (by omega) hsz
      (fun w' h=>z2S _ n1 w' h) l0
     have o0:=grownCap_ge w (xs.length+ys.length) cap elem
     have hold:Elems M (RefOK σ ν) w sz xs ((List.range (xs.length*sz)).map fun m=>c[o+m]?.getD undef):=by
      intro i j hi hj;obtain⟨q1,q2⟩:=hrow i j hi hj;refine⟨q1,fun v hv=>q2 v ?_⟩
      have:=z2h hi q1;simp[this]at hv;rw[←hv];simp[show o+(i*sz+j)<c.size by omega]
     have e0:=(hold.append y1 (by simp)).more (zs:=zs.toList) (by simp[m0,Nat.add_mul])
     have t0:∀k,k≠l→(fun k=>if k=l then Value.slice (some ⟨w.heap.size,0,none⟩) (xs.length+ys.length) (grownCap w (xs.length+ys.length) cap elem) else ν k) k=ν k:=fun k hk=>by simp[hk]
     have q0:∀r v,RefOK σ ν r v→RefOK (σ.set l (.row sz (xs++ys))) (fun k=>if k=l then .slice (some ⟨w.heap.size,0,none⟩) (xs.length+ys.length) (grownCap w (xs.length+ys.length) cap elem) else ν k) r v :=
      fun r v h=>h.grow_row hs (by have:=List.length_pos_iff.2 hy;simp;omega) t0
     have n0:∃cc:Array Value,cc=(((List.range (xs.length*sz)).map fun m=>c[o+m]?.getD undef).toArray++vs.toArray++zs):=⟨_,rfl⟩
     obtain⟨cc,k1⟩:=n0;rw[←k1]at u0;have d0:cc.toList=((List.range (xs.length*sz)).map fun m=>c[o+m]?.getD undef)++vs++zs.toList:=by rw[k1];simp
     have j1:cc.size=grownCap w (xs.length+ys.length) cap elem*sz:=by
      rw[←Array.length_toList,d0];simp[m0,hz,←Nat.add_mul];congr 1;omega
     have f0:∀k,k<w.heap.size→(w.drew.alloc (.cells cc elem)).heap[k]?=w.heap[k]?:=fun k hk=>heap_alloc_old w.drew _ k hk
     rw[←d0]at e0
     have:=g.update (ν':=fun k=>if k=l then .slice (some ⟨w.heap.size,0,none⟩) (xs.length+ys.length) (grownCap w (xs.length+ys.length) cap elem) else ν k) (M':=fun k=>M k∨k=w.heap.size)
      (w':=w.drew.alloc (.cells cc elem)) hs (by simp) (.row sz (xs++ys)) t0 (by simp) (fun k hk _=>f0 k hk)
      (fun k hk h=>h.elim id (fun e=>by omega)) (fun k h _=>.inl h) (fun k h=>by rcases h with h|h;(· have:=g.lt k h;simp;omega);(· simp[h])) (fun _ k hk=>by simp[blk]at hk;right;omega) q0
      (by simp only[if_true]
          have y0:=Elems.mono (M':=fun k=>M k∨k=w.heap.size) (w':=w.drew.alloc (.cells cc elem)) (fun k hk hm=>⟨fun x=>x.elim hm (fun e=>by omega),f0 k hk⟩) q0 e0
          refine ObOK.row' (xs++ys) (by simp) (.inr rfl) (heap_alloc_new w.drew _) (by simpa using o0) (by simp[j1]) (by simp) (fun i j hi hj=>?_)
          refine⟨(y0 i j hi hj).1,fun v hv=>(y0 i j hi hj).2 v ?_⟩
          rw[Nat.zero_add,←Array.getElem?_toList]at hv
          exact hv)
     refine⟨_,_,_,_,u0,this.1,this.2,.osl _ _ _ _ _ ?_⟩;simp[RefOK,z0m hs]
end
section
variable {P:Program} {M M':Nat→Prop} {σ σ':St} {ν ν':Nat→Value} {w w':World} {R:Ref→Value→Prop}
theorem AV.one_cells {v:AV} (h:v.one=true):v.cells=[v]:=by cases v<;>simp_all [AV.cells,AV.one]
theorem z9c {x e':AV} {off:Nat} {vs:List AV} (h:z5v x off vs=some e'):off+vs.length≤x.cells.length∧e'.cells=z0s x.cells off vs:=by
 unfold z5v at h;split at h
 · split at h
   · rename_i hl;simp at h;subst h;exact⟨hl,rfl⟩
   · cases h
 · split at h
   · rename_i hc;obtain⟨rfl,u0⟩:=hc;split at h
     · rename_i v;split at h
       · rename_i hv;simp at h;subst h;rw[AV.one_cells u0,AV.one_cells hv];simp[z0s]
       · cases h
     · cases h
   · cases h
theorem zcj (g:Good M σ ν w) {t:TypeId} {n l i off m sz:Nat} {xs:List AV} {x e e':AV} {pv v:Value} (hn:szOf P t=some n) (hs:σ[l]?=some (.row sz xs)) (hm:m=xs.length)
  (hi:xs[i]?=some e) (he:z5v e off x.cells=some e')
  (hp:Rep M (RefOK σ ν) w (.ep l m i off) pv) (hx:Rep M (RefOK σ ν) w x v) (ho:x.okc=true) (hl:x.cells.length=n) :
  ∃w',(Instr.storeAt t pv v).run P w=.ok () w'∧Good M (σ.set l (.row sz (xs.set i e'))) ν w'∧Later M σ ν w M (σ.set l (.row sz (xs.set i e'))) ν w':=by
 obtain⟨y0,k0⟩:=z9c he;obtain⟨b,o,rfl,hR⟩:=hp.ep_inv;obtain⟨b',o',len,cap,e1,e2⟩:=hR.e_row hs hm;simp at e2;obtain⟨rfl,rfl⟩:=e2;obtain⟨n1,j1⟩:=List.getElem?_eq_some_iff.1 hi;rcases(g.ob l _ hs).row_inv with⟨e3,rfl⟩|⟨b2,o2,cap2,c,el,fr,e3,hM,hh,hlen,hsz,hf,hrow⟩
 · simp at n1
 · have e4:=e3;rw[e1]at e3;simp at e3;obtain⟨⟨rfl,rfl⟩,rfl,rfl⟩:=e3;have u0:=hx.okc_cells ho;have k1:v.cells.toList.length=n:=by rw[←u0.1];exact hl
   have r1:e.cells.length≤sz:=by
    rcases Nat.eq_zero_or_pos e.cells.length with h0|h0
    · omega
    · have:=(hrow i (e.cells.length-1) n1 (by rw[j1];omega)).1;omega
   have d0:(i+1)*sz≤cap*sz:=Nat.mul_le_mul_right _ (by omega)
   rw[Nat.add_mul,Nat.one_mul]at d0
   obtain⟨c',x1,e0⟩:=z15 (P:=P) b (o'+i*sz+off) el fr v.cells.toList 0 c w hh (by omega) (u0.one (AV.okc_all ho)) (fun j hj=>by
    have:=hf (i*sz+off+j) (by omega)
    rw[show o'+i*sz+off+0+j=o'+(i*sz+off+j) by omega];exact this)
   simp only[Nat.add_zero]at e0;have o0:(o'+i*sz+off)+v.cells.toList.length≤c.toList.length:=by simp only[Array.length_toList]at k1⊢;omega
   refine⟨putRow w b c' el fr,?_,?_⟩
   · have l1:v.cells.size=n:=by simpa using k1
     simp only[Instr.storeAt,Instr.sureAddr,storeVar,Sem.run_bind,Sem.run_pure,Result.andThen,z0p hn,l1,ne_eq,not_true,if_false,x1]
   · have f0:∀r v,RefOK σ ν r v→RefOK (σ.set l (.row sz (xs.set i e'))) ν r v:=fun r v h=>h.set_row hs (by simp)
     have m0:∀k,k<w.heap.size→blk (ν l)≠some k→(putRow w b c' el fr).heap[k]?=w.heap[k]?:=fun k _ t1=>z13 (fun e=>t1 (by rw[e4,blk,e])) _ _ _
     refine g.update hs (by simp) _ (fun _ _=>rfl) (by simp) m0 (fun _ _ h=>h) (fun _ h _=>h) (fun k h=>by simpa using g.lt k h) (fun _ k h=>.inl h) f0 ?_
     have q0:∀k,k<w.heap.size→¬M k→¬M k∧(putRow w b c' el fr).heap[k]?=w.heap[k]?:=fun k hk hm=>⟨hm,m0 k hk (fun e=>hm (by rw[e4,blk]at e;simp at e;exact e▸hM))⟩
     rw[e4];have hcl:c'.size=c.size:=by rw[←Array.length_toList,e0,z0z _ _ _ o0,Array.length_toList]
     refine ObOK.row' (xs.set i e') (by simp) hM (z14 hh _ _ _) (by simpa using hlen) (by omega) hf (fun i' j d1 hj=>?_)
     have m1:i'<xs.length:=by simpa using d1
     by_cases hii:i'=i
     · subst hii;have j0:(xs.set i' e')[i']=e':=by simp
       have t0:j<e.cells.length:=by rw[j0,k0,z0z _ _ _ y0]at hj;exact hj
       refine⟨by omega,fun u hu=>?_⟩
       rw[←Array.getElem?_toList,e0,z0U _ _ _ _ o0]at hu;have r0:(z0s e.cells off x.cells)[j]?=some ((z0s e.cells off x.cells)[j]'(by rw[z0z _ _ _ y0];exact t0)):=List.getElem?_eq_getElem _
       rw[z0U _ _ _ _ (by omega)]at r0
       have n0:Rep M (RefOK (σ.set l (.row sz (xs.set i' e'))) ν) (putRow w b c' el fr) ((z0s e.cells off x.cells)[j]'(by rw[z0z _ _ _ y0];exact t0)) u:=by
        by_cases hin:off≤j∧j<off+x.cells.length
        · rw[if_pos hin]at r0;rw[if_pos (by omega)]at hu
          obtain⟨u',h1,i1⟩:=u0.get r0;rw[show o'+(i'*sz+j)-(o'+i'*sz+off)=j-off by omega,h1]at hu
          simp at hu;subst hu;exact i1.mono q0 f0
        · rw[if_neg hin]at r0;rw[if_neg (by omega)]at hu
          obtain⟨o1,l0⟩:=List.getElem?_eq_some_iff.1 r0;rw[←l0];have:=(hrow i' j m1 (by rw[j1];exact o1)).2 u (by rw[←Array.getElem?_toList];exact hu)
          simp only[j1]at this;exact this.mono q0 f0
       have y1:(xs.set i' e')[i'].cells[j]=(z0s e.cells off x.cells)[j]'(by rw[z0z _ _ _ y0];exact t0):=by
        simp only[j0,k0]
       rw[y1];exact n0
     · have j0:(xs.set i e')[i']=xs[i']:=by rw[List.getElem_set_ne (by omega)]
       have t0:j<(xs[i']).cells.length:=by rw[j0]at hj;exact hj
       obtain⟨q1,q2⟩:=hrow i' j m1 t0;refine⟨q1,fun u hu=>?_⟩
       have u1:¬(o'+i*sz+off≤o'+(i'*sz+j)∧o'+(i'*sz+j)<o'+i*sz+off+v.cells.toList.length):=by
        rcases Nat.lt_or_gt_of_ne hii with hlt|hgt
        · have:(i'+1)*sz≤i*sz:=Nat.mul_le_mul_right _ hlt;rw[Nat.add_mul]at this;omega
        · have:(i+1)*sz≤i'*sz:=Nat.mul_le_mul_right _ hgt;rw[Nat.add_mul]at this;omega
       rw[←Array.getElem?_toList,e0,z0U _ _ _ _ o0,if_neg u1,Array.getElem?_toList]at hu;have:=(q2 u hu).mono (R':=RefOK (σ.set l (.row sz (xs.set i e'))) ν) q0 f0;simpa only[j0] using this
theorem zeB {α β:Type} (f:α→Sem β) (k:α→β) (w:World):∀(l:List α),(∀x∈l,(f x).run P w=.ok (k x) w)→(l.mapM f).run P w=.ok (l.map k) w:=by
 intro l
 induction l with
 |nil=>intro _;simp
 |cons x l ih =>
  intro h;simp only[List.mapM_cons,Sem.run_bind,h x (by simp),Result.andThen,ih (fun y hy=>h y (by simp[hy])),List.map_cons,Sem.run_pure]
theorem zbi (fs:Array Field) (w:World) (h:∀f∈fs.toList,(szOf P f.type).isSome) :
  (fs.mapM fun f=>do pure (f.offset,←sizeOf f.type):Sem (Array (Nat×Nat))).run P w=.ok (fs.toList.map fun f=>(f.offset,(szOf P f.type).getD 0)).toArray w:=by
 rw[Array.mapM_eq_mapM_toList];simp only[Sem.run_map]
 rw[zeB (P:=P) _ (fun f=>(f.offset,(szOf P f.type).getD 0)) w fs.toList (fun f hf=>by
  obtain⟨n,hn⟩:=Option.isSome_iff_exists.1 (h f hf)
  simp[z0p hn,hn])]
 rfl
def partOf (P:Program) (fs:Array Field) (p:Nat×Operand):Option Part:=(fs[p.1]?).bind fun f=>(szOf P f.type).map fun n=>(f.offset,n,p.2)
theorem z3Z {t:TypeId} {z:List AV} (h:zcOf P t=some z):∃v:Value,(∀w:World,(zeroValue t).run P w=.ok v w)∧∀(M:Nat→Prop) (R:Ref→Value→Prop) (w:World),Reps M R w z v.cells.toList:=by
 unfold zcOf at h
 cases hi:P.info? t with
 |none=>simp[hi]at h
 |some i =>
  cases hz:i.zero with
  |none=>simp[hi,hz]at h
  |some v =>
   simp[hi,hz]at h;refine⟨v,fun w=>by simp[zeroValue,z4d hi,hz],fun M R w=>?_⟩
   rw[←h];simpa using z5w v.cells.toList
theorem z83 {t:TypeId} {fs:Array Field} {z cs:List AV} {ps:Array (Nat×Operand)} {qs:List Part} {ρ:Operand→AV} {ρ':Operand→Value} (g:Good M σ ν w)
  (hu:P.underlying t=some (.struct fs)) (hf:∀f∈fs.toList,(szOf P f.type).isSome) (hz:zcOf P t=some z)
  (hq:ps.toList.map (partOf P fs)=qs.map some) (hρ:z27 M (RefOK σ ν) w ρ ρ') (h:fillA ρ z qs=some cs) :
  Yields P (Instr.build t (ps.map fun(i,x)=>(i,ρ' x))) M σ ν w (.agg cs) σ:=by
 obtain⟨v,hv,hr⟩:=z3Z hz
 obtain⟨c,u0,q0⟩:=z99 hρ (fun i=>(fs.toList.map fun f=>(f.offset,(szOf P f.type).getD 0)).toArray[i]?) ps.toList qs z cs v.cells (by
  rw[←hq];apply List.map_congr_left;intro p hp;unfold partOf
  cases hfi:fs[p.1]? with
  |none=>simp[hfi]
  |some f =>
   have j0:f∈fs.toList:=by
    obtain⟨hlt,rfl⟩:=Array.getElem?_eq_some_iff.1 hfi;simp
   obtain⟨n,hn⟩:=Option.isSome_iff_exists.1 (hf f j0)
   simp[hfi,hn]) (hr _ _ _) h
 refine .same g (v:=.agg c) ?_ (by have:=Rep.of_agg q0;simpa using this)
 have y0:(ps.map fun(i,x)=>(i,ρ' x)).toList=ps.toList.map fun p=>(p.1,ρ' p.2):=by simp
 simp only[Instr.build,Sem.run_bind,hv,Result.andThen,z04 hu,zbi fs w hf,y0,u0,Sem.run_pure]
theorem z9d {t elem:TypeId} {len sz:Nat} {z cs:List AV} {ps:Array (Nat×Operand)} {ρ:Operand→AV} {ρ':Operand→Value} (g:Good M σ ν w)
  (hu:P.underlying t=some (.array len elem)) (hsz:szOf P elem=some sz) (hz:zcOf P t=some z)
  (hρ:z27 M (RefOK σ ν) w ρ ρ') (h:fillA ρ z (ps.toList.map fun p=>(p.1*sz,sz,p.2))=some cs) :
  Yields P (Instr.build t (ps.map fun(i,x)=>(i,ρ' x))) M σ ν w (.agg cs) σ:=by
 obtain⟨v,hv,hr⟩:=z3Z hz;obtain⟨c,u0,q0⟩:=z99 hρ (fun i=>some (i*sz,sz)) ps.toList _ z cs v.cells (by simp) (hr _ _ _) h
 refine .same g (v:=.agg c) ?_ (by have:=Rep.of_agg q0;simpa using this)
 have y0:(ps.map fun(i,x)=>(i,ρ' x)).toList=ps.toList.map fun p=>(p.1,ρ' p.2):=by simp
 simp only[Instr.build,Sem.run_bind,hv,Result.andThen,z04 hu,z0p hsz,y0,u0,Sem.run_pure]
theorem z9e (z:List AV):∀(n i:Nat),i<n*z.length→(z0b z n)[i]?=z[i%z.length]?:=by
 intro n
 induction n with
 |zero=>intro i hi;simp at hi
 |succ n ih =>
  intro i hi;simp only[z0b];by_cases h:i<z.length
  · rw[List.getElem?_append_left h,Nat.mod_eq_of_lt h]
  · rw[Nat.add_mul,Nat.one_mul]at hi;rw[List.getElem?_append_right (by omega),ih _ (by omega),Nat.mod_eq_sub_mod (a:=i) (by omega)]
theorem z0T (z:List AV):∀n,(z0b z n).length=n*z.length:=by
 intro n
 induction n with
 |zero=>simp[z0b]
 |succ n ih=>simp[z0b,ih,Nat.add_mul];omega
theorem z3f {z:List AV} {vs:Array Value} (h:Reps M R w z vs.toList) (n:Nat):Reps M R w (z0b z n) ((Array.range (n*vs.size)).map (vs[·%vs.size]!)).toList:=by
 have hl:z.length=vs.size:=h.1.trans Array.length_toList;refine⟨by simp[z0T,hl],fun j hj hj'=>?_⟩
 rw[z0T]at hj;have e:=z9e z n j hj;have u0:0<z.length:=Nat.pos_of_ne_zero fun h0=>by rw[h0]at hj;simp at hj
 have hm:j%z.length<z.length:=Nat.mod_lt _ u0;obtain⟨v,hv,hr⟩:=h.get (j:=j%z.length) (x:=z[j%z.length]) (by simp[hm])
 have e2:(z0b z n)[j]'(by rw[z0T];exact hj)=z[j%z.length]:=by
  have:=List.getElem?_eq_getElem (l:=z0b z n) (i:=j) (by rw[z0T];exact hj)
  rw[e]at this;simpa[hm] using this.symm
 rw[e2];have y0:j%vs.size<vs.size:=by rw[←hl];exact hm
 have e3:(((Array.range (n*vs.size)).map (vs[·%vs.size]!)).toList)[j]=v:=by
  rw[hl]at hv;simp[y0]at hv;simp[y0,hv]
 rw[e3];exact hr
theorem z2I {sz:Nat} {ag:Bool} (hag:ag=false→sz=1):∀(n:Nat) (cs:List AV) (vs:List Value),Reps M R w cs vs→cs.length=n*sz→cs.all (fun c=>c.one)=true→Elems M R w sz (chunks sz ag n cs) vs:=by
 intro n
 induction n with
 |zero=>intro cs vs _ _ _ i j hi;simp[chunks]at hi
 |succ n ih =>
  intro cs vs h hl u0;rw[Nat.add_mul,Nat.one_mul]at hl
  have y0:=ih (cs.drop sz) (vs.drop sz) (h.drop sz) (by simp;omega) (by
   rw[List.all_eq_true]at u0⊢
   exact fun x hx=>u0 x (List.mem_of_mem_drop hx))
  intro i j hi hj
  cases i with
  |zero =>
   simp only[chunks,List.getElem_cons_zero]at hj⊢
   cases ag with
   |true =>
    simp only[if_true,AV.cells,List.length_take]at hj⊢;refine⟨by omega,fun v hv=>?_⟩
    simp only[List.getElem_take];have j0:j<cs.length:=by omega
    obtain⟨u,hu,hr⟩:=h.get (j:=j) (x:=cs[j]) (by simp[j0])
    rw[Nat.zero_mul,Nat.zero_add,hu]at hv;simp at hv;subst hv;exact hr
   |false =>
    have h1:=hag rfl;subst h1
    cases cs with
    |nil=>simp at hl
    |cons c cs =>
     have k0:c.one=true:=by rw[List.all_eq_true]at u0;exact u0 c (by simp)
     simp only[Bool.false_eq_true,if_false,List.headD_cons,AV.one_cells k0]at hj⊢;have q0:j=0:=by simpa using hj
     subst q0;refine⟨by omega,fun v hv=>?_⟩
     obtain⟨u,hu,hr⟩:=h.get (j:=0) (x:=c) rfl;simp only[Nat.zero_mul,Nat.add_zero]at hv;rw[hu]at hv;simp at hv;subst hv;simpa using hr
  |succ i =>
   simp only[chunks,List.getElem_cons_succ]at hj⊢;obtain⟨q1,q2⟩:=y0 i j (by simpa[chunks] using hi) hj
   refine⟨q1,fun v hv=>q2 v ?_⟩
   rw[List.getElem?_drop,show sz+(i*sz+j)=(i+1)*sz+j by rw[Nat.add_mul];omega]
   exact hv
theorem z1y (sz:Nat) (ag:Bool):∀(n:Nat) (cs:List AV),(chunks sz ag n cs).length=n:=by
 intro n;induction n with
 |zero=>intro cs;rfl
 |succ n ih=>intro cs;simp[chunks,ih]
theorem z84 (ρ:Operand→AV):∀(ps:List Part) (z z':List AV),fillA ρ z ps=some z'→z'.length=z.length:=by
 intro ps
 induction ps with
 |nil=>intro z z' h;simp[fillA]at h;rw[h]
 |cons p ps ih =>
  intro z z' h;obtain⟨off,size,x⟩:=p;simp only[fillA]at h;split at h
  · rename_i hc;rw[ih _ _ h,z0z _ _ _ (by omega)]
  · cases h
theorem zck (ρ:Operand→AV):∀(ps:List Part) (z z':List AV),z.all AV.one=true→fillA ρ z ps=some z'→z'.all AV.one=true:=by
 intro ps
 induction ps with
 |nil=>intro z z' hz h;simp[fillA]at h;rw[←h];exact hz
 |cons p ps ih =>
  intro z z' hz h;obtain⟨off,size,x⟩:=p;simp only[fillA]at h;split at h
  · rename_i hc;refine ih _ _ ?_ h;rw[List.all_eq_true]at hz⊢;have hx:=List.all_eq_true.1 (AV.okc_all hc.1);intro y hy;unfold z0s at hy;simp only[List.mem_append]at hy;rcases hy with(hy|hy)|hy
    · exact hz y (List.mem_of_mem_take hy)
    · exact hx y hy
    · exact hz y (List.mem_of_mem_drop hy)
  · cases h
end
section
variable {P:Program} {M:Nat→Prop} {w:World} {R:Ref→Value→Prop}
def eqFields (f:TypeId→Option (List Leaf)) (P:Program):List Field→Nat→Option (List Leaf)
 |[],_=>some []
 |fd::fs,off =>
  if fd.name ≠ "_" ∧ fd.offset = off then
   match f fd.type with
   |some ks=>if szOf P fd.type=some ks.length then(eqFields f P fs (off+ks.length)).map (ks++·) else none
   |none=>none
  else none
def repL (ks:List Leaf):Nat→List Leaf
 |0=>[]
 |n+1=>ks++repL ks n
def z2J (P:Program):Nat→TypeId→Option (List Leaf)
 |0,_=>none
 |d+1,t =>
  match P.underlying t with
  |some .bool=>some [.bool]
  |some (.int _)=>some [.int]
  |some .string=>some [.str]
  |some (.struct fs)=>if P.stoodInHeld t then none else eqFields (z2J P d) P fs.toList 0
  |some (.array len e)=>match z2J P d e with
   |some ks=>if szOf P e=some ks.length then some (repL ks len) else none
   |none=>none
  |_=>none
def z4e:Bool→List Value→Value
 |true,us=>.agg us.toArray
 |false,us=>us.headD undef
theorem z3T {ks ls:List Leaf}:∀{xs ys y0 u0:List AV} {b:Bool},xs.length=ks.length→ys.length=ks.length→eqCells (ks++ls) (xs++y0) (ys++u0)=some b →
  ∃b1 b2,eqCells ks xs ys=some b1∧eqCells ls y0 u0=some b2∧b=(b1&&b2):=by
 induction ks with
 |nil =>
  intro xs ys y0 u0 b h1 h2 h;have e1:xs=[]:=List.eq_nil_of_length_eq_zero h1;have e2:ys=[]:=List.eq_nil_of_length_eq_zero h2;subst e1;subst e2;exact⟨true,b,rfl,h,by simp⟩
 |cons k ks ih =>
  intro xs ys y0 u0 b h1 h2 h
  cases xs with
  |nil=>simp at h1
  |cons x xs =>
   cases ys with
   |nil=>simp at h2
   |cons y ys =>
    simp only[List.cons_append,eqCells]at h⊢
    cases hc:z2G k x y with
    |none=>simp[hc]at h
    |some a =>
     cases hr:eqCells (ks++ls) (xs++y0) (ys++u0) with
     |none=>simp[hc,hr]at h
     |some r =>
      obtain⟨b1,b2,q1,q2,rfl⟩:=ih (by simpa using h1) (by simpa using h2) hr
      simp[hc,hr]at h;exact⟨a&&b1,b2,by simp[q1],q2,by rw[←h,Bool.and_assoc]⟩
theorem z3M {t:TypeId} {n off:Nat} {ag:Bool} (hn:szOf P t=some n) (ha:agOf P t=some ag) (h1:ag=false→n=1) (us:List Value) (hl:off+n≤us.length) :
  (part t us.toArray off).run P w=.ok (z4e ag ((us.drop off).take n)) w:=by
 cases ag with
 |true =>
  simp[part,z4G ha,z0p hn,List.extract_eq_take_drop,z4e]
 |false =>
  have:=h1 rfl;subst this;have e:us[off]?=some us[off]:=by simp[show off<us.length by omega]
  simp only[part,z4G ha,Sem.run_bind,Result.andThen,Bool.false_eq_true,if_false,List.getElem?_toArray,e,Sem.run_pure,z4e];have e2:us.drop off=us[off]::us.drop (off+1):=List.drop_eq_getElem_cons (by omega)
  rw[e2];rfl
theorem zcl {d:Nat} {t:TypeId} {ks:List Leaf} (h:z2J P d t=some ks):∃ag,agOf P t=some ag∧(ag=false→ks.length=1):=by
 cases d with
 |zero=>simp[z2J]at h
 |succ d =>
  unfold z2J at h
  cases hu:P.underlying t with
  |none=>simp[hu]at h
  |some dsc =>
   refine⟨z2R dsc,by simp[agOf,hu],?_⟩
   cases dsc<;>simp[hu,z2R]at h⊢<;>(subst h;rfl)
theorem z9f (ks:List Leaf):∀n,(repL ks n).length=n*ks.length:=by
 intro n;induction n with
 |zero=>simp[repL]
 |succ n ih=>simp[repL,ih,Nat.add_mul];omega
theorem zbj {x y:Value} {b:Bool} (h:z2G .int (.pl x) (.pl y)=some b):∃k a a',x=.int k a∧y=.int k a'∧b=(a==a'):=by
 cases x<;>simp only[z2G]at h<;>try cases h
 cases y<;>simp only at h<;>try cases h
 split at h
 · rename_i hk;subst hk;exact⟨_,_,_,rfl,rfl,by simpa using h.symm⟩
 · cases h
theorem zbk {x y:Value} {b:Bool} (h:z2G .str (.pl x) (.pl y)=some b):∃a a',x=.string a∧y=.string a'∧b=(a.toList==a'.toList):=by
 cases x<;>simp only[z2G]at h<;>try cases h
 cases y<;>simp only at h<;>try cases h
 exact⟨_,_,rfl,rfl,rfl⟩
theorem z9g {x y:Value} {b:Bool} (h:z2G .bool (.pl x) (.pl y)=some b):∃a a',x=.bool a∧y=.bool a'∧b=(a==a'):=by
 cases x<;>simp only[z2G]at h<;>try cases h
 cases y<;>simp only at h<;>try cases h
 exact⟨_,_,rfl,rfl,rfl⟩
theorem zbl (m:Nat):∀(d:Nat) (t:TypeId) (ks:List Leaf) (ag:Bool),z2J P d t=some ks→agOf P t=some ag→∀(us vs:List Value) (b:Bool),us.length=ks.length→vs.length=ks.length →
  eqCells ks (us.map .pl) (vs.map .pl)=some b→∀w,(Op.equalIn (d+m) t (z4e ag us) (z4e ag vs)).run P w=.ok b w:=by
 intro d
 induction d with
 |zero=>intro t ks ag h;simp[z2J]at h
 |succ d ih =>
  intro t ks ag h ha us vs b hl j0 he w;rw[show d+1+m=(d+m)+1 by omega]
  unfold z2J at h
  cases hu:P.underlying t with
  |none=>simp[hu]at h
  |some dsc =>
   have q0:ag=z2R dsc:=by simp[agOf,hu]at ha;exact ha.symm
   have leaf:∀k,ks=[k]→ag=false→∃x y,us=[x]∧vs=[y]∧z2G k (.pl x) (.pl y)=some b:=by
    rintro k rfl rfl
    match us,vs,hl,j0 with
    |[x],[y],_,_ =>
     refine⟨x,y,rfl,rfl,?_⟩;simp only[List.map_cons,List.map_nil,eqCells]at he
     cases hc:z2G k (.pl x) (.pl y) with
     |none=>simp[hc]at he
     |some a=>simp[hc]at he;rw[he]
   cases dsc with
   |bool =>
    simp[hu]at h;subst h;obtain⟨x,y,rfl,rfl,hc⟩:=leaf .bool rfl q0;subst q0;obtain⟨a,a',rfl,rfl,rfl⟩:=z9g hc;simp[z4e,z2R,Op.equalIn,z04 hu]
   |int k =>
    simp[hu]at h;subst h;obtain⟨x,y,rfl,rfl,hc⟩:=leaf .int rfl q0;subst q0;obtain⟨k',a,a',rfl,rfl,rfl⟩:=zbj hc;simp[z4e,z2R,Op.equalIn,z04 hu]
   |string =>
    simp[hu]at h;subst h;obtain⟨x,y,rfl,rfl,hc⟩:=leaf .str rfl q0;subst q0;obtain⟨a,a',rfl,rfl,rfl⟩:=zbk hc;exact run_equalIn_string (P:=P) w (d+m) t a a' hu
   |struct fs =>
    simp only[hu]at h;subst q0;split at h
    · cases h
    · rename_i hs;have hf:P.fieldsOf t=fs:=by simp[Program.fieldsOf,hu]
      simp only[z4e,z2R];rw[run_equalIn_struct (P:=P) w (d+m) t _ _ (by rw[hf];exact hu) (by simpa using hs),hf]
      have key:∀(l:List Field) (off:Nat) (ls:List Leaf) (b:Bool),eqFields (z2J P d) P l off=some ls→off+ls.length=us.length→us.length=vs.length →
        eqCells ls ((us.drop off).map .pl) ((vs.drop off).map .pl)=some b→(Op.eqFields (d+m) us.toArray vs.toArray l).run P w=.ok b w:=by
       intro l
       induction l with
       |nil =>
        intro off ls b h1 h2 h3 h4;simp[eqFields]at h1;subst h1;simp at h2;have e1:us.drop off=[]:=by simp;omega
        have e2:vs.drop off=[]:=by simp;omega
        rw[e1,e2]at h4;simp[eqCells]at h4;subst h4;simp[Op.eqFields]
       |cons f l ihl =>
        intro off ls b h1 h2 h3 h4;simp only[eqFields]at h1;split at h1
        · rename_i hn;obtain⟨m0,r0⟩:=hn
          cases hk:z2J P d f.type with
          |none=>simp[hk]at h1
          |some ks' =>
           simp only[hk]at h1;split at h1
           · rename_i hsz
             cases hrest:eqFields (z2J P d) P l (off+ks'.length) with
             |none=>simp[hrest]at h1
             |some ls' =>
              simp[hrest]at h1;subst h1;simp only[List.length_append]at h2;obtain⟨k0,u0,y0⟩:=zcl hk;have du:us.drop off=(us.drop off).take ks'.length++us.drop (off+ks'.length):=by rw[←List.drop_drop,List.take_append_drop]
              have dv:vs.drop off=(vs.drop off).take ks'.length++vs.drop (off+ks'.length):=by rw[←List.drop_drop,List.take_append_drop]
              rw[du,dv,List.map_append,List.map_append]at h4;obtain⟨b1,b2,q1,q2,rfl⟩:=z3T (by simp;omega) (by simp;omega) h4
              have r1:=ih f.type ks' k0 hk u0 ((us.drop off).take ks'.length) ((vs.drop off).take ks'.length) b1 (by simp;omega) (by simp;omega) q1 w
              have r2:=ihl (off+ks'.length) ls' b2 hrest (by omega) h3 q2
              have p1:=z3M (w:=w) (off:=off) hsz u0 y0 us (by omega)
              have p2:=z3M (w:=w) (off:=off) hsz u0 y0 vs (by omega)
              rw[Op.eqFields,if_pos m0];simp only[Sem.run_bind,r0,p1,p2,r1,Result.andThen];cases b1
              · simp
              · simpa using r2
           · cases h1
        · cases h1
      exact key fs.toList 0 ks b h (by omega) (by omega) (by simpa using he)
   |array len e =>
    simp only[hu]at h;subst q0
    cases hk:z2J P d e with
    |none=>simp[hk]at h
    |some ks' =>
     simp only[hk]at h;split at h
     · rename_i hsz;simp at h;subst h
       obtain⟨i,hi⟩:∃i,P.info? e=some i:=by
        unfold szOf at hsz
        cases hi:P.info? e with
        |none=>simp[hi]at hsz
        |some i=>exact⟨i,rfl⟩
       have n0:P.cellsOf e=ks'.length:=by
        unfold szOf at hsz;unfold Program.cellsOf;rw[hsz];rfl
       simp only[z4e,z2R];rw[run_equalIn_array (P:=P) w (d+m) _ _ hu hi,n0];obtain⟨k0,u0,y0⟩:=zcl hk;rw[z9f]at hl j0
       have key:∀(n k:Nat) (b:Bool),k+n=len→eqCells (repL ks' n) ((us.drop (k*ks'.length)).map .pl) ((vs.drop (k*ks'.length)).map .pl)=some b →
         (Op.eqItems (d+m) e ks'.length us.toArray vs.toArray (List.range' k n)).run P w=.ok b w:=by
        intro n
        induction n with
        |zero =>
         intro k b h2 h4;have e1:us.drop (k*ks'.length)=[]:=by simp;rw[hl,←h2];simp
         have e2:vs.drop (k*ks'.length)=[]:=by simp;rw[j0,←h2];simp
         rw[e1,e2]at h4;simp[repL,eqCells]at h4;subst h4;simp[Op.eqItems]
        |succ n ihn =>
         intro k b h2 h4;have hle:(k+1)*ks'.length≤len*ks'.length:=Nat.mul_le_mul_right _ (by omega)
         rw[Nat.add_mul,Nat.one_mul]at hle;simp only[repL]at h4
         have du:us.drop (k*ks'.length)=(us.drop (k*ks'.length)).take ks'.length++us.drop ((k+1)*ks'.length):=by
          rw[Nat.add_mul,Nat.one_mul,←List.drop_drop,List.take_append_drop]
         have dv:vs.drop (k*ks'.length)=(vs.drop (k*ks'.length)).take ks'.length++vs.drop ((k+1)*ks'.length):=by
          rw[Nat.add_mul,Nat.one_mul,←List.drop_drop,List.take_append_drop]
         rw[du,dv,List.map_append,List.map_append]at h4;obtain⟨b1,b2,q1,q2,rfl⟩:=z3T (by simp;omega) (by simp;omega) h4
         have r1:=ih e ks' k0 hk u0 ((us.drop (k*ks'.length)).take ks'.length) ((vs.drop (k*ks'.length)).take ks'.length) b1 (by simp;omega) (by simp;omega) q1 w
         have r2:=ihn (k+1) b2 (by omega) q2
         have p1:=z3M (w:=w) (off:=k*ks'.length) hsz u0 y0 us (by omega)
         have p2:=z3M (w:=w) (off:=k*ks'.length) hsz u0 y0 vs (by omega)
         rw[List.range'_succ,Op.eqItems];simp only[Sem.run_bind,p1,p2,r1,Result.andThen];cases b1
         · simp
         · simpa using r2
       have:=key len 0 b (by omega) (by simpa using he)
       rw[List.range_eq_range'];exact this
     · cases h
   |_=>simp[hu]at h
theorem zbm {ks:List Leaf}:∀{xs ys:List AV} {b:Bool},eqCells ks xs ys=some b→∃us vs:List Value,xs=us.map .pl∧ys=vs.map .pl∧us.length=ks.length∧vs.length=ks.length:=by
 induction ks with
 |nil =>
  intro xs ys b h;cases xs<;>cases ys<;>simp[eqCells]at h
  exact⟨[],[],rfl,rfl,rfl,rfl⟩
 |cons k ks ih =>
  intro xs ys b h
  cases xs with
  |nil=>simp[eqCells]at h
  |cons x xs =>
   cases ys with
   |nil=>simp[eqCells]at h
   |cons y ys =>
    simp only[eqCells]at h
    cases hc:z2G k x y with
    |none=>simp[hc]at h
    |some a =>
     cases hr:eqCells ks xs ys with
     |none=>simp[hc,hr]at h
     |some r =>
      obtain⟨us,vs,rfl,rfl,h1,h2⟩:=ih hr
      have:∃u v,x=.pl u∧y=.pl v:=by
       unfold z2G at hc;split at hc<;>simp at hc<;>exact⟨_,_,rfl,rfl⟩
      obtain⟨u,v,rfl,rfl⟩:=this;exact⟨u::us,v::vs,rfl,rfl,by simp[h1],by simp[h2]⟩
theorem zcm {us vs:List Value} (h:Reps M R w (us.map .pl) vs):vs=us:=by
 induction us generalizing vs with
 |nil=>cases vs with
  |nil=>rfl
  |cons v vs=>simp[Reps]at h
 |cons u us ih =>
  cases vs with
  |nil=>simp[Reps]at h
  |cons v vs=>rw[h.head.pl_inv,ih h.tail]
theorem zcn {t:TypeId} {ks:List Leaf} {xs ys:List AV} {u v:Value} {b neg:Bool} (x y:Operand) (hk:z2J P 20 t=some ks) (hag:agOf P t=some true) (hgd:P.eqGuardType P.depth t=false)
  (h:eqCells ks xs ys=some b) (hx:Rep M R w (.agg xs) u) (hy:Rep M R w (.agg ys) v) :
  (do eqGuard (if neg then .neq else .eql) t x y u v;binOp (if neg then .neq else .eql) t u v:Sem Value).run P w=.ok (.bool (neg ^^ b)) w:=by
 obtain⟨us,rfl,q0⟩:=hx.agg_inv;obtain⟨vs,rfl,y0⟩:=hy.agg_inv;obtain⟨us',vs',rfl,rfl,h1,h2⟩:=zbm h;have e1:=zcm q0;have e2:=zcm y0;subst e1;subst e2;have he:=zbl (P:=P) 9980 20 t ks true hk hag us vs b h1 h2 h w
 have hg:∀op,(eqGuard op t x y (.agg us.toArray) (.agg vs.toArray)).run P w=.ok () w:=by
  intro op;unfold eqGuard;cases op<;>simp[hgd]
 rw[Sem.run_bind,hg];simp only[Result.andThen];have u0:(Op.equal t (.agg us.toArray) (.agg vs.toArray)).run P w=.ok b w:=he;cases neg
 · simp only[Bool.false_eq_true,if_false,binOp,Sem.run_bind,u0,Result.andThen,Sem.run_pure,Bool.false_xor]
 · simp only[if_true,binOp,Sem.run_bind,u0,Result.andThen,Sem.run_pure,Bool.true_xor]
end
def z03 {α:Type}:List (Option α)→Option (List α)
 |[]=>some []
 |none::_=>none
 |some x::xs=>(z03 xs).map (x::·)
theorem z40 {α:Type}:∀{l:List (Option α)} {r:List α},z03 l=some r→l=r.map some
 |[],r,h=>by simp[z03]at h;subst h;rfl
 |none::_,r,h=>by simp[z03]at h
 |some x::xs,r,h=>by
  simp only[z03]at h
  cases hx:z03 xs with
  |none=>simp[hx]at h
  |some r'=>simp[hx]at h;subst h;simp[z40 hx]
def elemOf? (P:Program) (t:TypeId):Option (TypeId×Nat) :=
 match P.underlying t with
 |some (.slice e)=>(szOf P e).bind fun n=>if 0<n then some (e,n) else none
 |_=>none
def appOK (P:Program) (e:TypeId) (n:Nat):Bool :=
 match P.info? e with
 |some i=>match i.zero with
  |some z=>decide (i.bytes≤32768)&&z.cells.size==n
  |none=>false
 |none=>false
def zco (P:Program) (t:TypeId):Bool :=
 match P.underlying t with
 |some (.slice _)|some .string=>true
 |_=>false
def opAO (P:Program) (own:Bool):Op→Option AO
 |.move x|.assign x=>some (.mov x)
 |.pick c a b=>some (.pick c a b)
 |.alloc t=>(zcOf P t).map .allocm
 |.box _ x=>some (if own then .boxm x else .boxr x)
 |.build t ps=>match P.underlying t with
  |some (.struct fs)=>if fs.toList.all (fun f=>(szOf P f.type).isSome) then
   (zcOf P t).bind fun z=>(z03 (ps.toList.map (partOf P fs))).map fun qs=>.build z qs else none
  |some (.array _ e)=>(szOf P e).bind fun sz=>(zcOf P t).map fun z=>.build z (ps.toList.map fun p=>(p.1*sz,sz,p.2))
  |_=>none
 |.buildSlice t len ps=>(elemOf? P t).bind fun en=>(agOf P en.1).bind fun ag=>(zcOf P en.1).bind fun z =>
  if(ag||en.2==1)&&z.all AV.one&&z.length==en.2&&decide (len*en.2≤16777216) then
   some (.bsl own en.2 ag len z (ps.toList.map fun p=>(p.1*en.2,en.2,p.2))) else none
 |.load t x=>(szOf P t).bind fun n=>(agOf P t).map fun ag=>.load n ag x
 |.store t a x=>(szOf P t).map fun n=>.store n a x
 |.nilCheck x=>some (.nilc x)
 |.binOp op t x y _=>match P.underlying t with
  |some .bool=>some (.bin true op x y)
  |some (.int _)|some .string|some (.float _)=>some (.bin false op x y)
  |some (.struct _)|some (.array _ _)=>(z2J P 20 t).bind fun ks=>if P.eqGuardType P.depth t then none else
   match op with
   |.eql=>some (.eqa false ks x y)
   |.neq=>some (.eqa true ks x y)
   |_=>none
  |_=>none
 |.unOp op _ x=>some (.un op x)
 |.convert s d x=>match P.underlying s,P.underlying d with
  |some (.int _),some (.int k)=>some (.convi k x)
  |_,_=>none
 |.makeFunc (.func f) fs cs=>some (.mkfn f fs.toList cs.toList)
 |.slice t x lo hi none=>match P.underlying t with
  |some .string=>some (.slcs x lo hi)
  |some (.slice _)=>(elemOf? P t).map fun en=>.slcv en.2 x lo hi
  |_=>none
 |.fieldAddr s x f=>match P.underlying s with
  |some (.struct fs)=>(fs[f]?).bind fun fd=>(szOf P fd.type).bind fun n=>if n=0 then none else some (.fadr fd.offset x)
  |_=>none
 |.field s x f=>match P.underlying s with
  |some (.struct fs)=>(fs[f]?).bind fun fd=>(szOf P fd.type).bind fun n=>(agOf P fd.type).map fun ag=>.field fd.offset n ag x
  |_=>none
 |.indexAddr t x i=>match P.underlying t with
  |some (.slice _)=>(elemOf? P t).map fun en=>.iadrs en.2 x i
  |some (.array len e)=>(szOf P e).map fun n=>.iadra n len x i
  |_=>none
 |.index t x i=>match P.underlying t with
  |some .string=>some (.idxs x i)
  |some (.array len e)=>(szOf P e).bind fun n=>(agOf P e).map fun ag=>.idxa n len ag x i
  |_=>none
 |.extract x i=>some (.extr i x)
 |.call { callee:=.builtin .len,args:=⟨[x]⟩,argTypes:=⟨[t]⟩ }=>match P.underlying t with
  |some .string=>some (.lens x)
  |some (.slice _)=>some (.lenv x)
  |some (.array n _)=>some (.con (.int .i64 n))
  |_=>none
 |.call { callee:=.builtin .append,args:=⟨[x,y]⟩,argTypes:=⟨[t,t2]⟩ }=>(elemOf? P t).bind fun en=>if appOK P en.1 en.2&&zco P t2 then some (.app en.2 x y) else none
 |_=>none
section
variable {P:Program} {M M':Nat→Prop} {σ σ':St} {ν ν':Nat→Value} {w w':World} {R:Ref→Value→Prop}
def Done (P:Program) (s:Sem Next) (M:Nat→Prop) (σ:St) (ν:Nat→Value) (w:World) (r:AV) (σ':St):Prop :=
 ∃n v w' M' ν',s.run P w=.ok n w'∧(n=.value v∨n=.skip∧v=undef)∧Good M' σ' ν' w'∧Later M σ ν w M' σ' ν' w'∧Rep M' (RefOK σ' ν') w' r v
theorem Yields.done {s:Sem Value} {r:AV} (h:Yields P s M σ ν w r σ'):Done P (do pure (.value (←s))) M σ ν w r σ':=by
 obtain⟨v,w',M',ν',h1,h2,h3,h4⟩:=h;exact⟨.value v,v,w',M',ν',by simp[h1],.inl rfl,h2,h3,h4⟩
theorem z1a {t e:TypeId} {n:Nat} (h:elemOf? P t=some (e,n)):P.underlying t=some (.slice e)∧szOf P e=some n∧0<n:=by
 unfold elemOf? at h;split at h
 · rename_i e' hu
   cases hs:szOf P e' with
   |none=>simp[hs]at h
   |some m =>
    simp[hs]at h;obtain⟨h0,rfl,rfl⟩:=h;exact⟨hu,hs,h0⟩
 · cases h
theorem zbn {t e:TypeId} {n:Nat} (h:elemOf? P t=some (e,n)) (ha:appOK P e n=true):ElemOK P t e n:=by
 obtain⟨h1,h2,h3⟩:=z1a h;refine⟨h1,h2,?_,h3⟩;unfold appOK at ha;split at ha
 · rename_i i hi;split at ha
   · rename_i z hz;simp at ha;exact⟨i,z,hi,hz,ha.1,ha.2⟩
   · cases ha
 · cases ha
theorem zbo {t:TypeId} (h:zco P t=true):NoInt P t:=by
 unfold zco at h;split at h
 · rename_i e he;exact .inl ⟨e,he⟩
 · rename_i he;exact .inr he
 · cases h
theorem z02 {α β:Type} {o:Option α} {f:α→β} {b:β} (h:o.map f=some b):∃a,o=some a∧f a=b:=by
 cases o<;>simp at h;exact⟨_,rfl,h⟩
theorem z06 {α β:Type} {o:Option α} {f:α→Option β} {b:β} (h:o.bind f=some b):∃a,o=some a∧f a=some b:=by
 cases o<;>simp at h;exact⟨_,rfl,h⟩
theorem zbp {t e:TypeId} {sz len:Nat} {ag own:Bool} {z:List AV} {ps:Array (Nat×Operand)} {ρ:Operand→AV} {ρ':Operand→Value} {cs:List AV} (g:Good M σ ν w)
  (he:elemOf? P t=some (e,sz)) (hz:zcOf P e=some z) (hag:ag=false→sz=1) (hone:z.all AV.one=true) (hzl:z.length=sz) (hlen:len*sz≤16777216)
  (hρ:z27 M (RefOK σ ν) w ρ ρ') (h:fillA ρ (z0b z len) (ps.toList.map fun p=>(p.1*sz,sz,p.2))=some cs) :
  Yields P (Instr.buildSlice t len (ps.map fun(i,x)=>(i,ρ' x))) M σ ν w (if own then .osl σ.length len else .sl sz (chunks sz ag len cs))
   (if own then σ++[.row sz (chunks sz ag len cs)] else σ):=by
 obtain⟨hu,hsz,u1⟩:=z1a he;obtain⟨v,hv,hr⟩:=z3Z hz;have e0:v.cells.size=sz:=((hr M (RefOK σ ν) w).1.trans Array.length_toList).symm.trans hzl;obtain⟨c,q0,r0⟩:=z99 hρ (fun i=>some (i*sz,sz)) ps.toList _ _ cs _ (by simp) (z3f (hr M (RefOK σ ν) w) len) h
 have d0:(ps.map fun(i,x)=>(i,ρ' x)).toList=ps.toList.map fun p=>(p.1,ρ' p.2):=by simp
 have f0:cs.length=len*sz:=by rw[z84 ρ _ _ _ h,z0T,hzl]
 have m0:∀n,(z0b z n).all AV.one=true:=by
  intro n
  induction n with
  |zero=>rfl
  |succ n ih=>simp only[z0b,List.all_append,hone,ih,Bool.and_self]
 have j0:=z2I hag len cs _ r0 f0 (zck ρ _ _ _ (m0 len) h);have t0:sz≠0:=by omega
 have n0:(Instr.buildSlice t len (ps.map fun(i,x)=>(i,ρ' x))).run P w=.ok (.slice (some ⟨w.heap.size,0,none⟩) len len) (w.alloc (.cells c e)):=by
  unfold Instr.buildSlice;simp only[Sem.run_bind,z04 hu,Result.andThen,z0p hsz,d0];have x1:¬len*sz>2^24:=by omega
  rw[if_neg x1];by_cases h0:len*sz=0
  · rw[if_pos h0]
    have o0:len=0:=by
     rcases Nat.mul_eq_zero.1 h0 with h|h
     · exact h
     · exact absurd h t0
    subst o0;have y0:=q0
    have hr0:∀(f:Nat→Value),(Array.range 0).map f=#[]:=fun f=>by
     apply Array.ext';simp
    simp only[Nat.zero_mul,hr0]at y0⊢;simp only[Sem.run_bind,Sem.run_pure,Result.andThen,y0,newRow,run_newObj,World.alloc_eq]
  · rw[if_neg h0];simp only[Sem.run_bind,hv,Sem.run_pure,Result.andThen];rw[e0]at q0;rw[show(fun(x:Nat)=>v.cells[x%v.cells.size]!)=(fun x=>v.cells[x%sz]!) by rw[e0]]
    rw[q0];simp only[newRow,Sem.run_bind,run_newObj,Result.andThen,Sem.run_pure,World.alloc_eq]
 have k0:=z1y sz ag len cs;have y1:c.size=len*sz:=by rw[←f0,r0.1,Array.length_toList]
 cases own with
 |true =>
  obtain⟨M',ν',g',l',r'⟩:=g.newRow sz (chunks sz ag len cs) e c len (by omega) (by omega) j0
  rw[k0]at r';exact⟨_,_,M',ν',n0,g',l',r'⟩
 |false =>
  obtain⟨g',l',hm,hc⟩:=z6C g e c;refine⟨_,_,M,ν,n0,g',l',?_⟩;have u0:=Elems.mono (l'.sealed g) l'.evo j0
  have:=Rep.sl (M:=M) (R:=RefOK σ ν) (w:=w.alloc (.cells c e)) sz (chunks sz ag len cs) w.heap.size 0 len (fun i j=>c[i*sz+j]?.getD undef) (by omega)
   (fun i j hi hj=>by
    obtain⟨q1,_⟩:=u0 i j hi hj;have l0:=z2h (i:=i) (k:=len) (by rw[←k0];exact hi) q1
    refine⟨q1,hm,?_⟩
    rw[Nat.zero_add,hc];simp[show i*sz+j<c.size by omega])
   (fun i j hi hj=>by
    obtain⟨q1,q2⟩:=u0 i j hi hj;have l0:=z2h (i:=i) (k:=len) (by rw[←k0];exact hi) q1
    exact q2 _ (by simp[show i*sz+j<c.size by omega]))
  rw[k0]at this;exact this
end
section
variable {P:Program} {M M':Nat→Prop} {σ σ':St} {ν ν':Nat→Value} {w w':World} {R:Ref→Value→Prop}
theorem z1I {v:Value} {k:IntKind} {n:Int} {y:Nat} {code:BoundsCode} (h:v=.int k n) (h0:0≤n) (h1:n≤y):(Instr.sliceBound v y code).run P w=.ok n.toNat w:=by
 subst h;simp[Instr.sliceBound,asIntOf,h0,h1]
theorem z1b {isS:Bool} {len cap:Nat} {lo hi:Option Value} {l h:Int} (hl:(lo=none∧l=0)∨∃k,lo=some (.int k l)) (hh:(hi=none∧h=len)∨∃k,hi=some (.int k h))
  (h0:0≤l) (h1:l≤h) (h2:h≤len) (h3:len≤cap):(Instr.sliceBounds isS len cap lo hi none).run P w=.ok (l.toNat,h.toNat,cap) w:=by
 have e:(h.toNat:Int)=h:=by omega
 rcases hl with⟨rfl,rfl⟩|⟨k,rfl⟩<;>rcases hh with⟨rfl,rfl⟩|⟨k',rfl⟩
 · simp[Instr.sliceBounds]
 · simp[Instr.sliceBounds,z1I rfl (by omega:0≤h) (by omega:h≤cap)]
 · simp[Instr.sliceBounds,z1I rfl h0 h1]
 · simp[Instr.sliceBounds,z1I rfl (by omega:0≤h) (by omega:h≤cap),z1I rfl h0 (by omega:l≤(h.toNat:Nat))]
theorem z1J {ρ:Operand→AV} {ρ':Operand→Value} (hρ:z27 M R w ρ ρ') {lo:Option Operand} {d l:Int} (h:(lo.map fun o=>intA (ρ o)).getD (some d)=some l) :
  ((lo.map ρ'=none∧l=d)∨∃k,lo.map ρ'=some (.int k l)):=by
 cases lo with
 |none=>simp at h;exact .inl ⟨rfl,h.symm⟩
 |some o =>
  simp at h;obtain⟨k,hk⟩:=z1Q h (hρ o);exact .inr ⟨k,by simp[hk]⟩
theorem zgX {own:Bool} {o:Oper} {ao:AO} {ρ:Operand→AV} {ρ':Operand→Value} {r:AV} (h:opAO P own o.op=some ao) (hv:aop ρ σ ao=some (r,σ'))
  (g:Good M σ ν w) (hρ:z27 M (RefOK σ ν) w ρ ρ'):Done P (execOp ρ' o) M σ ν w r σ':=by
 have m0:∀{x:Operand} ,execOp ρ' o=pure (.value (ρ' x))→r=ρ x→σ'=σ→Done P (execOp ρ' o) M σ ν w r σ':=by
  intro x e e1 e2;subst e1;subst e2;rw[e];exact⟨_,ρ' x,w,M,ν,rfl,.inl rfl,g,.refl,hρ x⟩
 have u0:∀{s:Sem Value},(execOp ρ' o).run P w=(do pure (.value (←s)):Sem Next).run P w→Yields P s M σ ν w r σ'→Done P (execOp ρ' o) M σ ν w r σ':=by
  intro s e y;obtain⟨n,v,w',M',ν',q1,q2⟩:=y.done;exact⟨n,v,w',M',ν',by rw[e];exact q1,q2⟩
 obtain⟨dst,op,type,pos,after,guard⟩:=o;simp only at h
 cases op with
 |move x=>simp[opAO]at h;subst h;simp[aop]at hv;exact m0 rfl hv.1.symm hv.2.symm
 |assign x=>simp[opAO]at h;subst h;simp[aop]at hv;exact m0 rfl hv.1.symm hv.2.symm
 |pick c a b =>
  simp[opAO]at h;subst h;simp only[aop]at hv;split at hv
  · rename_i t ht;simp at hv;obtain⟨rfl,rfl⟩:=hv;have e:=z81 ht (hρ c);refine⟨.value (if t then ρ' a else ρ' b),_,w,M,ν,?_,.inl rfl,g,.refl,?_⟩
    · simp[execOp,e,asBool]
    · cases t
      · exact hρ b
      · exact hρ a
  · cases hv
 |alloc t =>
  obtain⟨z,hz,rfl⟩:=z02 h;simp[aop]at hv;obtain⟨rfl,rfl⟩:=hv;refine u0 (s:=Instr.alloc t true (.tuple #[])) rfl ?_;obtain⟨v,j2,hr⟩:=z3Z hz;obtain⟨M',ν',g',l',r'⟩:=g.newBox z t v.cells (hr _ _ _);refine⟨_,_,M',ν',?_,g',l',r'⟩;simp[Instr.alloc,j2,newVar,newRow]
 |box t x =>
  simp[opAO]at h;refine u0 (s:=Instr.box t (ρ' x)) rfl ?_
  cases own with
  |false =>
   simp at h;subst h;simp only[aop]at hv;split at hv
   · rename_i ho;simp at hv;obtain⟨rfl,rfl⟩:=hv;exact z98 g (hρ x) ho
   · cases hv
  |true =>
   simp at h;subst h;simp only[aop]at hv;split at hv
   · rename_i ho;simp at hv;obtain⟨rfl,rfl⟩:=hv;obtain⟨M',ν',g',l',r'⟩:=g.newBox (ρ x).cells t (ρ' x).cells ((hρ x).okc_cells ho);exact⟨_,_,M',ν',zch,g',l',r'⟩
   · cases hv
 |build t ps =>
  simp only[opAO]at h;split at h
  · rename_i fs hu;split at h
    · rename_i hf;obtain⟨z,hz,h⟩:=z06 h;obtain⟨qs,hq,rfl⟩:=z02 h;simp only[aop]at hv;obtain⟨cs,d0,hv⟩:=z02 hv;simp at hv;obtain⟨rfl,rfl⟩:=hv;refine u0 (s:=Instr.build t (ps.map fun(i,x)=>(i,ρ' x))) rfl ?_
      exact z83 g hu (fun f hm=>List.all_eq_true.1 hf f hm) hz (z40 hq) hρ d0
    · cases h
  · rename_i len e hu;obtain⟨sz,hsz,h⟩:=z06 h;obtain⟨z,hz,rfl⟩:=z02 h;simp only[aop]at hv;obtain⟨cs,d0,hv⟩:=z02 hv;simp at hv;obtain⟨rfl,rfl⟩:=hv;refine u0 (s:=Instr.build t (ps.map fun(i,x)=>(i,ρ' x))) rfl ?_
    exact z9d g hu hsz hz hρ d0
  · cases h
 |buildSlice t len ps =>
  simp only[opAO]at h;obtain⟨⟨e,sz⟩,he,h⟩:=z06 h;obtain⟨ag,j0,h⟩:=z06 h;obtain⟨z,hz,h⟩:=z06 h;split at h
  · rename_i hc;simp at h;subst h;simp only[Bool.and_eq_true,Bool.or_eq_true,beq_iff_eq,decide_eq_true_eq]at hc;obtain⟨⟨⟨n2,y1⟩,o1⟩,i1⟩:=hc;simp only[aop]at hv;obtain⟨cs,d0,hv⟩:=z02 hv;refine u0 (s:=Instr.buildSlice t len (ps.map fun(i,x)=>(i,ρ' x))) rfl ?_
    have:=zbp (own:=own) g he hz (ag:=ag) (fun h0=>by rcases n2 with h|h;(· rw[h0]at h;cases h);(· exact h)) y1 o1 i1 hρ d0
    cases own<;>simp at hv this<;>(obtain⟨rfl,rfl⟩:=hv;exact this)
  · cases h
 |load t x =>
  simp only[opAO]at h;obtain⟨n,hn,h⟩:=z06 h;obtain⟨ag,j0,rfl⟩:=z02 h;refine u0 (s:=Instr.loadAt t (ρ' x)) rfl ?_;simp only[aop]at hv;obtain⟨q,hq,hv⟩:=z02 hv;simp at hv;obtain⟨rfl,rfl⟩:=hv;exact(z82 g hn j0 (hρ x) hq).yields g
 |store t a x =>
  simp only[opAO]at h;obtain⟨n,hn,rfl⟩:=z02 h;simp only[aop]at hv
  have fin:∀{σ2:St},(∃w',(Instr.storeAt t (ρ' a) (ρ' x)).run P w=.ok () w'∧Good M σ2 ν w'∧Later M σ ν w M σ2 ν w')→σ'=σ2→r=.any→Done P (execOp ρ' { dst,op:=.store t a x,type,pos,after,guard }) M σ ν w r σ':=by
   rintro σ2 ⟨w',h1,h2,h3⟩ rfl rfl;exact⟨.skip,undef,w',M,ν,by simp[execOp,h1],.inr ⟨rfl,rfl⟩,h2,h3,.any _⟩
  split at hv
  · rename_i hc;obtain⟨ho,hl⟩:=hc;split at hv
    · rename_i l off ha;split at hv
      · rename_i cs hs;split at hv
        · rename_i hb;simp at hv;obtain⟨rfl,rfl⟩:=hv;exact fin (zeA g hn hs (by rw[←ha];exact hρ a) (hρ x) ho hl hb) rfl rfl
        · cases hv
      · cases hv
    · rename_i l m i off ha;split at hv
      · rename_i sz xs hs;split at hv
        · rename_i hm;split at hv
          · rename_i e hi;obtain⟨e',he,hv⟩:=z02 hv;simp at hv;obtain⟨rfl,rfl⟩:=hv;exact fin (zcj g hn hs hm hi he (by rw[←ha];exact hρ a) (hρ x) ho hl) rfl rfl
          · cases hv
        · cases hv
      · cases hv
    · cases hv
  · cases hv
 |nilCheck x =>
  simp[opAO]at h;subst h;simp only[aop]at hv
  have fin:∀(a:Addr),ρ' x=.pointer (some a)→r=ρ x→σ'=σ→Done P (execOp ρ' { dst,op:=.nilCheck x,type,pos,after,guard }) M σ ν w r σ':=by
   rintro a ha rfl rfl;exact⟨.value (ρ' x),ρ' x,w,M,ν,by simp[execOp,ha],.inl rfl,g,.refl,hρ x⟩
  have hx:=hρ x;split at hv
  · rename_i cs e;rw[e]at hx;obtain⟨b,o,f,e2,_⟩:=hx.rp_inv;simp at hv;obtain⟨rfl,rfl⟩:=hv;exact fin _ e2 e.symm rfl
  · rename_i l off e;rw[e]at hx;obtain⟨b,o,e2,_⟩:=hx.ptr_inv;simp at hv;obtain⟨rfl,rfl⟩:=hv;exact fin _ e2 e.symm rfl
  · rename_i l m i off e;rw[e]at hx;obtain⟨b,o,e2,_⟩:=hx.ep_inv;simp at hv;obtain⟨rfl,rfl⟩:=hv;exact fin _ e2 e.symm rfl
  · cases hv
 |binOp op t x y yt =>
  refine u0 (s:=do eqGuard op t x y (ρ' x) (ρ' y);binOp op t (ρ' x) (ρ' y)) rfl ?_
  have plain:∀bl,ao=.bin bl op x y→(bl=true→P.underlying t=some .bool)→Yields P (do eqGuard op t x y (ρ' x) (ρ' y);binOp op t (ρ' x) (ρ' y)) M σ ν w r σ':=by
   rintro bl rfl u2;simp only[aop]at hv;split at hv
   · rename_i u v t0 j1;split at hv
     · rename_i hb;obtain⟨q,hq,hv⟩:=z02 hv;simp at hv;obtain⟨rfl,rfl⟩:=hv;have e1:=hρ x;have e2:=hρ y;rw[t0]at e1;rw[j1]at e2;have e1:=e1.pl_inv;have e2:=e2.pl_inv;refine .same g (v:=q) ?_ (.pl _);rw[e1,e2];exact zcg x y hq (fun a b ha _=>u2 (by rw[hb,ha];rfl))
     · cases hv
   · cases hv
  simp only[opAO]at h;split at h
  · rename_i hu;simp at h;exact plain true h.symm (fun _=>hu)
  · simp at h;exact plain false h.symm (fun h=>by cases h)
  · simp at h;exact plain false h.symm (fun h=>by cases h)
  · simp at h;exact plain false h.symm (fun h=>by cases h)
  all_goals first
   |(rename_i hu
     obtain⟨ks,hk,h⟩:=z06 h;split at h
     · cases h
     · rename_i r1;have j0:agOf P t=some true:=by simp[agOf,hu,z2R]
       cases op<;>simp at h<;>subst h <;>
        (simp only[aop]at hv
         split at hv
         · rename_i xs ys t0 j1;obtain⟨b,hb,hv⟩:=z02 hv;simp only[Prod.mk.injEq]at hv;obtain⟨rfl,rfl⟩:=hv;have e1:=hρ x;have e2:=hρ y;rw[t0]at e1;rw[j1]at e2
           first
            |exact .same g (zcn (neg:=false) x y hk j0 (by simpa using r1) hb e1 e2) (.pl _)
            |exact .same g (zcn (neg:=true) x y hk j0 (by simpa using r1) hb e1 e2) (.pl _)
         · cases hv))
   |cases h
 |unOp op t x =>
  simp[opAO]at h;subst h;simp only[aop]at hv;split at hv
  · rename_i u t0;obtain⟨q,hq,hv⟩:=z02 hv;simp at hv;obtain⟨rfl,rfl⟩:=hv;have e1:=hρ x;rw[t0]at e1;have e1:=e1.pl_inv;refine u0 (s:=Op.unary op (ρ' x)) rfl (.same g (v:=q) ?_ (.pl _));rw[e1];exact zez hq
  · cases hv
 |convert s d x =>
  simp only[opAO]at h;split at h
  · rename_i ks k hs hd;simp at h;subst h;simp only[aop]at hv;split at hv
    · rename_i n hn;simp at hv;obtain⟨rfl,rfl⟩:=hv;obtain⟨k0,e⟩:=z1Q hn (hρ x);refine u0 (s:=convert s d (ρ' x)) rfl (.same g (v:=.int k (k.wrap n)) ?_ (.pl _));simp[convert,z04 hs,z04 hd,e,Conv.intToInt]
    · cases hv
  · cases h
 |makeFunc f fs cs =>
  cases f<;>simp[opAO]at h
  subst h;simp only[aop]at hv;simp at hv;obtain⟨rfl,rfl⟩:=hv;rename_i f;refine u0 (s:=Instr.makeFunc (.func f) (fs.map ρ') (cs.map ρ')) rfl (.same g (v:=.func (.func f) (fs.map ρ') (cs.map ρ')) rfl ?_);have:=Rep.fn (M:=M) (R:=RefOK σ ν) (w:=w) f (fs.toList.map ρ) (cs.toList.map ρ) (fs.toList.map ρ') (cs.toList.map ρ') (by simp) (by simp) (fun j _ _=>by simpa using hρ _) (fun j _ _=>by simpa using hρ _)
  rw[show(fs.toList.map ρ').toArray=fs.map ρ' by apply Array.ext';simp,show(cs.toList.map ρ').toArray=cs.map ρ' by apply Array.ext';simp]at this
  exact this
 |fieldAddr s x f =>
  simp only[opAO]at h;split at h
  · rename_i fs hu;obtain⟨fd,hf,h⟩:=z06 h;obtain⟨n,hn,h⟩:=z06 h;split at h
    · cases h
    · rename_i h0;simp at h;subst h;refine u0 (s:=Instr.fieldAt s (ρ' x) f) rfl ?_;simp only[aop]at hv;have hx:=hρ x;split at hv
      · rename_i cs e;simp at hv;obtain⟨rfl,rfl⟩:=hv;rw[e]at hx;obtain⟨b,o,_,e2,_⟩:=hx.rp_inv;rw[e2]at hx⊢;exact .same g (z3Y hu hf hn h0) (hx.rp_drop _)
      · rename_i l off e;simp at hv;obtain⟨rfl,rfl⟩:=hv;rw[e]at hx;obtain⟨b,o,e2,hR⟩:=hx.ptr_inv;rw[e2];refine .same g (z3Y hu hf hn h0) ?_;rw[Nat.add_assoc];exact .ptr _ _ _ _ hR
      · rename_i l m i off e;simp at hv;obtain⟨rfl,rfl⟩:=hv;rw[e]at hx;obtain⟨b,o,e2,hR⟩:=hx.ep_inv;rw[e2];refine .same g (z3Y hu hf hn h0) ?_;rw[Nat.add_assoc];exact .ep _ _ _ _ _ _ hR
      · cases hv
  · cases h
 |field s x f =>
  simp only[opAO]at h;split at h
  · rename_i fs hu;obtain⟨fd,hf,h⟩:=z06 h;obtain⟨n,hn,h⟩:=z06 h;obtain⟨ag,j0,rfl⟩:=z02 h;refine u0 (s:=Instr.field s (ρ' x) f) rfl ?_;simp only[aop]at hv;have hx:=hρ x;split at hv
    · rename_i cs e;split at hv
      · rename_i hl;obtain⟨q,hq,hv⟩:=z02 hv;simp at hv;obtain⟨rfl,rfl⟩:=hv;rw[e]at hx;obtain⟨vs,e2,hr⟩:=hx.agg_inv;obtain⟨v,w',M',ν',h1,h2,h3,h4⟩:=za8 (off:=fd.offset) g hn j0 hr hq;refine⟨v,w',M',ν',?_,h2,h3,h4⟩;rw[e2];simp[Instr.field,z04 hu,hf,asAgg,h1]
      · cases hv
    · cases hv
  · cases h
 |indexAddr t x i =>
  simp only[opAO]at h;refine u0 (s:=Instr.indexAt t (ρ' x) (ρ' i)) rfl ?_;split at h
  · rename_i e0 l1;obtain⟨⟨e,n⟩,he,rfl⟩:=z02 h;obtain⟨hu,hn,x1⟩:=z1a he;simp only[aop]at hv;have hx:=hρ x;split at hv
    · rename_i o0 xs k hex q0;obtain⟨ik,ei⟩:=z1Q q0 (hρ i);rw[hex]at hx;split at hv
      · rename_i hc;obtain⟨rfl,h0⟩:=hc;split at hv
        · rename_i el x2;simp at hv;obtain⟨rfl,rfl⟩:=hv;obtain⟨r0,rfl⟩:=List.getElem?_eq_some_iff.1 x2;obtain⟨a,cap,e2,_,hz|⟨b,o,f,rfl,hc,hr⟩⟩:=hx.sl_inv
          · subst hz;simp at r0
          · rw[e2,ei];refine .same g (z5x hu hn h0 (by omega)) (.rp _ _ _ (fun j=>f k.toNat j) (fun j hj=>?_) (fun j hj=>hr k.toNat j r0 hj))
            obtain⟨_,q2,q3⟩:=hc k.toNat j r0 hj;exact⟨q2,by rw[Nat.add_assoc];exact q3⟩
        · cases hv
      · cases hv
    · rename_i l m k hex q0;obtain⟨ik,ei⟩:=z1Q q0 (hρ i);rw[hex]at hx;split at hv
      · rename_i o0 xs hs;split at hv
        · rename_i hc;obtain⟨rfl,rfl,h0,h1⟩:=hc;simp at hv;obtain⟨rfl,rfl⟩:=hv;obtain⟨a,len,cap,e2,hR⟩:=hx.osl_inv;have e3:=hR.s_row hs rfl;rcases(g.ob l _ hs).row_inv with⟨e4,rfl⟩|⟨b,o,cap2,c,el,fr,e4,hM,hh,hlen,hsz,hf,hrow⟩
          · simp at h1;omega
          · rw[e4]at e3;simp at e3;obtain⟨rfl,rfl,rfl⟩:=e3;rw[e2,ei];refine .same g (z5x hu hn h0 h1) ?_
            have:=Rep.ep (M:=M) (R:=RefOK σ ν) (w:=w) l xs.length k.toNat 0 b (o+k.toNat*n) (by
             simp only[RefOK,hs]
             exact⟨Nat.le_refl _,fun _=>⟨b,o,_,_,e4,rfl⟩⟩)
            simpa using this
        · cases hv
      · cases hv
    · cases hv
  · rename_i len e hu;obtain⟨n,hn,rfl⟩:=z02 h;simp only[aop]at hv;have hx:=hρ x;split at hv
    · rename_i k q0;obtain⟨ik,ei⟩:=z1Q q0 (hρ i);split at hv
      · rename_i hc;obtain⟨h0,h1⟩:=hc;split at hv
        · rename_i cs hex;simp at hv;obtain⟨rfl,rfl⟩:=hv;rw[hex]at hx;obtain⟨b,o,_,e2,_⟩:=hx.rp_inv;rw[e2]at hx⊢;rw[ei];exact .same g (z2H hu hn h0 h1) (hx.rp_drop _)
        · rename_i l off hex;simp at hv;obtain⟨rfl,rfl⟩:=hv;rw[hex]at hx;obtain⟨b,o,e2,hR⟩:=hx.ptr_inv;rw[e2,ei];refine .same g (z2H hu hn h0 h1) ?_;rw[Nat.add_assoc];exact .ptr _ _ _ _ hR
        · rename_i l m j off hex;simp at hv;obtain⟨rfl,rfl⟩:=hv;rw[hex]at hx;obtain⟨b,o,e2,hR⟩:=hx.ep_inv;rw[e2,ei];refine .same g (z2H hu hn h0 h1) ?_;rw[Nat.add_assoc];exact .ep _ _ _ _ _ _ hR
        · cases hv
      · cases hv
    · cases hv
  · cases h
 |index t x i =>
  simp only[opAO]at h;refine u0 (s:=Instr.index t (ρ' x) (ρ' i)) rfl ?_;split at h
  · rename_i hu;simp at h;subst h;simp only[aop]at hv;have hx:=hρ x;split at hv
    · rename_i s k hex q0;obtain⟨ik,ei⟩:=z1Q q0 (hρ i);rw[hex]at hx;split at hv
      · rename_i hc;obtain⟨h0,h1⟩:=hc;simp at hv;obtain⟨rfl,rfl⟩:=hv;have e2:=hx.pl_inv;have r0:k.toNat<s.size:=by omega
        have n1:k.toNat<s.data.size:=r0;refine .same g (v:=.int .u8 (s.data.toList.getD k.toNat 0).toNat) ?_ ?_
        · rw[e2,ei]
          have e3:(if 0≤k then s[k.toNat]? else none)=some (s.data.toList.getD k.toNat 0):=by
           rw[if_pos h0];have:s[k.toNat]?=some (s[k.toNat]'r0):=by simp[r0]
           rw[this,List.getD,Array.getElem?_toList,Array.getElem?_eq_getElem n1];rfl
          simp only[Instr.index,Sem.run_bind,asIntOf,Sem.run_pure,Result.andThen,z04 hu,e3]
        · simpa using Rep.pl _
      · cases hv
    · cases hv
  · rename_i len e hu;obtain⟨n,hn,h⟩:=z06 h;obtain⟨ag,j0,rfl⟩:=z02 h;simp only[aop]at hv;have hx:=hρ x;split at hv
    · rename_i cs k hex q0;obtain⟨ik,ei⟩:=z1Q q0 (hρ i);rw[hex]at hx;split at hv
      · rename_i hc;obtain⟨h0,h1,h2⟩:=hc;obtain⟨q,hq,hv⟩:=z02 hv;simp at hv;obtain⟨rfl,rfl⟩:=hv;obtain⟨vs,e2,hr⟩:=hx.agg_inv;obtain⟨v,w',M',ν',q1,q2,q3,q4⟩:=za8 (off:=k.toNat*n) g hn j0 hr hq;refine⟨v,w',M',ν',?_,q2,q3,q4⟩;rw[e2,ei];simp[Instr.index,asIntOf,z04 hu,h0,h1,z0p hn,q1]
      · cases hv
    · cases hv
  · cases h
 |extract x i =>
  simp[opAO]at h;subst h;simp only[aop]at hv;have hx:=hρ x;split at hv
  · rename_i cs e;obtain⟨q,hq,hv⟩:=z02 hv;simp at hv;obtain⟨rfl,rfl⟩:=hv;rw[e]at hx;obtain⟨vs,e2,hr⟩:=hx.tup_inv;obtain⟨v,k2,d1⟩:=hr.get hq;refine u0 (s:=Instr.extract (ρ' x) i) rfl (.same g (v:=v) ?_ d1);rw[e2];simp[Instr.extract,k2]
  · cases hv
 |slice t x lo hi mx =>
  cases mx with
  |some m=>simp[opAO]at h
  |none =>
   refine u0 (s:=Instr.sliceAt t (ρ' x) (lo.map ρ') (hi.map ρ') none) rfl ?_;simp only[opAO]at h;have hx:=hρ x;split at h
   · rename_i hu;simp at h;subst h;simp only[aop]at hv;split at hv
     · rename_i s e;split at hv
       · rename_i l h hl hh;split at hv
         · rename_i hc;obtain⟨h0,h1,h2⟩:=hc;simp at hv;obtain⟨rfl,rfl⟩:=hv;rw[e]at hx;have e2:=hx.pl_inv;refine .same g (v:=.string (s.extract l.toNat h.toNat)) ?_ (.pl _);rw[e2];have:=z1b (P:=P) (w:=w) (isS:=false) (len:=s.size) (cap:=s.size) (z1J hρ hl) (z1J hρ hh) h0 h1 h2 (Nat.le_refl _);simp[Instr.sliceAt,Instr.slice,z04 hu,this]
         · cases hv
       · cases hv
     · cases hv
   · rename_i e0 l1;obtain⟨⟨e,sz⟩,he,rfl⟩:=z02 h;obtain⟨hu,hn,x1⟩:=z1a he;simp only[aop]at hv;split at hv
     · rename_i o0 xs ex;split at hv
       · rename_i l h hl hh;split at hv
         · rename_i hc;obtain⟨rfl,h0,h1,h2⟩:=hc;simp at hv;obtain⟨rfl,rfl⟩:=hv;rw[ex]at hx;obtain⟨a,cap,e2,l0,hz⟩:=hx.sl_inv;have hb:=z1b (P:=P) (w:=w) (isS:=true) (len:=xs.length) (cap:=cap) (z1J hρ hl) (z1J hρ hh) h0 h1 h2 l0;have hlen:((xs.take h.toNat).drop l.toNat).length=h.toNat-l.toNat:=by simp;omega
           have k1:(Instr.sliceAt t (.slice a xs.length cap) (lo.map ρ') (hi.map ρ') none).run P w =
             .ok (.slice (if cap=l.toNat then a else a.map (·.add (l.toNat*sz))) (h.toNat-l.toNat) (cap-l.toNat)) w:=by
            simp[Instr.sliceAt,Instr.slice,z04 hu,hb,z0p hn]
           rw[e2];refine .same g k1 ?_;by_cases he0:(xs.take h.toNat).drop l.toNat=[]
           · rw[he0]at hlen⊢;rw[←hlen];exact .sl0 _ _ _
           · have t1:0<h.toNat-l.toNat:=by rw[←hlen];exact List.length_pos_iff.2 he0
             rcases hz with hz|⟨b,o,f,rfl,hc,hr⟩
             · subst hz;simp at he0
             · rw[if_neg (by omega),←hlen]
               simp only[Option.map_some,z25];have n0:∀i (hi:i<((xs.take h.toNat).drop l.toNat).length),((xs.take h.toNat).drop l.toNat)[i]=xs[l.toNat+i]'(by simp at hi;omega):=fun i hi=>by simp
               refine .sl sz _ b _ _ (fun i j=>f (l.toNat+i) j) (by omega) (fun i j hi hj=>?_) (fun i j hi hj=>?_)
               · have f0:l.toNat+i<xs.length:=by simp at hi;omega
                 rw[n0 i hi]at hj;obtain⟨q1,q2,q3⟩:=hc (l.toNat+i) j f0 hj;refine⟨q1,q2,?_⟩;rw[show o+l.toNat*sz+(i*sz+j)=o+((l.toNat+i)*sz+j) by rw[Nat.add_mul];omega]
                 exact q3
               · have f0:l.toNat+i<xs.length:=by simp at hi;omega
                 have m2:j<(xs[l.toNat+i]).cells.length:=by rw[n0 i hi]at hj;exact hj
                 have:=hr (l.toNat+i) j f0 m2;simpa only[n0 i hi] using this
         · cases hv
       · cases hv
     · cases hv
   · cases h
 |call c =>
  obtain⟨callee,args,tys⟩:=c
  cases callee with
  |value f=>simp[opAO]at h
  |invoke r m=>simp[opAO]at h
  |builtin b =>
   unfold opAO at h;split at h<;>(rename_i heq;simp only[Op.call.injEq,Call.mk.injEq,Callee.builtin.injEq,reduceCtorEq]at heq)<;>try cases h
   · rename_i x t;obtain⟨rfl,rfl,rfl⟩:=heq;have hx:=hρ x;refine u0 (s:=Builtin.len_ #[t] type #[ρ' x]) (by simp[execOp,resolve,invoke,builtin]) ?_
     split at h
     · rename_i hu;simp at h;subst h;simp only[aop]at hv;split at hv
       · rename_i s ex;simp at hv;obtain⟨rfl,rfl⟩:=hv;rw[ex]at hx;have e2:=hx.pl_inv;rw[e2];exact .same g (v:=.int .i64 s.size) (by simp[Builtin.len_,z04 hu,goInt]) (.pl _)
       · cases hv
     · rename_i e' hu;simp at h;subst h
       have sliceLen:∀(a:Option Addr) (n cap:Nat),ρ' x=.slice a n cap→r=.pl (.int .i64 n)→σ'=σ→Yields P (Builtin.len_ #[t] type #[ρ' x]) M σ ν w r σ':=by
        rintro a n cap e rfl rfl;refine .same g (v:=.int .i64 n) ?_ (.pl _);rw[e];simp[Builtin.len_,z04 hu,goInt]
       simp only[aop]at hv;split at hv
       · rename_i ex;simp at hv;obtain⟨rfl,rfl⟩:=hv;rw[ex]at hx;exact sliceLen none 0 0 hx.nils_inv rfl rfl
       · rename_i ex;simp at hv;obtain⟨rfl,rfl⟩:=hv;rw[ex]at hx;obtain⟨a,e2⟩:=hx.zsl_inv;exact sliceLen a 0 0 e2 rfl rfl
       · rename_i n ex;simp at hv;obtain⟨rfl,rfl⟩:=hv;rw[ex]at hx;obtain⟨b,o,e2,_⟩:=hx.psl_inv;exact sliceLen _ n _ e2 rfl rfl
       · rename_i xs ex;simp at hv;obtain⟨rfl,rfl⟩:=hv;rw[ex]at hx;obtain⟨a,cap,e2,_⟩:=hx.sl_inv;exact sliceLen a _ cap e2 rfl rfl
       · rename_i l n ex;split at hv
         · rename_i xs hs;split at hv
           · rename_i hn;simp at hv;obtain⟨rfl,rfl⟩:=hv;rw[ex]at hx;obtain⟨a,len,cap,e2,hR⟩:=hx.osl_inv;have e3:=hR.s_row hs hn;rcases(g.ob l _ hs).row_inv with⟨e4,rfl⟩|⟨b,o,cap2,c,el,fr,e4,_⟩
             · rw[e4]at e3;simp at e3;obtain⟨rfl,rfl,rfl⟩:=e3;subst hn;exact sliceLen _ _ _ e2 rfl rfl
             · rw[e4]at e3;simp at e3;obtain⟨rfl,rfl,rfl⟩:=e3;subst hn;exact sliceLen _ _ _ e2 rfl rfl
           · cases hv
         · cases hv
       · cases hv
     · rename_i n e hu;simp at h;subst h;simp[aop]at hv;obtain⟨rfl,rfl⟩:=hv;refine .same g (v:=.int .i64 n) ?_ (z7f _);simp[Builtin.len_,z04 hu,goInt]
     · cases h
   · rename_i x y t t2;obtain⟨rfl,rfl,rfl⟩:=heq;refine u0 (s:=Builtin.append_ #[t,t2] type #[ρ' x,ρ' y]) (by simp[execOp,resolve,invoke,builtin]) ?_
     obtain⟨⟨e,sz⟩,he,h⟩:=z06 h;split at h
     · rename_i hc;simp only[Bool.and_eq_true]at hc;simp at h;subst h;have hE:=zbn he hc.1;have hT:=zbo hc.2;have hx:=hρ x;simp only[aop]at hv;split at hv
       · rename_i ys y2;have hS:=z9b (P:=P) g y2 (hρ y);split at hv
         · rename_i ex;rw[ex]at hx;have ev:ρ' x=.slice none 0 0:=hx.nils_inv;split at hv
           · rename_i h0;simp at hv;obtain⟨rfl,rfl⟩:=hv;have h0:ys=[]:=by simpa using h0
             subst h0;obtain⟨vs,m1,_,_,u1⟩:=hS.cells;have:vs=[]:=by simpa using m1
             subst this;have hk:=hS.len;have y0:=u1 w rfl;simp only[List.length_nil]at hk y0;rw[ev];refine .same g (v:=.slice none 0 0) ?_ .nils
             rcases hT with⟨e2,hd2⟩|hd2 <;>
              simp[Builtin.append_,z04 hE.ty,z0p hE.size,z04 hd2,hk,y0]
           · rename_i h0;split at hv
             · rename_i hsz;simp at hv;obtain⟨rfl,rfl⟩:=hv;rw[ev];exact z30 g hE hT hS (by simpa using h0) (by omega)
             · cases hv
         · rename_i ex;rw[ex]at hx;obtain⟨a0,ev⟩:=hx.zsl_inv;split at hv
           · rename_i h0;simp at hv;obtain⟨rfl,rfl⟩:=hv;have h0:ys=[]:=by simpa using h0
             subst h0;obtain⟨vs,m1,_,_,u1⟩:=hS.cells;have:vs=[]:=by simpa using m1
             subst this;have hk:=hS.len;have y0:=u1 w rfl;simp only[List.length_nil]at hk y0;rw[ev];refine .same g (v:=.slice a0 0 0) ?_ (.zsl a0)
             rcases hT with⟨e2,hd2⟩|hd2<;>cases a0 <;>
              simp[Builtin.append_,z04 hE.ty,z0p hE.size,z04 hd2,hk,y0,storeCells]
           · rename_i h0;split at hv
             · rename_i hsz;simp at hv;obtain⟨rfl,rfl⟩:=hv;rw[ev];exact z30 g hE hT hS (by simpa using h0) (by omega)
             · cases hv
         · rename_i l n ex;split at hv
           · rename_i o0 xs hs;split at hv
             · rename_i y1;obtain⟨rfl,rfl,hsz⟩:=y1;simp at hv;obtain⟨rfl,rfl⟩:=hv;rw[ex]at hx;exact z4J g hE hT hS hs hx (by omega)
             · cases hv
           · cases hv
         · cases hv
       · cases hv
     · cases h
 |_=>simp[opAO]at h
end
end Go.Ab
namespace Go.Ab
open Go.Lib
section
variable {P:Program} {M M':Nat→Prop} {σ σ':St} {ν ν':Nat→Value} {w w':World} {R:Ref→Value→Prop}
theorem zbq {src dst e:TypeId} (s:ByteArray) (g:Good M σ ν w) (hs:P.underlying src=some .string) (hd:P.underlying dst=some (.slice e)) (he:P.underlying e=some (.int .u8)) :
  Yields P (convert src dst (.string s)) M σ ν w (.sl 1 (z3C s)) σ:=by
 have hsz:w.heap.size≤(bytesWorld w e s).heap.size:=by rw[bytesWorld_size];omega
 have hk:∀b,b<w.heap.size→(bytesWorld w e s).heap[b]?=w.heap[b]?:=fun b hb=>bytesWorld_at_old w e s b hb
 have u0:(bytesWorld w e s).os=w.os∧(bytesWorld w e s).output=w.output:=by
  unfold bytesWorld World.freeze;rw[if_neg (by decide)]
  exact⟨rfl,rfl⟩
 refine⟨_,bytesWorld w e s,M,ν,run_convert_string_bytes w src dst e s hs hd he,g.grow hsz hk,.grow hsz hk u0,?_⟩;have hlen:(z3C s).length=s.size:=by simp[z3C]
 have hb:∀i (hi:i<(z3C s).length),(z3C s)[i]=.pl (.int .u8 ((s.data.toList.getD i 0).toNat)):=by
  intro i hi;have q0:i<s.data.toList.length:=by simpa[z3C] using hi
  simp[z3C,List.getD,List.getElem?_eq_getElem q0]
 have:=Rep.sl (M:=M) (R:=RefOK σ ν) (w:=bytesWorld w e s) 1 (z3C s) w.heap.size 0 (grownCap w s.size 0 e) (fun i _=>.int .u8 ((s.data.toList.getD i 0).toNat))
  (by rw[hlen];exact grownCap_ge w s.size 0 e)
  (fun i j hi hj=>by
   rw[hb i hi]at hj;simp[AV.cells]at hj;subst hj;refine⟨by omega,fun h=>absurd (g.lt _ h) (Nat.lt_irrefl _),?_⟩
   have:=bytesWorld_cell w e s i (by omega)
   simpa using this)
  (fun i j hi hj=>by
   have y0:j=0:=by rw[hb i hi]at hj;simpa[AV.cells] using hj
   subst y0;simp only[hb i hi,AV.cells,List.getElem_cons_zero]
   exact .pl _)
 rw[hlen]at this;exact this
theorem z85:∀{ys:List AV} {ns:List Int},byteL ys=some ns→ys=ns.map fun n=>.pl (.int .u8 n)
 |[],ns,h=>by simp[byteL]at h;subst h;rfl
 |y::ys,ns,h=>by
  unfold byteL at h;split at h
  · rename_i h';cases h'
  · rename_i n r h';simp only[List.cons.injEq]at h';obtain⟨rfl,rfl⟩:=h';obtain⟨ms,hm,rfl⟩:=z02 h;rw[z85 hm];rfl
  · cases h
theorem z5z:∀(ns:List Int) (s:ByteArray),ns.foldl (fun r n=>r.push (UInt8.ofNat n.toNat)) s=⟨s.data++(ns.map fun n=>UInt8.ofNat n.toNat).toArray⟩
 |[],s=>by simp
 |n::ns,s=>by
  rw[List.foldl_cons,z5z ns];congr 1
  apply Array.ext';simp[ByteArray.push]
theorem zeC {src dst e:TypeId} {y:AV} {ys:List AV} {ns:List Int} {x:Value} (g:Good M σ ν w) (hs:P.underlying src=some (.slice e)) (hd:P.underlying dst=some .string) (he:P.underlying e=some (.int .u8))
  (h:srcA σ 1 y=some ys) (hb:byteL ys=some ns) (hr:Rep M (RefOK σ ν) w y x) (hx:∃a l c,x=.slice a l c):(convert src dst x).run P w=.ok (.string (textOf ns)) w:=by
 have hk:=z9b (P:=P) g h hr;obtain⟨a,l,c,rfl⟩:=hx;obtain⟨vs,y0,m0,_,j0⟩:=hk.cells
 have hl:l=ys.length:=by
  have:=hk.len w;simp[Builtin.lenOf]at this;omega
 have q0:=z85 hb;have n0:ys.length=ns.length:=by rw[q0];simp
 have k0:vs=ns.map (Value.int .u8):=by
  apply List.ext_getElem
  · rw[y0,n0];simp
  · intro i h1 h2;have hi:i<ys.length:=by rw[y0]at h1;omega
    have hin:i<ns.length:=by omega
    have e1:ys[i]=.pl (.int .u8 ns[i]):=by simp[q0]
    have:=(m0 i 0 hi (by rw[e1];simp[AV.cells])).2 vs[i] (by simp[h1])
    simp only[e1,AV.cells,List.getElem_cons_zero]at this;rw[this.pl_inv];simp
 cases a with
 |none =>
  have hz:ns=[]:=by
   have:=j0 w rfl;simp[Builtin.firstCells]at this;subst this;simpa using k0.symm
  subst hz;simp only[convert,Sem.run_bind,z04 hs,z04 hd,z04 he,Result.andThen];rfl
 |some a =>
  have u0:(loadCells a l).run P w=.ok (ns.map (Value.int .u8)).toArray w:=by
   have:=j0 w rfl;simp only[Builtin.firstCells,Nat.mul_one]at this;rw[hl,←k0];exact this
  have:=run_bytesToString (P:=P) w a l c ns u0;simp only[convert,Sem.run_bind,z04 hs,z04 hd,z04 he,Result.andThen];rw[this,z5z];simp[textOf]
theorem z9h {t e:TypeId} {sz:Nat} {ag:Bool} {z:List AV} {kl kc:IntKind} {l c:Nat} (g:Good M σ ν w) (he:elemOf? P t=some (e,sz)) (hz:zcOf P e=some z)
  (hag:ag=false→sz=1) (hone:z.all AV.one=true) (hzl:z.length=sz) (hap:appOK P e sz=true) (hlc:l≤c) (hc:c≤4294967296) :
  Yields P (Instr.makeSlice t (.int kl l) (.int kc c)) M σ ν w (.osl σ.length l) (σ++[.row sz ((chunks sz ag c (z0b z c)).take l)]):=by
 obtain⟨hu,hsz,t0⟩:=z1a he;unfold appOK at hap
 cases hi:P.info? e with
 |none=>simp[hi]at hap
 |some i =>
  cases hzv:i.zero with
  |none=>simp[hi,hzv]at hap
  |some zv =>
   simp[hi,hzv]at hap;have q0:i.size=sz:=by simpa[szOf,hi] using hsz
   have y0:zv.cells.toList.map cval=z:=by simpa[zcOf,hi,hzv] using hz
   have hr:Reps M (RefOK σ ν) w z zv.cells.toList:=by rw[←y0];exact z5w zv.cells.toList
   have k0:=run_make (P:=P) w t e i zv hu hi hzv kl kc l c (by omega) (by omega) (by
     have h1:i.bytes*c≤32768*4294967296:=Nat.mul_le_mul hap.1 hc;have h2:((i.bytes*c:Nat):Int)≤281474976710656:=by omega
     rwa [Int.natCast_mul]at h2) (by omega)
   simp only[Int.toNat_natCast]at k0;have u0:=z3f hr c
   have n0:(madeCells zv.cells (c*i.size))=((Array.range (c*zv.cells.size)).map (zv.cells[·%zv.cells.size]!)):=by
    unfold madeCells;rw[q0,hap.2]
   rw[←n0]at u0
   have j0:∀n,(z0b z n).all AV.one=true:=by
    intro n
    induction n with
    |zero=>rfl
    |succ n ih=>simp only[z0b,List.all_append,hone,ih,Bool.and_self]
   have r0:=z2I hag c (z0b z c) _ u0 (by rw[z0T,hzl]) (j0 c)
   have hlen:((chunks sz ag c (z0b z c)).take l).length=l:=by rw[List.length_take,z1y];omega
   have m0:Elems M (RefOK σ ν) w sz ((chunks sz ag c (z0b z c)).take l) (madeCells zv.cells (c*i.size)).toList:=by
    intro a b ha hb;have d0:a<(chunks sz ag c (z0b z c)).length:=by rw[z1y];omega
    have e1:((chunks sz ag c (z0b z c)).take l)[a]=(chunks sz ag c (z0b z c))[a]:=by simp
    simp only[e1]at hb⊢;exact r0 a b d0 hb
   obtain⟨M',ν',g',l',r'⟩:=g.newRow sz ((chunks sz ag c (z0b z c)).take l) e (madeCells zv.cells (c*i.size)) c (by omega) (by rw[size_madeCells,q0];exact Nat.le_refl _) m0
   rw[hlen]at r';exact⟨_,_,M',ν',k0,g',l',r'⟩
end
end Go.Ab
