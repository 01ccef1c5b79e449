/- The base of an abstract layer over the model: values without addresses (slices as lists), a store of the few objects that a call may still write, and what it means that they stand for concrete values in a world. No condition. -/
import Derived.Orders
import Derived.Laws.Cells
import Derived.Laws.Rows
import Derived.KernelRfl
import Derived.Laws.Append
set_option linter.unusedSimpArgs false
set_option linter.unusedVariables false
set_option linter.unusedSectionVars false
namespace Go.Ab
open Go
inductive AV where
 |any
 |pl (v:Value)
 |nils
 |sl (sz:Nat) (xs:List AV)
 |rp (cs:List AV)
 |ptr (l off:Nat)
 |osl (l n:Nat)
 |ep (l n i off:Nat)
 |psl (l off n:Nat)
 |zsl
 |win (sz l n lo:Nat)
 |agg (cs:List AV)
 |tup (vs:List AV)
 |fn (f:FuncId) (fs cs:List AV)
instance:Inhabited AV:=⟨.any⟩
def AV.cells:AV→List AV
 |.agg cs=>cs
 |v=>[v]
inductive Ob where
 |dead
 |box (cs:List AV)
 |row (sz:Nat) (xs:List AV)
 |glo (g:Nat) (vs:List Value)
abbrev St:=List Ob
inductive Ref where
 |p (l:Nat)
 |s (l n:Nat)
 |e (l n i:Nat)
inductive Rep (M:Nat→Prop) (R:Ref→Value→Prop) (w:World):AV→Value→Prop
 |any (v:Value):Rep M R w .any v
 |pl (v:Value):Rep M R w (.pl v) v
 |nils:Rep M R w .nils (.slice none 0 0)
 |sl0 (sz:Nat) (a:Option Addr) (cap:Nat):Rep M R w (.sl sz []) (.slice a 0 cap)
 |sl (sz:Nat) (xs:List AV) (b o cap:Nat) (f:Nat→Nat→Value) (hcap:xs.length≤cap)
  (hc:∀i j (hi:i<xs.length),j<(xs[i]).cells.length→j<sz∧¬M b∧w.cell? ⟨b,o+(i*sz+j),none⟩=some (f i j))
  (hr:∀i j (hi:i<xs.length) (hj:j<(xs[i]).cells.length),Rep M R w ((xs[i]).cells[j]) (f i j)) :
  Rep M R w (.sl sz xs) (.slice (some ⟨b,o,none⟩) xs.length cap)
 |rp (cs:List AV) (b o:Nat) (f:Nat→Value)
  (hc:∀j,j<cs.length→¬M b∧w.cell? ⟨b,o+j,none⟩=some (f j))
  (hr:∀j (hj:j<cs.length),Rep M R w (cs[j]) (f j)) :
  Rep M R w (.rp cs) (.pointer (some ⟨b,o,none⟩))
 |ptr (l off b o:Nat) (h:R (.p l) (.pointer (some ⟨b,o,none⟩))):Rep M R w (.ptr l off) (.pointer (some ⟨b,o+off,none⟩))
 |osl (l n:Nat) (a:Option Addr) (len cap:Nat) (h:R (.s l n) (.slice a len cap)):Rep M R w (.osl l n) (.slice a len cap)
 |ep (l n i off b o:Nat) (h:R (.e l n i) (.pointer (some ⟨b,o,none⟩))):Rep M R w (.ep l n i off) (.pointer (some ⟨b,o+off,none⟩))
 |psl (l off n b o:Nat) (h:R (.p l) (.pointer (some ⟨b,o,none⟩))):Rep M R w (.psl l off n) (.slice (some ⟨b,o+off,none⟩) n n)
 |zsl (a:Option Addr):Rep M R w .zsl (.slice a 0 0)
 |win (sz l n lo b o cap:Nat) (hl:lo<n) (h:R (.s l n) (.slice (some ⟨b,o,none⟩) n cap)):Rep M R w (.win sz l n lo) (.slice (some ⟨b,o+lo*sz,none⟩) (n-lo) (cap-lo))
 |agg (cs:List AV) (vs:List Value) (hl:cs.length=vs.length)
  (hr:∀j (hj:j<cs.length) (hj':j<vs.length),Rep M R w (cs[j]) (vs[j])):Rep M R w (.agg cs) (.agg vs.toArray)
 |tup (cs:List AV) (vs:List Value) (hl:cs.length=vs.length)
  (hr:∀j (hj:j<cs.length) (hj':j<vs.length),Rep M R w (cs[j]) (vs[j])):Rep M R w (.tup cs) (.tuple vs.toArray)
 |fn (g:FuncId) (fs cs:List AV) (us vs:List Value) (hl:fs.length=us.length) (hl':cs.length=vs.length)
  (hr:∀j (hj:j<fs.length) (hj':j<us.length),Rep M R w (fs[j]) (us[j]))
  (hr':∀j (hj:j<cs.length) (hj':j<vs.length),Rep M R w (cs[j]) (vs[j])):Rep M R w (.fn g fs cs) (.func (.func g) us.toArray vs.toArray)
def Reps (M:Nat→Prop) (R:Ref→Value→Prop) (w:World) (cs:List AV) (vs:List Value):Prop :=
 cs.length=vs.length∧∀j (hj:j<cs.length) (hj':j<vs.length),Rep M R w (cs[j]) (vs[j])
section
variable {M M':Nat→Prop} {R R':Ref→Value→Prop} {w w':World}
theorem z5u {b o:Nat} {v:Value} (h:w.cell? ⟨b,o,none⟩=some v) (hk:b<w.heap.size→w'.heap[b]?=w.heap[b]?) :
  w'.cell? ⟨b,o,none⟩=some v:=by
 have hb:=block_lt_of_cell h;have:=hk hb;unfold World.cell? at *;simp only[this];exact h
theorem lt_of_cell {b o:Nat} {v:Value} (h:w.cell? ⟨b,o,none⟩=some v):b<w.heap.size:=block_lt_of_cell h
theorem Rep.mono (h1:∀b,b<w.heap.size→¬M b→¬M' b∧w'.heap[b]?=w.heap[b]?) (h2:∀r v,R r v→R' r v) {a:AV} {v:Value}
  (h:Rep M R w a v):Rep M' R' w' a v:=by
 induction h with
 |any v=>exact .any v
 |pl v=>exact .pl v
 |nils=>exact .nils
 |sl0 sz a cap=>exact .sl0 sz a cap
 |sl sz xs b o cap f hcap hc _ ih =>
  refine .sl sz xs b o cap f hcap (fun i j hi hj=>?_) (fun i j hi hj=>ih i j hi hj)
  obtain⟨a1,a2,a3⟩:=hc i j hi hj;have hb:=h1 b (lt_of_cell a3) a2;exact⟨a1,hb.1,z5u a3 fun _=>hb.2⟩
 |rp cs b o f hc _ ih =>
  refine .rp cs b o f (fun j hj=>?_) (fun j hj=>ih j hj)
  obtain⟨a2,a3⟩:=hc j hj;have hb:=h1 b (lt_of_cell a3) a2;exact⟨hb.1,z5u a3 fun _=>hb.2⟩
 |ptr l off b o h=>exact .ptr l off b o (h2 _ _ h)
 |osl l n a len cap h=>exact .osl l n a len cap (h2 _ _ h)
 |ep l n i off b o h=>exact .ep l n i off b o (h2 _ _ h)
 |psl l off n b o h=>exact .psl l off n b o (h2 _ _ h)
 |zsl a=>exact .zsl a
 |win sz l n lo b o cap hl h=>exact .win sz l n lo b o cap hl (h2 _ _ h)
 |agg cs vs hl _ ih=>exact .agg cs vs hl ih
 |tup cs vs hl _ ih=>exact .tup cs vs hl ih
 |fn g fs cs us vs hl hl' _ _ ih ih'=>exact .fn g fs cs us vs hl hl' ih ih'
theorem Reps.mono (h1:∀b,b<w.heap.size→¬M b→¬M' b∧w'.heap[b]?=w.heap[b]?) (h2:∀r v,R r v→R' r v) {a:List AV} {v:List Value}
  (h:Reps M R w a v):Reps M' R' w' a v:=⟨h.1,fun j hj u0=>(h.2 j hj u0).mono h1 h2⟩
theorem Reps.nil:Reps M R w [] []:=⟨rfl,fun j hj=>by simp at hj⟩
theorem Reps.cons {a:AV} {v:Value} {as:List AV} {vs:List Value} (h:Rep M R w a v) (hs:Reps M R w as vs):Reps M R w (a::as) (v::vs):=by
 refine⟨by simp[hs.1],fun j hj u0=>?_⟩
 cases j with
 |zero=>exact h
 |succ j=>exact hs.2 j (by simpa using hj) (by simpa using u0)
theorem Reps.head {a:AV} {v:Value} {as:List AV} {vs:List Value} (h:Reps M R w (a::as) (v::vs)):Rep M R w a v:=h.2 0 (by simp) (by simp)
theorem Reps.tail {a:AV} {v:Value} {as:List AV} {vs:List Value} (h:Reps M R w (a::as) (v::vs)):Reps M R w as vs :=
 ⟨by simpa using h.1,fun j hj u0=>h.2 (j+1) (by simpa using hj) (by simpa using u0)⟩
theorem Reps.append {a b:List AV} {u v:List Value} (h:Reps M R w a u) (h':Reps M R w b v):Reps M R w (a++b) (u++v):=by
 refine⟨by simp[h.1,h'.1],fun j hj hj'=>?_⟩
 by_cases hja:j<a.length
 · have u0:j<u.length:=by rw[←h.1];exact hja
   rw[List.getElem_append_left hja,List.getElem_append_left u0];exact h.2 j hja u0
 · have u0:¬j<u.length:=by rw[←h.1];exact hja
   rw[List.getElem_append_right (Nat.le_of_not_lt hja),List.getElem_append_right (Nat.le_of_not_lt u0)];have hl:=h.1;simp only[hl];exact h'.2 _ _ _
theorem Reps.take {a:List AV} {u:List Value} (n:Nat) (h:Reps M R w a u):Reps M R w (a.take n) (u.take n):=by
 refine⟨by simp[h.1],fun j hj hj'=>?_⟩
 simp only[List.getElem_take];exact h.2 j _ _
theorem Reps.drop {a:List AV} {u:List Value} (n:Nat) (h:Reps M R w a u):Reps M R w (a.drop n) (u.drop n):=by
 refine⟨by simp[h.1],fun j hj hj'=>?_⟩
 simp only[List.getElem_drop];exact h.2 _ _ _
theorem Reps.get {a:List AV} {u:List Value} (h:Reps M R w a u) {j:Nat} {x:AV} (hx:a[j]?=some x):∃v,u[j]?=some v∧Rep M R w x v:=by
 obtain⟨hj,rfl⟩:=List.getElem?_eq_some_iff.1 hx;have u0:j<u.length:=by rw[←h.1];exact hj
 exact⟨u[j],by simp[u0],h.2 j hj u0⟩
theorem Rep.agg_inv {cs:List AV} {v:Value} (h:Rep M R w (.agg cs) v):∃vs:List Value,v=.agg vs.toArray∧Reps M R w cs vs:=by
 cases h with
 |agg cs vs hl hr=>exact⟨vs,rfl,hl,hr⟩
theorem Rep.tup_inv {cs:List AV} {v:Value} (h:Rep M R w (.tup cs) v):∃vs:List Value,v=.tuple vs.toArray∧Reps M R w cs vs:=by
 cases h with
 |tup cs vs hl hr=>exact⟨vs,rfl,hl,hr⟩
theorem Rep.pl_inv {u v:Value} (h:Rep M R w (.pl u) v):v=u:=by cases h;rfl
theorem Rep.of_agg {cs:List AV} {vs:List Value} (h:Reps M R w cs vs):Rep M R w (.agg cs) (.agg vs.toArray):=.agg cs vs h.1 h.2
theorem Rep.of_tup {cs:List AV} {vs:List Value} (h:Reps M R w cs vs):Rep M R w (.tup cs) (.tuple vs.toArray):=.tup cs vs h.1 h.2
end
def RefOK (σ:St) (ν:Nat→Value):Ref→Value→Prop
 |.p l,v=>match σ[l]? with
  |some (.box _)=>v=ν l
  |some .dead=>True
  |_=>False
 |.s l n,v=>match σ[l]? with
  |some (.row _ xs)=>n≤xs.length∧(n=xs.length→v=ν l)
  |some .dead=>True
  |_=>False
 |.e l n i,v=>match σ[l]? with
  |some (.row sz xs)=>n≤xs.length∧(n=xs.length→∃b o len cap,ν l=.slice (some ⟨b,o,none⟩) len cap∧v=.pointer (some ⟨b,o+i*sz,none⟩))
  |some .dead=>True
  |_=>False
inductive ObOK (M:Nat→Prop) (R:Ref→Value→Prop) (w:World):Ob→Value→Prop
 |dead (v:Value):ObOK M R w .dead v
 |box (cs:List AV) (b o:Nat) (c:Array Value) (e:TypeId) (fr:Nat×Nat) (hM:M b) (hh:w.heap[b]?=some (.cells c e fr))
  (hs:o+cs.length≤c.size) (hf:∀j,j<cs.length→¬(fr.1≤o+j∧o+j<fr.2))
  (hr:∀j (hj:j<cs.length) v,c[o+j]?=some v→Rep M R w (cs[j]) v):ObOK M R w (.box cs) (.pointer (some ⟨b,o,none⟩))
 |glo (g:Nat) (vs:List Value) (v:Value) (hv2:∀a n c,v≠.slice a n c) (hv3:∀a,v≠.pointer a)
  (hc:∀j u,vs[j]?=some u→¬M g∧w.cell? ⟨g,j,none⟩=some u):ObOK M R w (.glo g vs) v
 |row0 (sz:Nat):ObOK M R w (.row sz []) (.slice none 0 0)
 |row (sz:Nat) (xs:List AV) (b o cap:Nat) (c:Array Value) (e:TypeId) (fr:Nat×Nat) (hM:M b) (hh:w.heap[b]?=some (.cells c e fr))
  (hl:xs.length≤cap) (hs:o+cap*sz≤c.size) (hf:∀j,j<cap*sz→¬(fr.1≤o+j∧o+j<fr.2))
  (hr:∀i j (hi:i<xs.length) (hj:j<(xs[i]).cells.length),j<sz∧∀v,c[o+(i*sz+j)]?=some v→Rep M R w ((xs[i]).cells[j]) v) :
  ObOK M R w (.row sz xs) (.slice (some ⟨b,o,none⟩) xs.length cap)
def blk:Value→Option Nat
 |.pointer (some a)=>some a.block
 |.slice (some a) _ _=>some a.block
 |_=>none
def live (σ:St) (l:Nat):Prop:=∃o,σ[l]?=some o∧o≠.dead
def Own (σ:St) (ν:Nat→Value) (b:Nat):Prop:=∃l,live σ l∧blk (ν l)=some b
structure Good (M:Nat→Prop) (σ:St) (ν:Nat→Value) (w:World):Prop where
 ob:∀l o,σ[l]?=some o→ObOK M (RefOK σ ν) w o (ν l)
 lt:∀b,M b→b<w.heap.size
 apart:∀l l' b,live σ l→live σ l'→blk (ν l)=some b→blk (ν l')=some b→l=l'
structure Later (M:Nat→Prop) (σ:St) (ν:Nat→Value) (w:World) (M':Nat→Prop) (σ':St) (ν':Nat→Value) (w':World):Prop where
 size:w.heap.size≤w'.heap.size
 keep:∀b,b<w.heap.size→¬Own σ ν b→w'.heap[b]?=w.heap[b]?
 mute:∀b,b<w.heap.size→M' b→M b
 outer:∀b,b<w.heap.size→M b→¬Own σ ν b→M' b
 own:∀b,b<w.heap.size→Own σ' ν' b→Own σ ν b
 evo:∀r v,RefOK σ ν r v→RefOK σ' ν' r v
 out:w'.os=w.os∧w'.output=w.output:=by exact⟨rfl,rfl⟩
section
variable {M M' M'':Nat→Prop} {σ σ' σ'':St} {ν ν' ν'':Nat→Value} {w w' w'':World}
theorem Later.refl:Later M σ ν w M σ ν w:=⟨Nat.le_refl _,fun _ _ _=>rfl,fun _ _ h=>h,fun _ _ h _=>h,fun _ _ h=>h,fun _ _ h=>h,rfl,rfl⟩
theorem Later.trans (h:Later M σ ν w M' σ' ν' w') (h':Later M' σ' ν' w' M'' σ'' ν'' w''):Later M σ ν w M'' σ'' ν'' w'' where
 size:=Nat.le_trans h.size h'.size
 keep b hb ho:=by
  have u0:¬Own σ' ν' b:=fun x=>ho (h.own b hb x)
  rw[h'.keep b (Nat.lt_of_lt_of_le hb h.size) u0,h.keep b hb ho]
 mute b hb x:=h.mute b hb (h'.mute b (Nat.lt_of_lt_of_le hb h.size) x)
 outer b hb x ho:=h'.outer b (Nat.lt_of_lt_of_le hb h.size) (h.outer b hb x ho) fun y=>ho (h.own b hb y)
 own b hb x:=h.own b hb (h'.own b (Nat.lt_of_lt_of_le hb h.size) x)
 evo r v x:=h'.evo r v (h.evo r v x)
 out:=⟨h'.out.1.trans h.out.1,h'.out.2.trans h.out.2⟩
theorem za7 {v:Value} (hv2:∀a n c,v≠.slice a n c) (hv3:∀a,v≠.pointer a):blk v=none:=by
 cases v<;>first|rfl|(exact absurd rfl (hv2 _ _ _))|(exact absurd rfl (hv3 _))
theorem ObOK.inM {R:Ref→Value→Prop} {o:Ob} {v:Value} (h:ObOK M R w o v) (hd:o≠.dead) {b:Nat} (hb:blk v=some b):M b:=by
 cases h with
 |dead=>exact absurd rfl hd
 |glo g vs v hv2 hv3 hc=>rw[za7 hv2 hv3]at hb;cases hb
 |box cs b o c e fr hM=>simp[blk]at hb;exact hb▸hM
 |row0=>simp[blk]at hb
 |row sz xs b o cap c e fr hM=>simp[blk]at hb;exact hb▸hM
theorem Good.M_of_own (g:Good M σ ν w) {b:Nat} (h:Own σ ν b):M b:=by
 obtain⟨l,⟨o,ho,hd⟩,hb⟩:=h;exact(g.ob l o ho).inM hd hb
theorem Later.sealed (g:Good M σ ν w) (h:Later M σ ν w M' σ' ν' w'):∀b,b<w.heap.size→¬M b→¬M' b∧w'.heap[b]?=w.heap[b]? :=
 fun b hb hm=>⟨fun x=>hm (h.mute b hb x),h.keep b hb fun x=>hm (g.M_of_own x)⟩
theorem Later.rep (g:Good M σ ν w) (h:Later M σ ν w M' σ' ν' w') {a:AV} {v:Value} (hr:Rep M (RefOK σ ν) w a v):Rep M' (RefOK σ' ν') w' a v :=
 hr.mono (h.sealed g) h.evo
theorem Later.reps (g:Good M σ ν w) (h:Later M σ ν w M' σ' ν' w') {a:List AV} {v:List Value} (hr:Reps M (RefOK σ ν) w a v):Reps M' (RefOK σ' ν') w' a v :=
 hr.mono (h.sealed g) h.evo
theorem ObOK.mono {R R':Ref→Value→Prop} {o:Ob} {v:Value} (h:ObOK M R w o v)
  (h1:∀b,b<w.heap.size→¬M b→¬M' b∧w'.heap[b]?=w.heap[b]?) (h2:∀r v,R r v→R' r v)
  (hb:∀b,blk v=some b→o≠.dead→M b→M' b∧w'.heap[b]?=w.heap[b]?):ObOK M' R' w' o v:=by
 cases h with
 |dead=>exact .dead _
 |glo g vs v hv2 hv3 hc =>
  refine .glo g vs v hv2 hv3 fun j u hj=>?_
  obtain⟨a2,a3⟩:=hc j u hj;have hb:=h1 g (lt_of_cell a3) a2;exact⟨hb.1,z5u a3 fun _=>hb.2⟩
 |box cs b o c e fr hM hh hs hf hr =>
  obtain⟨x,y⟩:=hb b rfl (by simp) hM
  exact .box cs b o c e fr x (y.trans hh) hs hf fun j hj v hv=>(hr j hj v hv).mono h1 h2
 |row0=>exact .row0 _
 |row sz xs b o cap c e fr hM hh hl hs hf hr =>
  obtain⟨x,y⟩:=hb b rfl (by simp) hM
  exact .row sz xs b o cap c e fr x (y.trans hh) hl hs hf fun i j hi hj=>⟨(hr i j hi hj).1,fun v hv=>((hr i j hi hj).2 v hv).mono h1 h2⟩
theorem ObOK.lt {R:Ref→Value→Prop} {o:Ob} {v:Value} (h:ObOK M R w o v) (hd:o≠.dead) {b:Nat} (hb:blk v=some b):b<w.heap.size:=by
 cases h with
 |dead=>exact absurd rfl hd
 |glo g vs v hv2 hv3 hc=>rw[za7 hv2 hv3]at hb;cases hb
 |box cs b' o c e fr hM hh=>simp[blk]at hb;subst hb;exact(Array.getElem?_eq_some_iff.1 hh).1
 |row0=>simp[blk]at hb
 |row sz xs b' o cap c e fr hM hh=>simp[blk]at hb;subst hb;exact(Array.getElem?_eq_some_iff.1 hh).1
theorem Good.grow (g:Good M σ ν w) (hs:w.heap.size≤w'.heap.size) (hk:∀b,b<w.heap.size→w'.heap[b]?=w.heap[b]?):Good M σ ν w' where
 ob l o ho:=(g.ob l o ho).mono (fun b hb hm=>⟨hm,hk b hb⟩) (fun _ _ h=>h) fun b hb hd hm=>⟨hm,hk b ((g.ob l o ho).lt hd hb)⟩
 lt b hb:=Nat.lt_of_lt_of_le (g.lt b hb) hs
 apart:=g.apart
theorem Good.own_lt (g:Good M σ ν w) {b:Nat} (h:Own σ ν b):b<w.heap.size:=by
 obtain⟨l,⟨o,ho,hd⟩,hb⟩:=h;exact(g.ob l o ho).lt hd hb
theorem Later.grow (hs:w.heap.size≤w'.heap.size) (hk:∀b,b<w.heap.size→w'.heap[b]?=w.heap[b]?) (out:w'.os=w.os∧w'.output=w.output:=by exact⟨rfl,rfl⟩):Later M σ ν w M σ ν w' :=
 ⟨hs,fun b hb _=>hk b hb,fun _ _ h=>h,fun _ _ h _=>h,fun _ _ h=>h,fun _ _ h=>h,out⟩
end
def cval:Value→AV
 |.slice none 0 0=>.nils
 |.agg cs=>.agg (cs.toList.map .pl)
 |v=>.pl v
def AV.one:AV→Bool
 |.pl v=>v.oneCell'
 |.any|.agg _|.tup _=>false
 |_=>true
def AV.okc:AV→Bool
 |.agg cs=>cs.all AV.one
 |v=>v.one
def z0s {α:Type} (l:List α) (k:Nat) (vs:List α):List α:=l.take k++vs++l.drop (k+vs.length)
abbrev Part:=Nat×Nat×Operand
inductive Leaf where
 |int|str|bool
inductive AO where
 |mov (x:Operand)
 |pick (c a b:Operand)
 |boxr (x:Operand)
 |boxm (x:Operand)
 |allocm (z:List AV)
 |build (z:List AV) (ps:List Part)
 |bsl (own:Bool) (sz:Nat) (ag:Bool) (n:Nat) (z:List AV) (ps:List Part)
 |load (n:Nat) (ag:Bool) (x:Operand)
 |store (n:Nat) (a x:Operand)
 |nilc (x:Operand)
 |bin (bl:Bool) (op:BinOp) (x y:Operand)
 |eqa (neg:Bool) (ks:List Leaf) (x y:Operand)
 |un (op:UnOp) (x:Operand)
 |convi (k:IntKind) (x:Operand)
 |field (off n:Nat) (ag:Bool) (x:Operand)
 |idxs (x i:Operand)
 |idxa (sz len:Nat) (ag:Bool) (x i:Operand)
 |fadr (off:Nat) (x:Operand)
 |iadrs (sz:Nat) (x i:Operand)
 |iadra (sz len:Nat) (x i:Operand)
 |con (v:Value)
 |lens (x:Operand)
 |lenv (x:Operand)
 |extr (i:Nat) (x:Operand)
 |mkfn (f:FuncId) (fs cs:List Operand)
 |app (sz:Nat) (x y:Operand)
 |slcs (x:Operand) (lo hi:Option Operand)
 |slcv (sz:Nat) (x:Operand) (lo hi:Option Operand)
 |bad
 |s2b (x:Operand)
 |b2s (x:Operand)
 |s2s (x:Operand)
 |strm (x:Operand)
 |mks (sz:Nat) (ag:Bool) (z:List AV) (x y:Operand)
 |capn (x:Operand)
 |mm (big:Bool) (x y:Operand)
 |copy (x y:Operand)
 |slca (len:Nat) (x:Operand)
 |arrp (len:Nat) (x:Operand)
 |slc0 (x:Operand)
 |appz (sz:Nat) (ag:Bool) (z:List AV) (x y:Operand)
 |slco (sz:Nat) (x:Operand) (lo hi:Option Operand)
 |isnil (neg ptr:Bool) (x:Operand)
 |giadr (g sz len:Nat) (i:Operand)
 |slcw (sz:Nat) (x lo:Operand)
 |clr (sz:Nat) (ag:Bool) (z:List AV) (x:Operand)
section
variable (ρ:Operand→AV) (σ:St)
def ldc (n:Nat) (ag:Bool) (cs:List AV):Option AV :=
 if ag then(if n≤cs.length then some (.agg (cs.take n)) else none) else cs.head?
def loadA (n:Nat) (ag:Bool):AV→Option AV
 |.rp cs=>ldc n ag cs
 |.ptr l off=>match σ[l]? with
  |some (.box cs)=>ldc n ag (cs.drop off)
  |_=>none
 |.ep l m i off=>match σ[l]? with
  |some (.row _ xs)=>if m=xs.length then(match xs[i]? with
   |some x=>ldc n ag (x.cells.drop off)
   |none=>none) else none
  |_=>none
 |_=>none
def z5v (x:AV) (off:Nat) (vs:List AV):Option AV :=
 match x with
 |.agg cs=>if off+vs.length≤cs.length then some (.agg (z0s cs off vs)) else none
 |x=>if off=0∧x.one then(match vs with|[v]=>if v.one then some v else none|_=>none) else none
def fillA (ρ:Operand→AV):List AV→List Part→Option (List AV)
 |z,[]=>some z
 |z,(off,size,x)::ps =>
  if(ρ x).okc∧(ρ x).cells.length=size∧off+size≤z.length then fillA ρ (z0s z off (ρ x).cells) ps else none
def chunks (n:Nat) (ag:Bool):Nat→List AV→List AV
 |0,_=>[]
 |k+1,cs=>(if ag then .agg (cs.take n) else cs.headD .any)::chunks n ag k (cs.drop n)
def z0b (z:List AV):Nat→List AV
 |0=>[]
 |k+1=>z++z0b z k
def isB:Value→Bool
 |.bool _=>true
 |_=>false
def binF (op:BinOp) (x y:Value):Option Value :=
 match op,x,y with
 |.shl,.int k a,.int _ b=>if 0≤b then some (.int k (k.wrap (a*2^(min b.toNat k.bits)))) else none
 |.shr,.int k a,.int _ b=>if 0≤b then some (.int k (a.fdiv (2^(min b.toNat k.bits)))) else none
 |op,.int k a,.int k' b =>
  if k=k' then
   match op with
   |.add=>some (.int k (k.wrap (a+b)))
   |.sub=>some (.int k (k.wrap (a-b)))
   |.mul=>some (.int k (k.wrap (a*b)))
   |.quo=>if b=0 then none else some (.int k (k.wrap (a.tdiv b)))
   |.rem=>if b=0 then none else some (.int k (a.tmod b))
   |.and=>some (.int k (k.wrap (BitVec.ofInt k.bits a &&& BitVec.ofInt k.bits b).toNat))
   |.or=>some (.int k (k.wrap (BitVec.ofInt k.bits a ||| BitVec.ofInt k.bits b).toNat))
   |.xor=>some (.int k (k.wrap (BitVec.ofInt k.bits a ^^^ BitVec.ofInt k.bits b).toNat))
   |.andNot=>some (.int k (k.wrap (BitVec.ofInt k.bits a &&& ~~~ BitVec.ofInt k.bits b).toNat))
   |.eql=>some (.bool (a==b))
   |.neq=>some (.bool (a != b))
   |.lss=>some (.bool (decide (a<b)))
   |.leq=>some (.bool (decide (a≤b)))
   |.gtr=>some (.bool (decide (b<a)))
   |.geq=>some (.bool (decide (b≤a)))
   |_=>none
  else none
 |op,.float k a,.float k' b =>
  if k=k' then
   match op with
   |.eql=>some (.bool (k.format.order a b==some .eq))
   |.neq=>some (.bool (k.format.order a b != some .eq))
   |.lss=>some (.bool (k.format.order a b==some .lt))
   |.leq=>some (.bool (k.format.order a b==some .lt||k.format.order a b==some .eq))
   |.gtr=>some (.bool (k.format.order a b==some .gt))
   |.geq=>some (.bool (k.format.order a b==some .gt||k.format.order a b==some .eq))
   |_=>none
  else none
 |op,.string a,.string b =>
  match op with
  |.add=>if a.size+b.size≤9223372036854775807 then some (.string (a++b)) else none
  |.eql=>some (.bool (a.toList==b.toList))
  |.neq=>some (.bool (!(a.toList==b.toList)))
  |.lss=>some (.bool (Op.bytesLess a.toList b.toList))
  |.leq=>some (.bool (Op.bytesLess a.toList b.toList||a.toList==b.toList))
  |.gtr=>some (.bool (!(Op.bytesLess a.toList b.toList||a.toList==b.toList)))
  |.geq=>some (.bool (!Op.bytesLess a.toList b.toList))
  |_=>none
 |.eql,.bool a,.bool b=>some (.bool (a==b))
 |.neq,.bool a,.bool b=>some (.bool (!(a==b)))
 |_,_,_=>none
def z2G:Leaf→AV→AV→Option Bool
 |.int,.pl (.int k a),.pl (.int k' b)=>if k=k' then some (a==b) else none
 |.str,.pl (.string a),.pl (.string b)=>some (a.toList==b.toList)
 |.bool,.pl (.bool a),.pl (.bool b)=>some (a==b)
 |_,_,_=>none
def eqCells:List Leaf→List AV→List AV→Option Bool
 |[],[],[]=>some true
 |k::ks,x::xs,y::ys =>
  match z2G k x y,eqCells ks xs ys with
  |some a,some b=>some (a&&b)
  |_,_=>none
 |_,_,_=>none
def unF (op:UnOp) (x:Value):Option Value :=
 match op,x with
 |.neg,.int k n=>some (.int k (k.wrap (0-n)))
 |.neg,.float k b=>some (.float k (Op.negFloat k b))
 |.xor,.int k n=>some (.int k (k.wrap (BitVec.ofInt k.bits (if k.signed then -1 else k.max) ^^^ BitVec.ofInt k.bits n).toNat))
 |.not,.bool b=>some (.bool !b)
 |_,_=>none
def boolA:AV→Option Bool
 |.pl (.bool b)=>some b
 |_=>none
def intA:AV→Option Int
 |.pl (.int _ n)=>some n
 |_=>none
def srcA (σ:St) (sz:Nat):AV→Option (List AV)
 |.nils|.zsl=>some []
 |.sl sz' ys=>if sz=sz'∧ys.all (fun y=>decide (y.cells.length=sz)&&y.okc) then some ys else none
 |.osl l n=>match σ[l]? with
  |some (.row sz' ys)=>if sz=sz'∧n=ys.length∧ys.all (fun y=>decide (y.cells.length=sz)&&y.okc) then some ys else none
  |_=>none
 |.pl (.string s)=>if sz=1 then some (s.data.toList.map fun b=>.pl (.int .u8 b.toNat)) else none
 |.pl (.slice _ 0 _)=>some []
 |_=>none
def z3C (s:ByteArray):List AV:=s.data.toList.map fun b=>.pl (.int .u8 b.toNat)
def byteL:List AV→Option (List Int)
 |[]=>some []
 |.pl (.int .u8 n)::r=>(byteL r).map (n::·)
 |_=>none
def textOf (ns:List Int):ByteArray:=⟨(ns.map fun n=>UInt8.ofNat n.toNat).toArray⟩
def AV.isStr:AV→Bool
 |.pl (.string _)=>true
 |_=>false
def gloA:St→Nat→Option (List Value)
 |[],_=>none
 |.glo g vs::s,k=>if g=k then some vs else gloA s k
 |_::s,k=>gloA s k
def nilA:Bool→AV→Option Bool
 |false,.nils=>some true
 |false,.sl _ (_::_)=>some false
 |true,.rp _|true,.ptr _ _|true,.ep _ _ _ _=>some false
 |true,.pl (.pointer none)=>some true
 |false,.pl (.slice a _ _)=>some a.isNone
 |_,_=>none
def nilA2 (σ:St) (p:Bool):AV→Option Bool
 |.osl l n=>match σ[l]? with
  |some (.row _ xs)=>if p=false∧n=xs.length∧0<xs.length then some false else none
  |_=>none
 |v=>nilA p v
def aop:AO→Option (AV×St)
 |.mov x=>some (ρ x,σ)
 |.pick c a b=>match boolA (ρ c) with
  |some t=>some (if t then ρ a else ρ b,σ)
  |none=>none
 |.boxr x=>if(ρ x).okc then some (.rp (ρ x).cells,σ) else none
 |.boxm x=>if(ρ x).okc then some (.ptr σ.length 0,σ++[.box (ρ x).cells]) else none
 |.allocm z=>some (.ptr σ.length 0,σ++[.box z])
 |.build z ps=>(fillA ρ z ps).map fun cs=>(.agg cs,σ)
 |.bsl own sz ag n z ps=>(fillA ρ (z0b z n) ps).map fun cs =>
  if own then(.osl σ.length n,σ++[.row sz (chunks sz ag n cs)]) else(.sl sz (chunks sz ag n cs),σ)
 |.load n ag x=>(loadA σ n ag (ρ x)).map (·,σ)
 |.store n a x=>if(ρ x).okc∧(ρ x).cells.length=n then
   match ρ a with
   |.ptr l off=>match σ[l]? with
    |some (.box cs)=>if off+n≤cs.length then some (.any,σ.set l (.box (z0s cs off (ρ x).cells))) else none
    |_=>none
   |.ep l m i off=>match σ[l]? with
    |some (.row sz xs)=>if m=xs.length then(match xs[i]? with
     |some e=>(z5v e off (ρ x).cells).map fun e'=>(.any,σ.set l (.row sz (xs.set i e')))
     |none=>none) else none
    |_=>none
   |_=>none
  else none
 |.nilc x=>match ρ x with
  |.rp cs=>some (.rp cs,σ)
  |.ptr l off=>some (.ptr l off,σ)
  |.ep l m i off=>some (.ep l m i off,σ)
  |_=>none
 |.bin bl op x y=>match ρ x,ρ y with
  |.pl u,.pl v=>if bl=isB u then(binF op u v).map fun r=>(.pl r,σ) else none
  |_,_=>none
 |.eqa neg ks x y=>match ρ x,ρ y with
  |.agg xs,.agg ys=>(eqCells ks xs ys).map fun b=>(.pl (.bool (neg ^^ b)),σ)
  |_,_=>none
 |.un op x=>match ρ x with
  |.pl u=>(unF op u).map fun r=>(.pl r,σ)
  |_=>none
 |.convi k x=>match intA (ρ x) with
  |some n=>some (.pl (.int k (k.wrap n)),σ)
  |none=>none
 |.field off n ag x=>match ρ x with
  |.agg cs=>if off+n≤cs.length then(ldc n ag (cs.drop off)).map (·,σ) else none
  |_=>none
 |.idxs x i=>match ρ x,intA (ρ i) with
  |.pl (.string s),some n=>if 0≤n∧n<s.size then some (.pl (.int .u8 (s.data.toList.getD n.toNat 0).toNat),σ) else none
  |_,_=>none
 |.idxa sz len ag x i=>match ρ x,intA (ρ i) with
  |.agg cs,some n=>if 0≤n∧n<len∧(n.toNat+1)*sz≤cs.length then(ldc sz ag (cs.drop (n.toNat*sz))).map (·,σ) else none
  |_,_=>none
 |.fadr off x=>match ρ x with
  |.rp cs=>some (.rp (cs.drop off),σ)
  |.ptr l o=>some (.ptr l (o+off),σ)
  |.ep l m i o=>some (.ep l m i (o+off),σ)
  |_=>none
 |.iadrs sz x i=>match ρ x,intA (ρ i) with
  |.sl sz' xs,some n=>if sz=sz'∧0≤n then(match xs[n.toNat]? with
   |some e=>some (.rp e.cells,σ)
   |none=>none) else none
  |.osl l m,some n=>match σ[l]? with
   |some (.row sz' xs)=>if sz=sz'∧m=xs.length∧0≤n∧n<m then some (.ep l m n.toNat 0,σ) else none
   |_=>none
  |_,_=>none
 |.iadra sz len x i=>match intA (ρ i) with
  |some n=>if 0≤n∧n<len then(match ρ x with
   |.rp cs=>some (.rp (cs.drop (n.toNat*sz)),σ)
   |.ptr l o=>some (.ptr l (o+n.toNat*sz),σ)
   |.ep l m j o=>some (.ep l m j (o+n.toNat*sz),σ)
   |_=>none) else none
  |none=>none
 |.con v=>some (cval v,σ)
 |.lens x=>match ρ x with
  |.pl (.string s)=>some (.pl (.int .i64 s.size),σ)
  |_=>none
 |.lenv x=>match ρ x with
  |.nils=>some (.pl (.int .i64 0),σ)
  |.zsl=>some (.pl (.int .i64 0),σ)
  |.psl _ _ n=>some (.pl (.int .i64 n),σ)
  |.sl _ xs=>some (.pl (.int .i64 xs.length),σ)
  |.osl l n=>match σ[l]? with
   |some (.row _ xs)=>if n=xs.length then some (.pl (.int .i64 n),σ) else none
   |_=>none
  |_=>none
 |.extr i x=>match ρ x with
  |.tup cs=>cs[i]?.map (·,σ)
  |_=>none
 |.mkfn f fs cs=>some (.fn f (fs.map ρ) (cs.map ρ),σ)
 |.app sz x y=>match srcA σ sz (ρ y) with
  |some ys=>match ρ x with
   |.nils=>if ys.isEmpty then some (.nils,σ) else if ys.length≤2^32 then some (.osl σ.length ys.length,σ++[.row sz ys]) else none
   |.zsl=>if ys.isEmpty then some (.zsl,σ) else if ys.length≤2^32 then some (.osl σ.length ys.length,σ++[.row sz ys]) else none
   |.osl l n=>match σ[l]? with
    |some (.row sz' xs)=>if sz=sz'∧n=xs.length∧n+ys.length≤2^32 then some (.osl l (n+ys.length),σ.set l (.row sz (xs++ys))) else none
    |_=>none
   |_=>none
  |none=>none
 |.slcs x lo hi=>match ρ x with
  |.pl (.string s)=>match(lo.map fun o=>intA (ρ o)).getD (some 0),(hi.map fun o=>intA (ρ o)).getD (some s.size) with
   |some l,some h=>if 0≤l∧l≤h∧h≤s.size then some (.pl (.string (s.extract l.toNat h.toNat)),σ) else none
   |_,_=>none
  |_=>none
 |.slcv sz x lo hi=>match ρ x with
  |.sl sz' xs=>match(lo.map fun o=>intA (ρ o)).getD (some 0),(hi.map fun o=>intA (ρ o)).getD (some xs.length) with
   |some l,some h=>if sz=sz'∧0≤l∧l≤h∧h≤xs.length then some (.sl sz ((xs.take h.toNat).drop l.toNat),σ) else none
   |_,_=>none
  |_=>none
 |.bad=>none
 |.s2b x=>match ρ x with
  |.pl (.string s)=>some (.sl 1 (z3C s),σ)
  |_=>none
 |.b2s x=>if(ρ x).isStr then none else match srcA σ 1 (ρ x) with
  |some ys=>(byteL ys).map fun ns=>(.pl (.string (textOf ns)),σ)
  |none=>none
 |.s2s x=>match ρ x with
  |.pl (.string s)=>some (.pl (.string s),σ)
  |_=>none
 |.strm x=>match ρ x with
  |.osl l n=>match σ[l]? with
   |some (.row sz xs)=>if n=xs.length∧0<xs.length then some (.sl sz xs,σ.set l .dead) else none
   |_=>none
  |_=>none
 |.mks sz ag z x y=>match intA (ρ x),intA (ρ y) with
  |some l,some c=>if 0≤l∧l≤c∧c≤4294967296 then some (.osl σ.length l.toNat,σ++[.row sz ((chunks sz ag c.toNat (z0b z c.toNat)).take l.toNat)]) else none
  |_,_=>none
 |.capn x=>match ρ x with
  |.nils=>some (.pl (.int .i64 0),σ)
  |_=>none
 |.mm big x y=>match ρ x,ρ y with
  |.pl (.int k a),.pl (.int k' b)=>if k=k' then some (.pl (.int k (if big then(if b>a then b else a) else(if b<a then b else a))),σ) else none
  |_,_=>none
 |.copy x y=>match srcA σ 1 (ρ y) with
  |some ys=>match ρ x with
   |.osl l n=>match σ[l]? with
    |some (.row sz xs)=>if sz=1∧n=xs.length then some (.pl (.int .i64 (Nat.min ys.length n:Nat)),σ.set l (.row 1 (ys.take (Nat.min ys.length n)++xs.drop (Nat.min ys.length n)))) else none
    |_=>none
   |.psl l off n=>match σ[l]? with
    |some (.box cs)=>if off+n≤cs.length∧ys.all AV.one then some (.pl (.int .i64 (Nat.min ys.length n:Nat)),σ.set l (.box (z0s cs off (ys.take (Nat.min ys.length n))))) else none
    |_=>none
   |_=>none
  |none=>none
 |.slca len x=>match ρ x with
  |.rp cs=>if len≤cs.length∧(cs.take len).all AV.one then some (.sl 1 (cs.take len),σ) else none
  |.ptr l off=>some (.psl l off len,σ)
  |_=>none
 |.arrp len x=>match ρ x with
  |.sl sz xs=>if sz=1∧0<len∧len≤xs.length∧xs.all AV.one then some (.rp (xs.take len),σ) else none
  |_=>none
 |.slc0 x=>match ρ x with
  |.nils=>some (.nils,σ)
  |.zsl=>some (.zsl,σ)
  |.sl _ _=>some (.zsl,σ)
  |.osl _ _=>some (.zsl,σ)
  |_=>none
 |.appz sz ag z x y=>match ρ x,intA (ρ y) with
  |.nils,some n=>if n=0 then some (.nils,σ) else if 0<n∧n≤4294967296 then some (.osl σ.length n.toNat,σ++[.row sz (chunks sz ag n.toNat (z0b z n.toNat))]) else none
  |_,_=>none
 |.slco sz x lo hi=>match ρ x with
  |.nils=>match(lo.map fun o=>intA (ρ o)).getD (some 0),(hi.map fun o=>intA (ρ o)).getD (some 0) with
   |some l,some h=>if l=0∧h=0 then some (.nils,σ) else none
   |_,_=>none
  |.osl k n=>match σ[k]? with
   |some (.row sz' xs)=>match(lo.map fun o=>intA (ρ o)).getD (some 0),(hi.map fun o=>intA (ρ o)).getD (some xs.length) with
    |some l,some h=>if sz=sz'∧n=xs.length∧0≤l∧l≤h∧h≤xs.length then some (.osl σ.length (h.toNat-l.toNat),σ.set k .dead++[.row sz ((xs.take h.toNat).drop l.toNat)]) else none
    |_,_=>none
   |_=>none
  |_=>none
 |.giadr g sz len i=>match gloA σ g,intA (ρ i) with
  |some vs,some n=>if 0≤n∧n<len then some (.rp ((vs.drop (n.toNat*sz)).map .pl),σ) else none
  |_,_=>none
 |.slcw sz x lo=>match ρ x,intA (ρ lo) with
  |.osl l n,some i=>match σ[l]? with
   |some (.row sz' xs)=>if sz=sz'∧n=xs.length∧0≤i∧i<xs.length then some (.win sz l n i.toNat,σ) else none
   |_=>none
  |_,_=>none
 |.clr sz ag z x=>match ρ x with
  |.win sz' l n lo=>match σ[l]? with
   |some (.row sz'' xs)=>if sz=sz'∧sz=sz''∧n=xs.length∧lo<xs.length then some (.tup [],σ.set l (.row sz (xs.take lo++chunks sz ag (xs.length-lo) (z0b z (xs.length-lo))))) else none
   |_=>none
  |_=>none
 |.isnil neg ptr x=>(nilA2 σ ptr (ρ x)).map fun b=>(.pl (.bool (neg ^^ b)),σ)
end
section
variable {P:Program} {M:Nat→Prop} {σ:St} {ν:Nat→Value} {w:World} {R:Ref→Value→Prop}
theorem z04 {t:TypeId} {d:TypeDesc} (h:P.underlying t=some d):(underlying t).run P w=.ok d w:=by
 simp[underlying,h]
theorem z4d {t:TypeId} {i:TypeInfo} (h:P.info? t=some i):(typeInfo t).run P w=.ok i w:=by
 simp[typeInfo,h]
def szOf (P:Program) (t:TypeId):Option Nat:=(P.info? t).map (·.size)
def z2R:TypeDesc→Bool
 |.struct _|.array _ _=>true
 |_=>false
def agOf (P:Program) (t:TypeId):Option Bool:=(P.underlying t).map z2R
def zcOf (P:Program) (t:TypeId):Option (List AV):=(P.info? t).bind fun i=>i.zero.map fun z=>z.cells.toList.map cval
theorem z0p {t:TypeId} {n:Nat} (h:szOf P t=some n):(sizeOf t).run P w=.ok n w:=by
 unfold szOf at h
 cases hi:P.info? t with
 |none=>simp[hi]at h
 |some i=>simp[hi]at h;simp[sizeOf,z4d hi,h]
theorem z4G {t:TypeId} {b:Bool} (h:agOf P t=some b):(isAgg t).run P w=.ok b w:=by
 unfold agOf at h
 cases hi:P.underlying t with
 |none=>simp[hi]at h
 |some d =>
  simp[hi]at h;subst h;cases d<;>simp[isAgg,z04 hi,z2R]
theorem z7f (v:Value):Rep M R w (cval v) v:=by
 unfold cval;split
 · exact .nils
 · rename_i cs;have:=Rep.of_agg (M:=M) (R:=R) (w:=w) (cs:=cs.toList.map .pl) (vs:=cs.toList) ⟨by simp,fun j hj hj'=>by simpa using Rep.pl _⟩
   simpa using this
 · exact .pl _
theorem z5w (vs:List Value):Reps M R w (vs.map cval) vs:=⟨by simp,fun j hj hj'=>by simpa using z7f _⟩
theorem Rep.one_inv {a:AV} {v:Value} (h:Rep M R w a v) (ho:a.one=true):v.oneCell'=true∧v.cells=#[v]∧a.cells=[a]:=by
 cases h with
 |pl v=>cases v<;>simp_all [AV.one,Value.oneCell',Value.cells,AV.cells]
 |_=>simp_all [AV.one,Value.oneCell',Value.cells,AV.cells]
theorem Rep.okc_cells {a:AV} {v:Value} (h:Rep M R w a v) (ho:a.okc=true):Reps M R w a.cells v.cells.toList:=by
 by_cases hg:∃cs,a=.agg cs
 · obtain⟨cs,rfl⟩:=hg;obtain⟨vs,rfl,hr⟩:=h.agg_inv;simpa[Value.cells,AV.cells] using hr
 · have h1:a.one=true:=by
    cases a<;>simp_all [AV.okc,AV.one]
   obtain⟨_,h2,h3⟩:=h.one_inv h1;rw[h2,h3];exact .cons h .nil
theorem Reps.one {as:List AV} {vs:List Value} (h:Reps M R w as vs) (ho:as.all AV.one=true):∀v∈vs,v.oneCell'=true:=by
 intro v hv;obtain⟨j,hj,rfl⟩:=List.getElem_of_mem hv;have u0:j<as.length:=by rw[h.1];exact hj
 exact((h.2 j u0 hj).one_inv (List.all_eq_true.1 ho _ (List.getElem_mem u0))).1
theorem AV.okc_all {a:AV} (h:a.okc=true):a.cells.all AV.one=true:=by
 cases a<;>simp_all [AV.okc,AV.cells]
def Yields (P:Program) (s:Sem Value) (M:Nat→Prop) (σ:St) (ν:Nat→Value) (w:World) (r:AV) (σ':St):Prop :=
 ∃v w' M' ν',s.run P w=.ok v w'∧Good M' σ' ν' w'∧Later M σ ν w M' σ' ν' w'∧Rep M' (RefOK σ' ν') w' r v
theorem Yields.same {s:Sem Value} {v:Value} {r:AV} (g:Good M σ ν w) (h:s.run P w=.ok v w) (hr:Rep M (RefOK σ ν) w r v):Yields P s M σ ν w r σ :=
 ⟨v,w,M,ν,h,g,.refl,hr⟩
def Same (P:Program) (s:Sem Value) (M:Nat→Prop) (R:Ref→Value→Prop) (w:World) (r:AV):Prop :=
 ∃v,s.run P w=.ok v w∧Rep M R w r v
theorem Same.yields {s:Sem Value} {r:AV} (h:Same P s M (RefOK σ ν) w r) (g:Good M σ ν w):Yields P s M σ ν w r σ:=by
 obtain⟨v,h1,h2⟩:=h;exact .same g h1 h2
theorem z6B {n:Nat} {ag:Bool} {cs:List AV} {vs:List Value} {r:AV} (hr:Reps M R w cs vs) (h:ldc n ag cs=some r) :
  (ag=true∧n≤vs.length∧Rep M R w r (.agg (vs.take n).toArray))∨(ag=false∧∃v,vs[0]?=some v∧Rep M R w r v):=by
 unfold ldc at h
 cases ag with
 |true =>
  simp only[if_true]at h;split at h
  · simp at h;subst h;rename_i hn;exact .inl ⟨rfl,by rw[←hr.1];exact hn,.of_agg (hr.take n)⟩
  · cases h
 |false =>
  simp only[Bool.false_eq_true,if_false]at h
  cases cs with
  |nil=>simp at h
  |cons c cs => 
   simp at h;subst h;obtain⟨v,hv,u0⟩:=hr.get (j:=0) (x:=c) rfl;exact .inr ⟨rfl,v,hv,u0⟩
theorem z4H {t:TypeId} {n:Nat} {ag:Bool} {b o:Nat} {vs:List Value} (hn:szOf P t=some n) (ha:agOf P t=some ag)
  (hv:∀j (hj:j<vs.length),w.cell? ⟨b,o+j,none⟩=some vs[j]) :
  (ag=true→n≤vs.length→(loadVar t ⟨b,o,none⟩).run P w=.ok (.agg (vs.take n).toArray) w) ∧
  (ag=false→∀v,vs[0]?=some v→(loadVar t ⟨b,o,none⟩).run P w=.ok v w):=by
 have u0:∀j,Addr.add ⟨b,o,none⟩ j=⟨b,o+j,none⟩:=fun j=>by unfold Addr.add;split<;>simp_all
 constructor
 · rintro rfl hl
   have:=run_loadCells_list (P:=P) w ⟨b,o,none⟩ (vs.take n) (fun j v hj=>by
    rw[u0];obtain⟨y0,rfl⟩:=List.getElem?_eq_some_iff.1 hj;rw[hv j (by simp at y0;omega)]
    simp)
   rw[List.length_take,Nat.min_eq_left hl]at this;simp[loadVar,z4G ha,z0p hn,this]
 · rintro rfl v h0;obtain⟨q0,rfl⟩:=List.getElem?_eq_some_iff.1 h0;have:=hv 0 q0;simp only[Nat.add_zero]at this;simp[loadVar,z4G ha,load,Sem.run,this]
theorem z3D {t:TypeId} {n:Nat} {ag:Bool} {b o:Nat} {cs:List AV} {r:AV} (hn:szOf P t=some n) (ha:agOf P t=some ag)
  (f:Nat→Value) (hv:∀j,j<cs.length→w.cell? ⟨b,o+j,none⟩=some (f j)) (hr:∀j (hj:j<cs.length),Rep M (RefOK σ ν) w (cs[j]) (f j))
  (h:ldc n ag cs=some r):Same P (loadVar t ⟨b,o,none⟩) M (RefOK σ ν) w r:=by
 have hR:Reps M (RefOK σ ν) w cs ((List.range cs.length).map f):=⟨by simp,fun j hj u0=>by simpa using hr j hj⟩
 have hc:=z4H (w:=w) (b:=b) (o:=o) (vs:=(List.range cs.length).map f) hn ha (fun j hj=>by
  have u0:j<cs.length:=by simpa using hj
  simpa using hv j u0)
 rcases z6B hR h with⟨rfl,hl,hrep⟩|⟨rfl,v,h0,hrep⟩
 · exact⟨_,hc.1 rfl hl,hrep⟩
 · exact⟨_,hc.2 rfl v h0,hrep⟩
theorem zcg {op:BinOp} {t:TypeId} {u v r:Value} (x y:Operand) (h:binF op u v=some r)
  (ht:∀a b,u=.bool a→v=.bool b→P.underlying t=some .bool) :
  (do eqGuard op t x y u v;binOp op t u v:Sem Value).run P w=.ok r w:=by
 have hg:∀(a b:Value),(∀l m,¬(a=.agg l∧b=.agg m))→¬(a=.nilIface∧b=.nilIface)→(eqGuard op t x y a b).run P w=.ok () w:=by
  intro a b h1 h2;unfold eqGuard;cases op<;>simp<;>first|rfl|(split<;>first|rfl|(exact absurd ⟨rfl,rfl⟩ h2)|(exact absurd ⟨rfl,rfl⟩ (h1 _ _)))
 unfold binF at h;split at h
 · rename_i k a k' b;split at h<;>simp at h
   subst h;rename_i hb;simp[hg,binOp,Op.shift,Int.not_lt.2 hb]
 · rename_i k a k' b;split at h<;>simp at h
   subst h;rename_i hb;simp[hg,binOp,Op.shift,Int.not_lt.2 hb]
 · rename_i u0 k a k' b h1 h2;split at h
   · rename_i hk;subst hk
     have hb:∀(o:BinOp),o≠.shl→o≠.shr→binOp o t (.int k a) (.int k b)=(match o with
       |.add|.sub|.mul=>Op.intArith o k a b
       |.quo|.rem=>Op.intDiv o k a b
       |.and|.or|.xor|.andNot=>Op.intBits o k a b
       |_=>Op.intCmp o a b):=by
      intro o e1 e2;cases o<;>first|exact absurd rfl e1|exact absurd rfl e2|simp[binOp]
     cases op<;>simp at h<;>first
      |(subst h;simp[hg,hb,Op.intArith,Op.intBits,Op.intCmp];done)
      |(split at h<;>simp at h;subst h;rename_i h0;simp[hg,hb,Op.intDiv,h0];done)
      |(obtain⟨h0,rfl⟩:=h;simp[hg,hb,Op.intDiv,h0];done)
   · cases h
 · rename_i u0 k a k' b h1 h2;split at h
   · rename_i hk;subst hk;cases op<;>simp at h<;>subst h<;>simp[hg,binOp,Op.floatCmp]
   · cases h
 · rename_i u0 a b;cases op
   case add =>
    simp only at h;split at h
    · rename_i h0;simp only[Option.some.injEq]at h;subst h
      have h1:¬(((a.size+b.size:Nat):Int)>IntKind.i64.max):=by
       have e:IntKind.i64.max=9223372036854775807:=by decide
       omega
      have h2:(Op.stringOp .add a b).run P w=.ok (.string (a++b)) w:=by
       unfold Op.stringOp;simp only;rw[if_neg h1];rfl
      rw[Sem.run_bind,hg _ _ (by simp) (by simp)]
      simp only[Result.andThen,binOp];exact h2
    · cases h
   all_goals (simp at h<;>subst h<;>simp[hg,binOp,Op.stringOp])
 · rename_i a b;simp at h;subst h;have hu:=ht a b rfl rfl
   have he:(Op.equal t (.bool a) (.bool b)).run P w=.ok (a==b) w:=by
    unfold Op.equal Op.maxDepth Op.equalIn;simp[z04 hu]
   rw[Sem.run_bind,hg _ _ (by simp) (by simp)]
   simp only[Result.andThen,binOp,Sem.run_bind,he,Sem.run_pure]
 · rename_i a b;simp at h;subst h;have hu:=ht a b rfl rfl
   have he:(Op.equal t (.bool a) (.bool b)).run P w=.ok (a==b) w:=by
    unfold Op.equal Op.maxDepth Op.equalIn;simp[z04 hu]
   rw[Sem.run_bind,hg _ _ (by simp) (by simp)]
   simp only[Result.andThen,binOp,Sem.run_bind,he,Sem.run_pure]
 · cases h
theorem zez {op:UnOp} {u r:Value} (h:unF op u=some r):(Op.unary op u).run P w=.ok r w:=by
 unfold unF at h;split at h<;>simp at h<;>subst h<;>simp[Op.unary,Op.intArith,Op.intBits]
end
section
variable {P:Program} {M:Nat→Prop} {σ:St} {ν:Nat→Value} {w:World} {R:Ref→Value→Prop}
theorem z25 (b o j:Nat):Addr.add ⟨b,o,none⟩ j=⟨b,o+j,none⟩:=by unfold Addr.add;split<;>simp_all
theorem z81 {a:AV} {v:Value} {t:Bool} (h:boolA a=some t) (hr:Rep M R w a v):v=.bool t:=by
 unfold boolA at h;split at h<;>simp at h;subst h;exact hr.pl_inv
theorem z1Q {a:AV} {v:Value} {n:Int} (h:intA a=some n) (hr:Rep M R w a v):∃k,v=.int k n:=by
 unfold intA at h;split at h<;>simp at h;subst h;exact⟨_,hr.pl_inv⟩
theorem Rep.rp_inv {cs:List AV} {v:Value} (h:Rep M R w (.rp cs) v):∃(b o:Nat) (f:Nat→Value),v=.pointer (some ⟨b,o,none⟩) ∧
  (∀j,j<cs.length→¬M b∧w.cell? ⟨b,o+j,none⟩=some (f j))∧∀j (hj:j<cs.length),Rep M R w (cs[j]) (f j):=by
 cases h with
 |rp cs b o f hc hr=>exact⟨b,o,f,rfl,hc,hr⟩
theorem Rep.rp_drop {cs:List AV} {b o:Nat} (n:Nat) (h:Rep M R w (.rp cs) (.pointer (some ⟨b,o,none⟩))):Rep M R w (.rp (cs.drop n)) (.pointer (some ⟨b,o+n,none⟩)):=by
 obtain⟨b',o',f,e,hc,hr⟩:=h.rp_inv;simp at e;obtain⟨rfl,rfl⟩:=e;refine .rp _ _ _ (fun j=>f (n+j)) (fun j hj=>?_) (fun j hj=>?_)
 · have:=hc (n+j) (by simp at hj;omega)
   rw[Nat.add_assoc];exact this
 · rw[List.getElem_drop];exact hr (n+j) _
theorem z3Y {s:TypeId} {f:Nat} {fs:Array Field} {fd:Field} {n b o:Nat} (hu:P.underlying s=some (.struct fs)) (hf:fs[f]?=some fd) (hn:szOf P fd.type=some n) (h0:n≠0) :
  (Instr.fieldAt s (.pointer (some ⟨b,o,none⟩)) f).run P w=.ok (.pointer (some ⟨b,o+fd.offset,none⟩)) w:=by
 simp[Instr.fieldAt,z04 hu,hf,Instr.sureAddr,fieldPlace,z0p hn,h0,z25]
theorem Rep.nils_inv {v:Value} (h:Rep M R w .nils v):v=.slice none 0 0:=by cases h;rfl
theorem Rep.zsl_inv {v:Value} (h:Rep M R w .zsl v):∃a,v=.slice a 0 0:=by cases h;exact⟨_,rfl⟩
theorem Rep.win_inv {sz l n lo:Nat} {v:Value} (h:Rep M R w (.win sz l n lo) v):lo<n∧∃b o cap,v=.slice (some ⟨b,o+lo*sz,none⟩) (n-lo) (cap-lo)∧R (.s l n) (.slice (some ⟨b,o,none⟩) n cap):=by
 cases h with
 |win sz l n lo b o cap hl h=>exact⟨hl,b,o,cap,rfl,h⟩
theorem Rep.psl_inv {l off n:Nat} {v:Value} (h:Rep M R w (.psl l off n) v):∃b o,v=.slice (some ⟨b,o+off,none⟩) n n∧R (.p l) (.pointer (some ⟨b,o,none⟩)):=by
 cases h with
 |psl l off n b o h=>exact⟨b,o,rfl,h⟩
theorem Rep.ptr_inv {l off:Nat} {v:Value} (h:Rep M R w (.ptr l off) v):∃b o,v=.pointer (some ⟨b,o+off,none⟩)∧R (.p l) (.pointer (some ⟨b,o,none⟩)):=by
 cases h with
 |ptr l off b o h=>exact⟨b,o,rfl,h⟩
theorem Rep.ep_inv {l n i off:Nat} {v:Value} (h:Rep M R w (.ep l n i off) v):∃b o,v=.pointer (some ⟨b,o+off,none⟩)∧R (.e l n i) (.pointer (some ⟨b,o,none⟩)):=by
 cases h with
 |ep l n i off b o h=>exact⟨b,o,rfl,h⟩
theorem Rep.osl_inv {l n:Nat} {v:Value} (h:Rep M R w (.osl l n) v):∃a len cap,v=.slice a len cap∧R (.s l n) (.slice a len cap):=by
 cases h with
 |osl l n a len cap h=>exact⟨a,len,cap,rfl,h⟩
theorem Rep.sl_inv {sz:Nat} {xs:List AV} {v:Value} (h:Rep M R w (.sl sz xs) v):∃a cap,v=.slice a xs.length cap∧xs.length≤cap∧(xs=[]∨∃(b o:Nat) (f:Nat→Nat→Value),a=some ⟨b,o,none⟩ ∧
  (∀i j (hi:i<xs.length),j<(xs[i]).cells.length→j<sz∧¬M b∧w.cell? ⟨b,o+(i*sz+j),none⟩=some (f i j)) ∧
  (∀i j (hi:i<xs.length) (hj:j<(xs[i]).cells.length),Rep M R w ((xs[i]).cells[j]) (f i j))):=by
 cases h with
 |sl0 sz a cap=>exact⟨a,cap,rfl,Nat.zero_le _,.inl rfl⟩
 |sl sz xs b o cap f hcap hc hr=>exact⟨_,cap,rfl,hcap,.inr ⟨b,o,f,rfl,hc,hr⟩⟩
theorem z5x {t elem:TypeId} {n:Nat} {k:IntKind} {i:Int} {b o len cap:Nat} (hu:P.underlying t=some (.slice elem)) (hn:szOf P elem=some n) (h0:0≤i) (h1:i<len) :
  (Instr.indexAt t (.slice (some ⟨b,o,none⟩) len cap) (.int k i)).run P w=.ok (.pointer (some ⟨b,o+i.toNat*n,none⟩)) w:=by
 simp[Instr.indexAt,asIntOf,z04 hu,h0,h1,z0p hn,z25]
theorem z2H {t elem:TypeId} {n:Nat} {k:IntKind} {i:Int} {b o len:Nat} (hu:P.underlying t=some (.array len elem)) (hn:szOf P elem=some n) (h0:0≤i) (h1:i<len) :
  (Instr.indexAt t (.pointer (some ⟨b,o,none⟩)) (.int k i)).run P w=.ok (.pointer (some ⟨b,o+i.toNat*n,none⟩)) w:=by
 simp[Instr.indexAt,asIntOf,z04 hu,h0,h1,z0p hn,z25,Instr.sureAddr]
theorem za8 {t:TypeId} {n off:Nat} {ag:Bool} {cs:List AV} {vs:List Value} {r:AV} (g:Good M σ ν w) (hn:szOf P t=some n) (ha:agOf P t=some ag)
  (hr:Reps M (RefOK σ ν) w cs vs) (h:ldc n ag (cs.drop off)=some r):Yields P (part t vs.toArray off) M σ ν w r σ:=by
 rcases z6B (hr.drop off) h with⟨rfl,hl,hrep⟩|⟨rfl,v,h0,hrep⟩
 · refine .same g (v:=.agg ((vs.drop off).take n).toArray) ?_ hrep;simp[part,z4G ha,z0p hn,List.extract_eq_take_drop]
 · refine .same g (v:=v) ?_ hrep;have e:vs[off]?=some v:=by simpa using h0
   simp[part,z4G ha,e]
theorem z2Z (w:World) (o:Obj):(w.alloc o).heap[w.heap.size]?=some o:=heap_alloc_new w o
theorem z6C (g:Good M σ ν w) (e:TypeId) (c:Array Value):Good M σ ν (w.alloc (.cells c e))∧Later M σ ν w M σ ν (w.alloc (.cells c e))∧¬M w.heap.size ∧
  ∀j,(w.alloc (.cells c e)).cell? ⟨w.heap.size,j,none⟩=c[j]?:=by
 have hk:∀b,b<w.heap.size→(w.alloc (.cells c e)).heap[b]?=w.heap[b]?:=fun b hb=>heap_alloc_old w _ b hb
 refine⟨g.grow (by simp) hk,.grow (by simp) hk,fun h=>absurd (g.lt _ h) (Nat.lt_irrefl _),fun j=>?_⟩
 exact cell_of_row _ _ _ _ _ _ (z2Z w _)
theorem zch {t:TypeId} {v:Value}:(Instr.box t v).run P w=.ok (.pointer (some ⟨w.heap.size,0,none⟩)) (w.alloc (.cells v.cells t)):=by
 simp only[Instr.box,newVar,newRow,Sem.run_bind,run_newObj,Result.andThen,Sem.run_pure,World.alloc_eq]
theorem z98 {t:TypeId} {v:Value} {a:AV} (g:Good M σ ν w) (hr:Rep M (RefOK σ ν) w a v) (ho:a.okc=true):Yields P (Instr.box t v) M σ ν w (.rp a.cells) σ:=by
 obtain⟨g',hl,hm,hc⟩:=z6C g t v.cells;have y0:=hl.reps g (hr.okc_cells ho);refine⟨_,_,M,ν,zch,g',hl,.rp _ _ _ (fun j=>v.cells[j]?.getD undef) (fun j hj=>⟨hm,?_⟩) (fun j hj=>?_)⟩
 · have u0:j<v.cells.size:=y0.1.trans Array.length_toList▸hj;rw[Nat.zero_add,hc];simp[u0]
 · have u0:j<v.cells.size:=y0.1.trans Array.length_toList▸hj;have:=y0.2 j hj (by simpa using u0)
   simpa[u0] using this
theorem zbh (cs:List Value):∀(off:Nat) (z:Array Value),off+cs.length≤z.size →
  ((cs.zipIdx.foldl (fun(a:Array Value) (x:Value×Nat)=>a.setIfInBounds (off+x.2) x.1) z)).toList=z0s z.toList off cs:=by
 have key:∀(cs:List Value) (k off:Nat) (z:Array Value),off+k+cs.length≤z.size →
   ((cs.zipIdx k).foldl (fun(a:Array Value) (x:Value×Nat)=>a.setIfInBounds (off+x.2) x.1) z).toList=z0s z.toList (off+k) cs:=by
  intro cs
  induction cs with
  |nil=>intro k off z h;simp[z0s]
  |cons c cs ih =>
   intro k off z h;simp only[List.zipIdx_cons,List.foldl_cons];rw[ih (k+1) off _ (by simp at h⊢;omega)]
   simp only[Array.toList_setIfInBounds,z0s,List.length_cons];apply List.ext_getElem?;intro i;simp only[List.length_cons,←Nat.add_assoc]at h;have hz:off+k<z.toList.length:=by simp;omega
   simp only[List.append_assoc,List.getElem?_append,List.length_take,List.length_set,List.getElem?_take,List.getElem?_set,List.getElem?_drop,List.length_cons];rw[Nat.min_eq_left (by omega),Nat.min_eq_left (by omega)]
   by_cases h1:i<off+k
   · simp[h1,show i<off+(k+1) by omega,show ¬off+k=i by omega]
   · by_cases h2:i=off+k
     · subst h2;simp[show off+k<off+(k+1) by omega];simpa using hz
     · have h3:¬i<off+(k+1):=by omega
       simp only[h1,h3,if_false];by_cases h4:i-(off+(k+1))<cs.length
       · rw[if_pos h4,if_pos (by omega)]
         rw[show i-(off+k)=(i-(off+(k+1)))+1 by omega];simp
       · rw[if_neg h4,if_neg (by omega),if_neg (by omega)]
         congr 1;omega
 intro off z h;simpa using key cs 0 off z (by simpa using h)
theorem Reps.splice {cs:List AV} {us:List Value} {xs:List AV} {vs:List Value} (h:Reps M R w cs us) (h':Reps M R w xs vs) (k:Nat) :
  Reps M R w (z0s cs k xs) (z0s us k vs):=by
 unfold z0s;rw[h'.1];exact((h.take k).append h').append (h.drop _)
def z27 (M:Nat→Prop) (R:Ref→Value→Prop) (w:World) (ρ:Operand→AV) (ρ':Operand→Value):Prop:=∀x,Rep M R w (ρ x) (ρ' x)
theorem z99 {ρ:Operand→AV} {ρ':Operand→Value} (hρ:z27 M R w ρ ρ') (place:Nat→Option (Nat×Nat)):∀(ps:List (Nat×Operand)) (qs:List Part) (z z':List AV) (zs:Array Value),
  (ps.map fun p=>(place p.1).map fun q=>(q.1,q.2,p.2))=qs.map some→Reps M R w z zs.toList→fillA ρ z qs=some z' →
  ∃cs:Array Value,Instr.fill place zs (ps.map fun p=>(p.1,ρ' p.2))=some cs∧Reps M R w z' cs.toList:=by
 intro ps
 induction ps with
 |nil =>
  intro qs z z' zs hp hz hf
  cases qs with
  |nil=>simp[fillA]at hf;subst hf;exact⟨zs,by simp[Instr.fill],hz⟩
  |cons q qs=>simp at hp
 |cons p ps ih =>
  intro qs z z' zs hp hz hf
  cases qs with
  |nil=>simp at hp
  |cons q qs =>
   obtain⟨off,size,x⟩:=q;obtain⟨i,y⟩:=p;simp only[List.map_cons,List.cons.injEq]at hp;obtain⟨h1,h2⟩:=hp
   cases hpl:place i with
   |none=>simp[hpl]at h1
   |some q =>
    simp[hpl]at h1;obtain⟨y0,h1b,rfl⟩:=h1;simp only[fillA]at hf;split at hf
    · rename_i hc;obtain⟨c1,c2,c3⟩:=hc;have hx:=(hρ y).okc_cells c1;have hlen:(ρ' y).cells.size=size:=(hx.1.trans Array.length_toList).symm.trans c2;have hzl:z.length=zs.size:=by have:=hz.1;simpa using this
      have u0:¬((ρ' y).cells.size≠q.2∨q.1+(ρ' y).cells.size>zs.size):=by omega
      simp only[List.map_cons,Instr.fill,hpl];rw[if_neg (by simpa using u0)]
      refine ih qs _ _ _ h2 ?_ hf;have e:=zbh (ρ' y).cells.toList off zs (by simp;omega)
      have e2:(Array.foldl (fun cs x=>cs.setIfInBounds (q.1+x.2) x.1) zs (ρ' y).cells.zipIdx).toList=z0s zs.toList off (ρ' y).cells.toList:=by
       rw[←e,y0,←Array.foldl_toList];simp
      have e3:=hz.splice hx off;rw[←e2]at e3;simpa using e3
    · cases hf
end
section
variable {P:Program} {M M':Nat→Prop} {σ σ':St} {ν ν':Nat→Value} {w w':World} {R:Ref→Value→Prop}
theorem z0A {l k:Nat} (h:k≠l) (o:Ob):(σ.set l o)[k]?=σ[k]?:=by
 rw[List.getElem?_set];simp[Ne.symm h]
theorem z0m {l:Nat} {o0:Ob} (h:σ[l]?=some o0) (o:Ob):(σ.set l o)[l]?=some o:=by
 rw[List.getElem?_set];simp[(List.getElem?_eq_some_iff.1 h).1]
theorem Good.update (g:Good M σ ν w) {l:Nat} {o0:Ob} (hl:σ[l]?=some o0) (hd:o0≠.dead) (o':Ob)
  (hν:∀k,k≠l→ν' k=ν k) (hsz:w.heap.size≤w'.heap.size)
  (hkeep:∀b,b<w.heap.size→blk (ν l)≠some b→w'.heap[b]?=w.heap[b]?)
  (mM:∀b,b<w.heap.size→M' b→M b) (kM:∀b,M b→blk (ν l)≠some b→M' b) (ltM:∀b,M' b→b<w'.heap.size)
  (hb':o'≠.dead→∀b,blk (ν' l)=some b→blk (ν l)=some b∨w.heap.size≤b)
  (evo:∀r v,RefOK σ ν r v→RefOK (σ.set l o') ν' r v)
  (ob:ObOK M' (RefOK (σ.set l o') ν') w' o' (ν' l)) (out:w'.os=w.os∧w'.output=w.output:=by exact⟨rfl,rfl⟩) :
  Good M' (σ.set l o') ν' w'∧Later M σ ν w M' (σ.set l o') ν' w':=by
 have u0:live σ l:=⟨o0,hl,hd⟩
 have q0:∀b,b<w.heap.size→¬M b→¬M' b∧w'.heap[b]?=w.heap[b]?:=fun b hb hm =>
  ⟨fun x=>hm (mM b hb x),hkeep b hb fun e=>hm (g.M_of_own ⟨l,u0,e⟩)⟩
 have hold:∀k,k≠l→live (σ.set l o') k→live σ k:=fun k hk ⟨o,ho,y0⟩=>⟨o,by rwa [z0A hk]at ho,y0⟩
 refine⟨⟨?_,ltM,?_⟩,⟨hsz,?_,mM,?_,?_,evo,out⟩⟩
 · intro k o ho;by_cases hk:k=l
   · subst hk;rw[z0m hl]at ho;simp at ho;subst ho;exact ob
   · rw[z0A hk]at ho;rw[hν k hk];refine(g.ob k o ho).mono q0 evo fun b hb y0 hm=>?_
     have k0:blk (ν l)≠some b:=fun e=>hk (g.apart k l b ⟨o,ho,y0⟩ u0 hb e)
     exact⟨kM b hm k0,hkeep b ((g.ob k o ho).lt y0 hb) k0⟩
 · intro k k' b h1 h2 e1 e2;by_cases hk:k=l<;>by_cases hk':k'=l
   · rw[hk,hk']
   · subst hk;have m0:=hold k' hk' h2;rw[hν k' hk']at e2;have y0:o'≠.dead:=by obtain⟨o,ho,y0⟩:=h1;rw[z0m hl]at ho;simp at ho;subst ho;exact y0
     rcases hb' y0 b e1 with e|e
     · exact g.apart k k' b u0 m0 e e2
     · exact absurd (g.own_lt ⟨k',m0,e2⟩) (Nat.not_lt.2 e)
   · subst hk';have n0:=hold k hk h1;rw[hν k hk]at e1;have y0:o'≠.dead:=by obtain⟨o,ho,y0⟩:=h2;rw[z0m hl]at ho;simp at ho;subst ho;exact y0
     rcases hb' y0 b e2 with e|e
     · exact g.apart k k' b n0 u0 e1 e
     · exact absurd (g.own_lt ⟨k,n0,e1⟩) (Nat.not_lt.2 e)
   · rw[hν k hk]at e1;rw[hν k' hk']at e2;exact g.apart k k' b (hold k hk h1) (hold k' hk' h2) e1 e2
 · intro b hb j0;exact hkeep b hb fun e=>j0 ⟨l,u0,e⟩
 · intro b hb hm j0;exact kM b hm fun e=>j0 ⟨l,u0,e⟩
 · rintro b hb ⟨k,hk,e⟩;by_cases hkl:k=l
   · subst hkl;have y0:o'≠.dead:=by obtain⟨o,ho,y0⟩:=hk;rw[z0m hl]at ho;simp at ho;subst ho;exact y0
     rcases hb' y0 b e with e|e
     · exact⟨k,u0,e⟩
     · exact absurd hb (Nat.not_lt.2 e)
   · rw[hν k hkl]at e;exact⟨k,hold k hkl hk,e⟩
theorem RefOK.ext (h:∀l o,σ[l]?=some o→σ'[l]?=some o∧ν' l=ν l) {r:Ref} {v:Value} (hr:RefOK σ ν r v):RefOK σ' ν' r v:=by
 cases r with
 |p l =>
  simp only[RefOK]at hr⊢
  cases ho:σ[l]? with
  |none=>simp[ho]at hr
  |some o'=>obtain⟨x,y⟩:=h l o' ho;rw[ho]at hr;rw[x,y];exact hr
 |s l n =>
  simp only[RefOK]at hr⊢
  cases ho:σ[l]? with
  |none=>simp[ho]at hr
  |some o'=>obtain⟨x,y⟩:=h l o' ho;rw[ho]at hr;rw[x,y];exact hr
 |e l n i =>
  simp only[RefOK]at hr⊢
  cases ho:σ[l]? with
  |none=>simp[ho]at hr
  |some o'=>obtain⟨x,y⟩:=h l o' ho;rw[ho]at hr;rw[x,y];exact hr
theorem Good.new (g:Good M σ ν w) (o:Ob) (v:Value) (e:TypeId) (c:Array Value)
  (hb:blk v=some w.heap.size)
  (ob:∀M' ν' w',(∀b,b<w.heap.size→¬M b→¬M' b∧w'.heap[b]?=w.heap[b]?)→(∀r v,RefOK σ ν r v→RefOK (σ++[o]) ν' r v)→M' w.heap.size →
   w'.heap[w.heap.size]?=some (.cells c e)→ObOK M' (RefOK (σ++[o]) ν') w' o v) :
  ∃M' ν',Good M' (σ++[o]) ν' (w.alloc (.cells c e))∧Later M σ ν w M' (σ++[o]) ν' (w.alloc (.cells c e))∧ν' σ.length=v:=by
 let M':Nat→Prop:=fun b=>M b∨b=w.heap.size
 let ν':Nat→Value:=fun k=>if k=σ.length then v else ν k
 have y0:ν' σ.length=v:=by simp[ν']
 have k0:∀k,k<σ.length→ν' k=ν k:=fun k hk=>by simp[ν',Nat.ne_of_lt hk]
 have q0:∀b,b<w.heap.size→(w.alloc (.cells c e)).heap[b]?=w.heap[b]?:=fun b hb=>heap_alloc_old w _ b hb
 have m0:∀k o',σ[k]?=some o'→(σ++[o])[k]?=some o'∧k<σ.length:=fun k o' h=>by
  have hk:=(List.getElem?_eq_some_iff.1 h).1;exact⟨by rw[List.getElem?_append_left hk];exact h,hk⟩
 have r0:∀r v,RefOK σ ν r v→RefOK (σ++[o]) ν' r v:=fun r v h=>RefOK.ext (fun k o' hk=>⟨(m0 k o' hk).1,k0 k (m0 k o' hk).2⟩) h
 have j0:∀b,b<w.heap.size→¬M b→¬M' b∧(w.alloc (.cells c e)).heap[b]?=w.heap[b]?:=fun b hb hm =>
  ⟨fun x=>x.elim hm (fun e=>absurd hb (by simp[e])),q0 b hb⟩
 have u0:∀k,k<σ.length→live (σ++[o]) k→live σ k:=fun k hk ⟨o',ho,t0⟩=>⟨o',by rwa [List.getElem?_append_left hk]at ho,t0⟩
 have n0:∀k,live (σ++[o]) k→k<σ.length∨k=σ.length:=fun k ⟨o',ho,_⟩=>by
  have:=(List.getElem?_eq_some_iff.1 ho).1;simp at this;omega
 refine⟨M',ν',⟨?_,?_,?_⟩,⟨by simp,fun b hb _=>q0 b hb,fun b hb x=>x.elim id (fun e=>absurd hb (by simp[e])),fun b _ x _=>.inl x,?_,r0,rfl,rfl⟩,y0⟩
 · intro k o' ho;by_cases hk:k<σ.length
   · rw[List.getElem?_append_left hk]at ho;rw[k0 k hk];exact(g.ob k o' ho).mono j0 r0 fun b d0 t0 hm=>⟨.inl hm,q0 b ((g.ob k o' ho).lt t0 d0)⟩
   · have e0:k=σ.length:=by
      have:=(List.getElem?_eq_some_iff.1 ho).1;simp at this;omega
     subst e0;simp at ho;subst ho;rw[y0];exact ob M' ν' _ j0 r0 (.inr rfl) (z2Z w _)
 · intro b hb;rcases hb with hb|hb
   · have:=g.lt b hb;simp;omega
   · simp[hb]
 · intro k k' b h1 h2 e1 e2;rcases n0 k h1 with hk|hk<;>rcases n0 k' h2 with hk'|hk'
   · rw[k0 k hk]at e1;rw[k0 k' hk']at e2;exact g.apart k k' b (u0 k hk h1) (u0 k' hk' h2) e1 e2
   · rw[k0 k hk]at e1;subst hk';rw[y0,hb]at e2;have:=g.own_lt ⟨k,u0 k hk h1,e1⟩;simp at e2;omega
   · rw[k0 k' hk']at e2;subst hk;rw[y0,hb]at e1;have:=g.own_lt ⟨k',u0 k' hk' h2,e2⟩;simp at e1;omega
   · omega
 · rintro b d0 ⟨k,hk,e'⟩;rcases n0 k hk with h|h
   · rw[k0 k h]at e';exact⟨k,u0 k h hk,e'⟩
   · subst h;rw[y0,hb]at e';simp at e';omega
theorem Good.newBox (g:Good M σ ν w) (cs:List AV) (e:TypeId) (c:Array Value) (hr:Reps M (RefOK σ ν) w cs c.toList) :
  ∃M' ν',Good M' (σ++[.box cs]) ν' (w.alloc (.cells c e))∧Later M σ ν w M' (σ++[.box cs]) ν' (w.alloc (.cells c e)) ∧
   Rep M' (RefOK (σ++[.box cs]) ν') (w.alloc (.cells c e)) (.ptr σ.length 0) (.pointer (some ⟨w.heap.size,0,none⟩)):=by
 have hsz:cs.length=c.size:=hr.1.trans Array.length_toList
 obtain⟨M',ν',g',l',hn⟩:=g.new (.box cs) (.pointer (some ⟨w.heap.size,0,none⟩)) e c rfl (fun M' ν' w' h1 h2 h3 h4 =>
  .box cs _ 0 c e (0,0) h3 h4 (by omega) (fun j _=>by simp) (fun j hj v hv=>by
   obtain⟨u,hu,u0⟩:=hr.get (j:=j) (x:=cs[j]) (by simp[hj])
   have:v=u:=by rw[Nat.zero_add]at hv;rw[Array.getElem?_toList]at hu;rw[hu]at hv;simpa using hv.symm
   subst this
   exact u0.mono h1 h2))
 refine⟨M',ν',g',l',?_⟩;have:=Rep.ptr (M:=M') (R:=RefOK (σ++[.box cs]) ν') (w:=w.alloc (.cells c e)) σ.length 0 w.heap.size 0 (by simp[RefOK,hn])
 simpa using this
def Elems (M:Nat→Prop) (R:Ref→Value→Prop) (w:World) (sz:Nat) (xs:List AV) (vs:List Value):Prop :=
 ∀i j (hi:i<xs.length) (hj:j<(xs[i]).cells.length),j<sz∧∀v,vs[i*sz+j]?=some v→Rep M R w ((xs[i]).cells[j]) v
theorem Elems.mono {xs:List AV} {vs:List Value} {sz:Nat} {R':Ref→Value→Prop} (h1:∀b,b<w.heap.size→¬M b→¬M' b∧w'.heap[b]?=w.heap[b]?) (h2:∀r v,R r v→R' r v)
  (h:Elems M R w sz xs vs):Elems M' R' w' sz xs vs:=fun i j hi hj=>⟨(h i j hi hj).1,fun v hv=>((h i j hi hj).2 v hv).mono h1 h2⟩
theorem Good.newRow (g:Good M σ ν w) (sz:Nat) (xs:List AV) (e:TypeId) (c:Array Value) (cap:Nat) (hl:xs.length≤cap) (hs:cap*sz≤c.size)
  (hr:Elems M (RefOK σ ν) w sz xs c.toList) :
  ∃M' ν',Good M' (σ++[.row sz xs]) ν' (w.alloc (.cells c e))∧Later M σ ν w M' (σ++[.row sz xs]) ν' (w.alloc (.cells c e)) ∧
   Rep M' (RefOK (σ++[.row sz xs]) ν') (w.alloc (.cells c e)) (.osl σ.length xs.length) (.slice (some ⟨w.heap.size,0,none⟩) xs.length cap):=by
 obtain⟨M',ν',g',l',hn⟩:=g.new (.row sz xs) (.slice (some ⟨w.heap.size,0,none⟩) xs.length cap) e c rfl (fun M' ν' w' h1 h2 h3 h4 =>
  .row sz xs _ 0 cap c e (0,0) h3 h4 hl (by omega) (fun j _=>by simp) (fun i j hi hj=>⟨(hr i j hi hj).1,fun v hv =>
   ((hr i j hi hj).2 v (by simpa using hv)).mono h1 h2⟩))
 refine⟨M',ν',g',l',.osl _ _ _ _ _ ?_⟩;simp[RefOK,hn]
def putRow (w:World) (b:Nat) (c:Array Value) (e:TypeId) (fr:Nat×Nat):World:={ w with heap:=w.heap.setIfInBounds b (.cells c e fr) }
@[simp] theorem size_putRow (b:Nat) (c:Array Value) (e:TypeId) (fr:Nat×Nat):(putRow w b c e fr).heap.size=w.heap.size:=by simp[putRow]
theorem z14 {b:Nat} {x:Obj} (h:w.heap[b]?=some x) (c:Array Value) (e:TypeId) (fr:Nat×Nat):(putRow w b c e fr).heap[b]?=some (.cells c e fr):=by
 have:=(Array.getElem?_eq_some_iff.1 h).1;simp[putRow,this]
theorem z13 {b k:Nat} (h:b≠k) (c:Array Value) (e:TypeId) (fr:Nat×Nat):(putRow w b c e fr).heap[k]?=w.heap[k]?:=by
 simp[putRow,Array.getElem?_setIfInBounds_ne h]
theorem putRow_putRow (b:Nat) (c c':Array Value) (e e':TypeId) (fr fr':Nat×Nat):putRow (putRow w b c e fr) b c' e' fr'=putRow w b c' e' fr':=by
 simp[putRow]
theorem putRow_self {b:Nat} {c:Array Value} {e:TypeId} {fr:Nat×Nat} (h:w.heap[b]?=some (.cells c e fr)):putRow w b c e fr=w:=by
 obtain⟨hb,hh⟩:=Array.getElem?_eq_some_iff.1 h;simp only[putRow]
 have:w.heap.setIfInBounds b (.cells c e fr)=w.heap:=by
  apply Array.ext_getElem?;intro i;rw[Array.getElem?_setIfInBounds];by_cases hi:b=i
  · subst hi;simp[hb,hh]
  · simp[hi]
 rw[this]
theorem z9a {b o:Nat} {c:Array Value} {e:TypeId} {fr:Nat×Nat} (h:w.heap[b]?=some (.cells c e fr)) (v:Value) :
  w.setCell ⟨b,o,none⟩ v=putRow w b (c.setIfInBounds o v) e fr:=by
 obtain⟨hb,hh⟩:=Array.getElem?_eq_some_iff.1 h;unfold World.setCell putRow;congr 1
 apply Array.ext_getElem?;intro i;rw[Array.getElem?_setIfInBounds,Array.getElem?_modify];by_cases hi:b=i
 · subst hi;simp[hb,hh]
 · simp[hi]
theorem z15 (b o:Nat) (e:TypeId) (fr:Nat×Nat):∀(vs:List Value) (i:Nat) (c:Array Value) (w:World),w.heap[b]?=some (.cells c e fr) →
  o+i+vs.length≤c.size→(∀v∈vs,v.oneCell'=true)→(∀j,j<vs.length→¬(fr.1≤o+i+j∧o+i+j<fr.2)) →
  ∃c',(storeCells ⟨b,o,none⟩ vs i).run P w=.ok () (putRow w b c' e fr)∧c'.toList=z0s c.toList (o+i) vs:=by
 intro vs
 induction vs with
 |nil =>
  intro i c w h hs _ _;exact⟨c,by simp[storeCells,putRow_self h],by simp[z0s]⟩
 |cons v vs ih =>
  intro i c w h hs ho hf;simp only[List.length_cons]at hs;have h1:=ho v (by simp)
  have hc:w.cell? ⟨b,o+i,none⟩=some (c[o+i]'(by omega)):=by
   rw[cell_of_row _ _ _ _ _ _ h];simp[show o+i<c.size by omega]
  have u0:w.frozen? ⟨b,o+i,none⟩=false:=by
   have:=hf 0 (by simp)
   unfold World.frozen?;simp only[h];simp only[Nat.add_zero]at this;simpa[Nat.not_le,Nat.not_lt] using this
  have h':=z14 h (c.setIfInBounds (o+i) v) e fr
  obtain⟨c',hr,hl⟩:=ih (i+1) (c.setIfInBounds (o+i) v) (putRow w b (c.setIfInBounds (o+i) v) e fr) h' (by simp;omega) (fun u hu=>ho u (by simp[hu]))
   (fun j hj=>by have:=hf (j+1) (by simpa using hj);rw[show o+(i+1)+j=o+i+(j+1) by omega];exact this)
  refine⟨c',?_,?_⟩
  · simp only[storeCells,z25,Sem.run_bind,run_store P w _ v .plain h1,hc,u0,Bool.false_eq_true,if_false,Result.andThen,z9a h,hr,putRow_putRow]
  · rw[hl];have hz:o+i<c.toList.length:=by simp;omega
    simp only[Array.toList_setIfInBounds,z0s,List.length_cons];apply List.ext_getElem?;intro k;simp only[List.append_assoc,List.getElem?_append,List.length_take,List.length_set,List.getElem?_take,List.getElem?_set,List.getElem?_drop,List.length_cons];have hz2:o+i+1≤c.toList.length:=hz;rw[Nat.min_eq_left (by omega),Nat.min_eq_left (by omega)]
    by_cases q1:k<o+i
    · simp[q1,show k<o+(i+1) by omega,show ¬o+i=k by omega]
    · by_cases q2:k=o+i
      · subst q2;simp[show o+i<o+(i+1) by omega];simpa using hz
      · have q3:¬k<o+(i+1):=by omega
        simp only[q1,q3,if_false];by_cases q4:k-(o+(i+1))<vs.length
        · rw[if_pos q4,if_pos (by omega)]
          rw[show k-(o+i)=(k-(o+(i+1)))+1 by omega];simp
        · rw[if_neg q4,if_neg (by omega),if_neg (by omega)]
          congr 1;omega
end
section
variable {P:Program} {M M':Nat→Prop} {σ σ':St} {ν ν':Nat→Value} {w w':World} {R:Ref→Value→Prop}
theorem RefOK.p_box {l:Nat} {cs:List AV} {v:Value} (hs:σ[l]?=some (.box cs)) (h:RefOK σ ν (.p l) v):v=ν l:=by
 simp only[RefOK,hs]at h;exact h
theorem RefOK.s_row {l n sz:Nat} {xs:List AV} {v:Value} (hs:σ[l]?=some (.row sz xs)) (h:RefOK σ ν (.s l n) v) (hn:n=xs.length):v=ν l:=by
 simp only[RefOK,hs]at h;exact h.2 hn
theorem RefOK.e_row {l n i sz:Nat} {xs:List AV} {v:Value} (hs:σ[l]?=some (.row sz xs)) (h:RefOK σ ν (.e l n i) v) (hn:n=xs.length) :
  ∃b o len cap,ν l=.slice (some ⟨b,o,none⟩) len cap∧v=.pointer (some ⟨b,o+i*sz,none⟩):=by
 simp only[RefOK,hs]at h;exact h.2 hn
theorem ObOK.box_inv {cs:List AV} {v:Value} (h:ObOK M R w (.box cs) v):∃(b o:Nat) (c:Array Value) (e:TypeId) (fr:Nat×Nat),v=.pointer (some ⟨b,o,none⟩)∧M b∧w.heap[b]?=some (.cells c e fr) ∧
  o+cs.length≤c.size∧(∀j,j<cs.length→¬(fr.1≤o+j∧o+j<fr.2))∧∀j (hj:j<cs.length) v,c[o+j]?=some v→Rep M R w (cs[j]) v:=by
 cases h with
 |box cs b o c e fr h1 h2 h3 h4 h5=>exact⟨b,o,c,e,fr,rfl,h1,h2,h3,h4,h5⟩
theorem ObOK.row_inv {sz:Nat} {xs:List AV} {v:Value} (h:ObOK M R w (.row sz xs) v):(v=.slice none 0 0∧xs=[])∨∃(b o cap:Nat) (c:Array Value) (e:TypeId) (fr:Nat×Nat),
  v=.slice (some ⟨b,o,none⟩) xs.length cap∧M b∧w.heap[b]?=some (.cells c e fr)∧xs.length≤cap∧o+cap*sz≤c.size∧(∀j,j<cap*sz→¬(fr.1≤o+j∧o+j<fr.2)) ∧
  ∀i j (hi:i<xs.length) (hj:j<(xs[i]).cells.length),j<sz∧∀v,c[o+(i*sz+j)]?=some v→Rep M R w ((xs[i]).cells[j]) v:=by
 cases h with
 |row0=>exact .inl ⟨rfl,rfl⟩
 |row sz xs b o cap c e fr h1 h2 h3 h4 h5 h6=>exact .inr ⟨b,o,cap,c,e,fr,rfl,h1,h2,h3,h4,h5,h6⟩
theorem z82 {t:TypeId} {n:Nat} {ag:Bool} {a:AV} {v:Value} {r:AV} (g:Good M σ ν w) (hn:szOf P t=some n) (hag:agOf P t=some ag)
  (hr:Rep M (RefOK σ ν) w a v)
  (h:loadA σ n ag a=some r):Same P (Instr.loadAt t v) M (RefOK σ ν) w r:=by
 have y0:∀b o,(Instr.loadAt t (.pointer (some ⟨b,o,none⟩)))=loadVar t ⟨b,o,none⟩:=fun b o=>rfl
 cases a with
 |rp cs =>
  simp only[loadA]at h;obtain⟨b,o,f,rfl,hc,hx⟩:=hr.rp_inv;rw[y0];exact z3D hn hag f (fun j hj=>(hc j hj).2) hx h
 |ptr l off =>
  simp only[loadA]at h;split at h
  · rename_i cs hs;obtain⟨b,o,rfl,hR⟩:=hr.ptr_inv;have e:=hR.p_box hs;obtain⟨b',o',c,el,fr,e',hM,hh,hsz,hf,hx⟩:=(g.ob l _ hs).box_inv;rw[e']at e;simp at e;obtain⟨rfl,rfl⟩:=e;rw[y0];refine z3D hn hag (fun j=>c[o+(off+j)]?.getD undef) (fun j hj=>?_) (fun j hj=>?_) h
    · simp at hj;rw[cell_of_row _ _ _ _ _ _ hh,Nat.add_assoc];simp[show o+(off+j)<c.size by omega]
    · simp at hj;rw[List.getElem_drop];exact hx (off+j) (by omega) _ (by simp[show o+(off+j)<c.size by omega])
  · cases h
 |ep l m i off =>
  simp only[loadA]at h;split at h
  · rename_i sz xs hs;split at h
    · rename_i hm;split at h
      · rename_i x q0;obtain⟨b,o,rfl,hR⟩:=hr.ep_inv;obtain⟨b',o',len,cap,e1,e2⟩:=hR.e_row hs hm;simp at e2;obtain⟨rfl,rfl⟩:=e2;obtain⟨hi,rfl⟩:=List.getElem?_eq_some_iff.1 q0;rcases(g.ob l _ hs).row_inv with⟨e3,rfl⟩|⟨b2,o2,cap2,c,el,fr,e3,hM,hh,hlen,hsz,hf,hx⟩
        · simp at hi
        · rw[e3]at e1;simp at e1;obtain⟨⟨rfl,rfl⟩,rfl,rfl⟩:=e1;rw[y0]
          have u0:∀j,j<(xs[i]).cells.length→o2+(i*sz+j)<c.size:=fun j hj=>by
           have:=(hx i j hi hj).1;have h2:(i+1)*sz≤cap2*sz:=Nat.mul_le_mul_right _ (by omega)
           rw[Nat.add_mul]at h2;omega
          refine z3D hn hag (fun j=>c[o2+(i*sz+(off+j))]?.getD undef) (fun j hj=>?_) (fun j hj=>?_) h
          · simp at hj;have:=u0 (off+j) (by omega)
            rw[cell_of_row _ _ _ _ _ _ hh,show o2+i*sz+off+j=o2+(i*sz+(off+j)) by omega]
            simp[this]
          · simp at hj;have:=u0 (off+j) (by omega)
            rw[List.getElem_drop];exact(hx i (off+j) hi (by omega)).2 _ (by simp[this])
      · cases h
    · cases h
  · cases h
 |_=>simp[loadA]at h
theorem RefOK.set_box {l:Nat} {cs cs':List AV} (hs:σ[l]?=some (.box cs)) {r:Ref} {v:Value} (h:RefOK σ ν r v):RefOK (σ.set l (.box cs')) ν r v:=by
 cases r with
 |p k =>
  simp only[RefOK]at h⊢;by_cases hk:k=l
  · subst hk;rw[z0m hs];rw[hs]at h;exact h
  · rw[z0A hk];exact h
 |s k n =>
  simp only[RefOK]at h⊢;by_cases hk:k=l
  · subst hk;rw[hs]at h;exact h.elim
  · rw[z0A hk];exact h
 |e k n i =>
  simp only[RefOK]at h⊢;by_cases hk:k=l
  · subst hk;rw[hs]at h;exact h.elim
  · rw[z0A hk];exact h
theorem RefOK.set_row {l sz:Nat} {xs xs':List AV} (hs:σ[l]?=some (.row sz xs)) (hl:xs'.length=xs.length) {r:Ref} {v:Value} (h:RefOK σ ν r v):RefOK (σ.set l (.row sz xs')) ν r v:=by
 cases r with
 |p k =>
  simp only[RefOK]at h⊢;by_cases hk:k=l
  · subst hk;rw[hs]at h;exact h.elim
  · rw[z0A hk];exact h
 |s k n =>
  simp only[RefOK]at h⊢;by_cases hk:k=l
  · subst hk;rw[z0m hs];rw[hs]at h;simpa[hl] using h
  · rw[z0A hk];exact h
 |e k n i =>
  simp only[RefOK]at h⊢;by_cases hk:k=l
  · subst hk;rw[z0m hs];rw[hs]at h;simpa[hl] using h
  · rw[z0A hk];exact h
theorem RefOK.grow_row {l sz:Nat} {xs xs':List AV} (hs:σ[l]?=some (.row sz xs)) (hl:xs.length<xs'.length) (hν:∀k,k≠l→ν' k=ν k) {r:Ref} {v:Value} (h:RefOK σ ν r v) :
  RefOK (σ.set l (.row sz xs')) ν' r v:=by
 cases r with
 |p k =>
  simp only[RefOK]at h⊢;by_cases hk:k=l
  · subst hk;rw[hs]at h;exact h.elim
  · rw[z0A hk,hν k hk];exact h
 |s k n =>
  simp only[RefOK]at h⊢;by_cases hk:k=l
  · subst hk;rw[z0m hs];rw[hs]at h;exact⟨by omega,fun e=>by omega⟩
  · rw[z0A hk,hν k hk];exact h
 |e k n i =>
  simp only[RefOK]at h⊢;by_cases hk:k=l
  · subst hk;rw[z0m hs];rw[hs]at h;exact⟨by omega,fun e=>by omega⟩
  · rw[z0A hk,hν k hk];exact h
theorem RefOK.set_dead {l:Nat} {o:Ob} (hs:σ[l]?=some o) {r:Ref} {v:Value} (h:RefOK σ ν r v):RefOK (σ.set l .dead) ν r v:=by
 cases r with
 |p k =>
  simp only[RefOK]at h⊢;by_cases hk:k=l
  · subst hk;rw[z0m hs];trivial
  · rw[z0A hk];exact h
 |s k n =>
  simp only[RefOK]at h⊢;by_cases hk:k=l
  · subst hk;rw[z0m hs];trivial
  · rw[z0A hk];exact h
 |e k n i =>
  simp only[RefOK]at h⊢;by_cases hk:k=l
  · subst hk;rw[z0m hs];trivial
  · rw[z0A hk];exact h
theorem z0U {α:Type} (l vs:List α) (k j:Nat) (h:k+vs.length≤l.length) :
  (z0s l k vs)[j]?=if k≤j∧j<k+vs.length then vs[j-k]? else l[j]?:=by
 unfold z0s;simp only[List.append_assoc,List.getElem?_append,List.length_take,List.getElem?_take,List.getElem?_drop];rw[Nat.min_eq_left (by omega)]
 by_cases h1:j<k
 · simp[h1,show ¬k≤j by omega]
 · by_cases h2:j<k+vs.length
   · rw[if_neg h1,if_pos (by omega),if_pos ⟨by omega,h2⟩]
   · rw[if_neg h1,if_neg (by omega),if_neg (by omega)]
     congr 1;omega
theorem z0z {α:Type} (l vs:List α) (k:Nat) (h:k+vs.length≤l.length):(z0s l k vs).length=l.length:=by
 unfold z0s;simp;omega
theorem zeA (g:Good M σ ν w) {t:TypeId} {n l off:Nat} {cs:List AV} {x:AV} {pv v:Value} (hn:szOf P t=some n) (hs:σ[l]?=some (.box cs))
  (hp:Rep M (RefOK σ ν) w (.ptr l off) pv) (hx:Rep M (RefOK σ ν) w x v) (ho:x.okc=true) (hl:x.cells.length=n) (hb:off+n≤cs.length) :
  ∃w',(Instr.storeAt t pv v).run P w=.ok () w'∧Good M (σ.set l (.box (z0s cs off x.cells))) ν w'∧Later M σ ν w M (σ.set l (.box (z0s cs off x.cells))) ν w':=by
 obtain⟨b,o,rfl,hR⟩:=hp.ptr_inv;have e:=hR.p_box hs;obtain⟨b',o',c,el,fr,e',hM,hh,hsz,hf,t0⟩:=(g.ob l _ hs).box_inv;rw[e']at e;simp at e;obtain⟨rfl,rfl⟩:=e;have u0:=hx.okc_cells ho;have d0:v.cells.toList.length=n:=by rw[←u0.1];exact hl
 obtain⟨c',r0,m0⟩:=z15 (P:=P) b (o+off) el fr v.cells.toList 0 c w hh (by omega) (u0.one (AV.okc_all ho)) (fun j hj=>by
  have:=hf (off+j) (by omega)
  rw[show o+off+0+j=o+(off+j) by omega];exact this)
 simp only[Nat.add_zero]at m0;have e0:(o+off)+v.cells.toList.length≤c.toList.length:=by simp only[Array.length_toList]at d0⊢;omega
 refine⟨putRow w b c' el fr,?_,?_⟩
 · have u1:v.cells.size=n:=by simpa using d0
   simp only[Instr.storeAt,Instr.sureAddr,storeVar,Sem.run_bind,Sem.run_pure,Result.andThen,z0p hn,u1,ne_eq,not_true,if_false,r0]
 · have n0:∀r v,RefOK σ ν r v→RefOK (σ.set l (.box (z0s cs off x.cells))) ν r v:=fun r v h=>h.set_box hs
   have q0:∀k,k<w.heap.size→blk (ν l)≠some k→(putRow w b c' el fr).heap[k]?=w.heap[k]?:=fun k _ h0=>z13 (fun e=>h0 (by rw[e',blk,e])) _ _ _
   refine g.update hs (by simp) _ (fun _ _=>rfl) (by simp) q0 (fun _ _ h=>h) (fun _ h _=>h) (fun k h=>by simpa using g.lt k h) (fun _ k h=>.inl h) n0 ?_
   have y0:∀k,k<w.heap.size→¬M k→¬M k∧(putRow w b c' el fr).heap[k]?=w.heap[k]?:=fun k hk hm=>⟨hm,q0 k hk (fun e=>hm (by rw[e',blk]at e;simp at e;exact e▸hM))⟩
   rw[e'];have f0:(z0s cs off x.cells).length=cs.length:=z0z _ _ _ (by omega)
   have hcl:c'.size=c.size:=by rw[←Array.length_toList,m0,z0z _ _ _ e0,Array.length_toList]
   refine .box _ b o c' el fr hM (z14 hh _ _ _) (by omega) (fun j hj=>hf j (by omega)) (fun j hj u hu=>?_)
   rw[←Array.getElem?_toList,m0,z0U _ _ _ _ e0]at hu;have j0:=List.getElem?_eq_getElem hj;rw[z0U _ _ _ _ (by omega)]at j0
   by_cases hin:off≤j∧j<off+x.cells.length
   · rw[if_pos hin]at j0;rw[if_pos (by omega)]at hu
     obtain⟨u',l0,o0⟩:=u0.get j0;rw[show o+j-(o+off)=j-off by omega,l0]at hu
     simp at hu;subst hu;exact o0.mono y0 n0
   · rw[if_neg hin]at j0;rw[if_neg (by omega)]at hu
     obtain⟨x1,k0⟩:=List.getElem?_eq_some_iff.1 j0;rw[←k0];exact(t0 j x1 u (by rw[←Array.getElem?_toList];exact hu)).mono y0 n0
end
section
variable {P:Program} {M M':Nat→Prop} {σ σ':St} {ν ν':Nat→Value} {w w':World} {R:Ref→Value→Prop}
structure SrcOK (P:Program) (M:Nat→Prop) (R:Ref→Value→Prop) (w:World) (sz:Nat) (ys:List AV) (x:Value):Prop where
 len:∀w',(Builtin.lenOf x).run P w'=.ok ys.length w'
 ty:∀i n,x≠.int i n
 cells:∃vs:List Value,vs.length=ys.length*sz∧Elems M R w sz ys vs∧(∀v∈vs,v.oneCell'=true) ∧
  ∀w':World,w'.heap=w.heap→(Builtin.firstCells sz ys.length x).run P w'=.ok vs.toArray w'
 part:∀k,k≤ys.length→∃vs:List Value,vs.length=k*sz∧Elems M R w sz (ys.take k) vs∧(∀v∈vs,v.oneCell'=true)∧(Builtin.firstCells sz k x).run P w=.ok vs.toArray w
theorem zci {w w':World} (h:w'.heap=w.heap) (a:Addr):w'.cell? a=w.cell? a:=by unfold World.cell?;rw[h]
theorem z2S {sz k:Nat} {b o n cap:Nat} (g:Nat→Value) (hc:∀m,m<k*sz→w.cell? ⟨b,o+m,none⟩=some (g m)) (w':World) (h:w'.heap=w.heap) :
  (Builtin.firstCells sz k (.slice (some ⟨b,o,none⟩) n cap)).run P w'=.ok ((List.range (k*sz)).map g).toArray w':=by
 unfold Builtin.firstCells;exact run_loadCells w' ⟨b,o,none⟩ (k*sz) g (fun j hj=>by rw[zci h,z25];exact hc j hj)
theorem z6D {m k sz:Nat} (h:m<k*sz):0<sz∧m/sz<k∧m%sz<sz∧m=m/sz*sz+m%sz:=by
 have h0:0<sz:=by cases sz with
  |zero=>simp at h
  |succ n=>omega
 exact⟨h0,(Nat.div_lt_iff_lt_mul h0).2 h,Nat.mod_lt _ h0,by rw[Nat.mul_comm];exact(Nat.div_add_mod m sz).symm⟩
theorem zgW {i j sz:Nat} (h:j<sz):(i*sz+j)/sz=i∧(i*sz+j)%sz=j:=by
 have h0:0<sz:=by omega
 rw[Nat.mul_comm];exact⟨by rw[Nat.mul_add_div h0,Nat.div_eq_of_lt h,Nat.add_zero],by rw[Nat.mul_add_mod,Nat.mod_eq_of_lt h]⟩
theorem z2h {i j k sz:Nat} (hi:i<k) (hj:j<sz):i*sz+j<k*sz:=by
 have:(i+1)*sz≤k*sz:=Nat.mul_le_mul_right _ hi;rw[Nat.add_mul]at this;omega
theorem z4I {sz:Nat} {ys:List AV} (h:ys.all (fun y=>decide (y.cells.length=sz)&&y.okc)=true) {i:Nat} (hi:i<ys.length):(ys[i]).cells.length=sz∧(ys[i]).okc=true:=by
 have:=List.all_eq_true.1 h _ (List.getElem_mem hi);simpa using this
theorem z6E {sz:Nat} {ys:List AV} {b o len cap:Nat} (f:Nat→Value) (hlen:len=ys.length)
  (hall:ys.all (fun y=>decide (y.cells.length=sz)&&y.okc)=true)
  (hc:∀m,m<ys.length*sz→w.cell? ⟨b,o+m,none⟩=some (f m))
  (hr:∀i j (hi:i<ys.length) (hj:j<(ys[i]).cells.length),Rep M R w ((ys[i]).cells[j]) (f (i*sz+j))):SrcOK P M R w sz ys (.slice (some ⟨b,o,none⟩) len cap):=by
 subst hlen
 have u0:∀k,k≤ys.length→∀v∈(List.range (k*sz)).map f,v.oneCell'=true:=by
  intro k hk v hv;simp only[List.mem_map,List.mem_range]at hv;obtain⟨m,hm,rfl⟩:=hv;obtain⟨h0,h1,h2,h3⟩:=z6D hm;obtain⟨e1,e2⟩:=z4I hall (Nat.lt_of_lt_of_le h1 hk);have hj:m%sz<(ys[m/sz]).cells.length:=by omega
  have:=hr (m/sz) (m%sz) (Nat.lt_of_lt_of_le h1 hk) hj;rw[←h3]at this;exact(this.one_inv (List.all_eq_true.1 (AV.okc_all e2) _ (List.getElem_mem hj))).1
 refine⟨fun w'=>by simp[Builtin.lenOf],by simp,⟨(List.range (ys.length*sz)).map f,by simp,fun i j hi hj=>?_,u0 _ (Nat.le_refl _),z2S f hc⟩,fun k hk =>
  ⟨(List.range (k*sz)).map f,by simp,fun i j hi hj=>?_,u0 k hk,z2S f (fun m hm=>hc m (Nat.lt_of_lt_of_le hm (Nat.mul_le_mul_right _ hk))) w rfl⟩⟩
 · have hsz:=(z4I hall hi).1;have q0:j<sz:=by omega
   refine⟨q0,fun v hv=>?_⟩
   have j0:=z2h hi q0;simp[j0]at hv;rw[←hv];exact hr i j hi hj
 · have k0:i<ys.length:=by simp at hi;omega
   have m0:i<k:=by simp at hi;omega
   have y0:(ys.take k)[i]=ys[i]:=by simp
   have n0:j<(ys[i]).cells.length:=by rw[y0]at hj;exact hj
   have hsz:=(z4I hall k0).1;have q0:j<sz:=by omega
   refine⟨q0,fun v hv=>?_⟩
   have j0:=z2h m0 q0;simp[j0]at hv;have:=hr i j k0 n0;rw[hv]at this;simpa only[y0] using this
theorem z9b (g:Good M σ ν w) {sz:Nat} {y:AV} {ys:List AV} {x:Value} (h:srcA σ sz y=some ys) (hr:Rep M (RefOK σ ν) w y x):SrcOK P M (RefOK σ ν) w sz ys x:=by
 have y0:∀(a:Option Addr) (cap:Nat),SrcOK P M (RefOK σ ν) w sz [] (.slice a 0 cap):=fun a cap=>by
  have hf:∀w':World,(Builtin.firstCells sz 0 (.slice a 0 cap)).run P w'=.ok #[] w':=by
   intro w'
   cases a with
   |none=>simp[Builtin.firstCells]
   |some a=>simp[Builtin.firstCells,loadCells,loadCellsFrom]
  refine⟨fun w'=>by simp[Builtin.lenOf],by simp,⟨[],by simp,fun i j hi=>by simp at hi,by simp,fun w' hw=>hf w'⟩,fun k hk=>?_⟩
  have:k=0:=by simpa using hk
  subst this;exact⟨[],by simp,fun i j hi=>by simp at hi,by simp,hf w⟩
 cases y with
 |nils =>
  simp[srcA]at h;subst h;cases hr;exact y0 _ _
 |zsl =>
  simp[srcA]at h;subst h;cases hr;exact y0 _ _
 |sl t0 zs =>
  simp only[srcA]at h;split at h
  · rename_i hc;obtain⟨rfl,u0⟩:=hc;simp at h;subst h;obtain⟨a,cap,rfl,_,hz|⟨b,o,f,rfl,q0,k0⟩⟩:=hr.sl_inv
    · subst hz;exact y0 _ _
    · refine z6E (fun m=>f (m/sz) (m%sz)) rfl u0 (fun m hm=>?_) (fun i j hi hj=>?_)
      · obtain⟨h0,h1,h2,h3⟩:=z6D hm;have:=(q0 (m/sz) (m%sz) h1 (by rw[(z4I u0 h1).1];exact h2)).2.2
        rw[←h3]at this;exact this
      · have m0:j<sz:=by rw[←(z4I u0 hi).1];exact hj
        obtain⟨e1,e2⟩:=zgW (i:=i) m0;simp only[e1,e2];exact k0 i j hi hj
  · cases h
 |osl l n =>
  simp only[srcA]at h;split at h
  · rename_i t0 zs hs;split at h
    · rename_i hc;obtain⟨rfl,rfl,u0⟩:=hc;simp at h;subst h;obtain⟨a,len,cap,rfl,hR⟩:=hr.osl_inv;have e:=hR.s_row hs rfl;rcases(g.ob l _ hs).row_inv with⟨e3,rfl⟩|⟨b,o,cap2,c,el,fr,e3,hM,hh,hlen,hsz,hf,hx⟩
      · rw[e3]at e;simp at e;obtain⟨rfl,rfl,rfl⟩:=e;exact y0 _ _
      · rw[e3]at e;simp at e;obtain⟨rfl,rfl,rfl⟩:=e;have hle:zs.length*sz≤cap*sz:=Nat.mul_le_mul_right _ hlen;refine z6E (fun m=>c[o+m]?.getD undef) rfl u0 (fun m hm=>?_) (fun i j hi hj=>?_)
        · rw[cell_of_row _ _ _ _ _ _ hh];simp[show o+m<c.size by omega]
        · have m0:j<sz:=by rw[←(z4I u0 hi).1];exact hj
          have:=z2h hi m0;exact(hx i j hi hj).2 _ (by simp[show o+(i*sz+j)<c.size by omega])
    · cases h
  · cases h
 |pl v =>
  cases v with
  |slice a n c =>
   cases n with
   |zero =>
    simp only[srcA,Option.some.injEq]at h;subst h;have e:=hr.pl_inv;subst e;exact y0 _ _
   |succ n=>simp[srcA]at h
  |string s =>
   simp only[srcA]at h;split at h
   · rename_i h1;subst h1;simp at h;subst h;have e:=hr.pl_inv;subst e;have hsz:s.data.toList.length=s.size:=by simp
     refine⟨fun w'=>by simp[Builtin.lenOf],by simp,⟨s.data.toList.map fun b=>.int .u8 b.toNat,by simp,fun i j hi hj=>?_,fun v hv=>?_,fun w' _=>?_⟩,fun k hk =>
      ⟨(s.data.toList.take k).map fun b=>.int .u8 b.toNat,by simp at hk;simp;omega,fun i j hi hj=>?_,fun v hv=>?_,?_⟩⟩
     · have j0:j=0:=by simp[AV.cells]at hj;omega
       subst j0;refine⟨by omega,fun v hv=>?_⟩
       simp at hv;obtain⟨b,hb,rfl⟩:=hv;simp at hi
       have:s.data[i]=b:=by
        rw[Array.getElem?_eq_getElem hi]at hb;simpa using hb
       simp[AV.cells,this];exact .pl _
     · simp at hv;obtain⟨b,_,rfl⟩:=hv;rfl
     · have e1:s.extract 0 s.size=s:=by simp
       simp[Builtin.firstCells,e1];apply Array.ext';simp
     · have j0:j=0:=by simp[AV.cells]at hj;omega
       subst j0;refine⟨by omega,fun v hv=>?_⟩
       have n0:i<s.data.toList.length:=by simp at hi⊢;omega
       have r0:i<k:=by simp at hi;omega
       have e2:(s.data.toList.take k)[i]?=some (s.data.toList[i]'n0):=by rw[List.getElem?_take,if_pos r0];exact List.getElem?_eq_getElem n0
       simp only[Nat.mul_one,Nat.add_zero,List.getElem?_map,e2,Option.map_some,Option.some.injEq]at hv;subst hv;simp[AV.cells];exact .pl _
     · simp only[List.mem_map]at hv;obtain⟨b,_,rfl⟩:=hv;rfl
     · simp[Builtin.firstCells];apply Array.ext';simp
   · cases h
  |_=>simp[srcA]at h
 |_=>simp[srcA]at h
end
end Go.Ab
