/- The evaluator a third time, its frame laid as a tree: each look takes few steps. It answers what the first one answers. No condition. -/
import Derived.Test.YtmkmhhjkdaklbaaGreatAbFastq
import Derived.Test.YtmkmhhjkdaklbaaGreatAbStepq
import Derived.Attr
import Derived.ProofKit
import Derived.Carry
import Derived.OpenShut
set_option linter.unusedSimpArgs false
set_option linter.unusedVariables false
set_option linter.unusedSectionVars false
namespace Go.Ab
open Go
inductive ET where
 |lf (v:AV)
 |nd (l r:ET)
abbrev OutT:=Option (ET×St)
/- A value brought to its form: each way by itself. -/
noncomputable def frcUT:Value→(AV→OutT)→OutT:=fun v=>Value.rec (motive_1:=fun _=>(AV→OutT)→OutT) (motive_2:=fun _=>Unit) (motive_3:=fun _=>Unit)
 (fun b=>Bool.rec (motive:=fun _=>(AV→OutT)→OutT) (fun k=>k (.pl (.bool false))) (fun k=>k (.pl (.bool true))) b)
 (fun d n=>Int.rec (motive:=fun _=>(AV→OutT)→OutT) (fun m k=>Nat.rec (motive:=fun _=>OutT) (k (.pl (.int d (.ofNat 0)))) (fun p _=>k (.pl (.int d (.ofNat (p+1))))) m)
  (fun m k=>Nat.rec (motive:=fun _=>OutT) (k (.pl (.int d (.negSucc 0)))) (fun p _=>k (.pl (.int d (.negSucc (p+1))))) m) n)
 (fun d n k=>Nat.rec (motive:=fun _=>OutT) (k (.pl (.float d 0))) (fun p _=>k (.pl (.float d (p+1)))) n)
 (fun d a b k=>k (.pl (.complex d a b)))
 (fun s k=>frcR s.data.toList fun l=>k (.pl (.string ⟨⟨l⟩⟩)))
 (fun a k=>k (.pl (.pointer a)))
 (fun a n c k=>k (.pl (.slice a n c)))
 (fun r k=>k (.pl (.map r)))
 (fun r k=>k (.pl (.chan r)))
 (fun f a b _ _ k=>k (.pl (.func f a b)))
 (fun k=>k (.pl .nilFunc))
 (fun t v _ k=>k (.pl (.iface t v)))
 (fun k=>k (.pl .nilIface))
 (fun cs _ k=>k (.pl (.agg cs)))
 (fun cs _ k=>k (.pl (.tuple cs)))
 (fun _ _=>()) () (fun _ _ _ _=>()) v
theorem zaw (v:Value) (k:AV→OutT):frcUT v k=k (.pl v):=by
 cases v with
 |bool b=>cases b<;>rfl
 |int d n=>cases n with
  |ofNat m=>cases m<;>rfl
  |negSucc m=>cases m<;>rfl
 |float d n=>cases n<;>rfl
 |string s=>exact z2C _ _
 |_=>rfl
noncomputable def frcWT (v:AV) (k:AV→OutT):OutT :=
 AV.casesOn (motive_1:=fun _=>(AV→OutT)→OutT) v (fun k=>k .any) (fun u=>frcUT u) (fun k=>k .nils) (fun n xs k=>frcR xs fun xs=>k (.sl n xs)) (fun xs k=>frcR xs fun xs=>k (.rp xs))
  (fun a b k=>frcN a fun a=>frcN b fun b=>k (.ptr a b)) (fun a b k=>frcN a fun a=>frcN b fun b=>k (.osl a b)) (fun a b c d k=>frcN a fun a=>frcN b fun b=>frcN c fun c=>frcN d fun d=>k (.ep a b c d))
  (fun a b c k=>frcN a fun a=>frcN b fun b=>frcN c fun c=>k (.psl a b c)) (fun k=>k .zsl) (fun a b c d k=>frcN a fun a=>frcN b fun b=>frcN c fun c=>frcN d fun d=>k (.win a b c d)) (fun xs k=>frcR xs fun xs=>k (.agg xs)) (fun xs k=>frcR xs fun xs=>k (.tup xs)) (fun f xs ys k=>k (.fn f xs ys)) k
theorem z75 (v:AV) (k:AV→OutT):frcWT v k=k v:=by
 cases v with
 |pl u=>exact zaw u k
 |sl n xs=>exact z2C _ _
 |rp xs=>exact z2C _ _
 |agg xs=>exact z2C _ _
 |tup xs=>exact z2C _ _
 |ptr a b=>show(frcN a fun a=>frcN b fun b=>k (.ptr a b))=_;simp
 |osl a b=>show(frcN a fun a=>frcN b fun b=>k (.osl a b))=_;simp
 |ep a b c d=>show(frcN a fun a=>frcN b fun b=>frcN c fun c=>frcN d fun d=>k (.ep a b c d))=_;simp
 |psl a b c=>show(frcN a fun a=>frcN b fun b=>frcN c fun c=>k (.psl a b c))=_;simp
 |win a b c d=>show(frcN a fun a=>frcN b fun b=>frcN c fun c=>frcN d fun d=>k (.win a b c d))=_;simp
 |_=>rfl
noncomputable def frcORT (o:AOp) (σ:St) (k:St→OutT):OutT :=
 AOp.rec (motive:=fun _=>St→(St→OutT)→OutT) (fun ao σ k=>Bool.rec (motive:=fun _=>OutT) (frcT σ k) (k σ) (stillT ao)) (fun _ _ σ k=>frcR σ k) (fun _ _ _ σ k=>k σ) (fun _ σ k=>k σ) (fun _ _ _ _ σ k=>k σ) o σ k
theorem z5P (o:AOp) (σ:St) (k:St→OutT):frcORT o σ k=k σ:=by
 cases o with
 |prim ao =>
  show Bool.rec (motive:=fun _=>OutT) (frcT σ k) (k σ) (stillT ao)=_
  cases stillT ao
  · exact frcT_eq _ _
  · rfl
 |call f args=>exact z2C _ _
 |_=>rfl
noncomputable def ET.get (t:ET):Nat→AV :=
 ET.rec (motive:=fun _=>Nat→AV) (fun v _=>v) (fun _ _ gl gr i=>Bool.rec (motive:=fun _=>AV) (gl (i/2)) (gr (i/2)) (Nat.beq (i%2) 1)) t
def ET.upd (v:AV):ET→Nat→ET
 |.lf _,_=>.lf v
 |.nd l r,i=>if i%2=1 then .nd l (upd v r (i/2)) else .nd (upd v l (i/2)) r
noncomputable def ET.updK {α:Type} (v:AV) (t:ET):Nat→(ET→α)→α :=
 ET.rec (motive:=fun _=>Nat→(ET→α)→α) (fun _ _ k=>k (.lf v))
  (fun l r ul ur i k=>Bool.rec (motive:=fun _=>α) (ul (i/2) fun l'=>k (.nd l' r)) (ur (i/2) fun r'=>k (.nd l r')) (Nat.beq (i%2) 1)) t
theorem ET.updK_eq {α:Type} (v:AV):∀(t:ET) (i:Nat) (k:ET→α),ET.updK v t i k=k (t.upd v i)
 |.lf _,_,_=>rfl
 |.nd l r,i,k=>by
  have e:ET.updK v (.nd l r) i k=Bool.rec (motive:=fun _=>α) (ET.updK v l (i/2) fun l'=>k (.nd l' r)) (ET.updK v r (i/2) fun r'=>k (.nd l r')) (Nat.beq (i%2) 1):=rfl
  rw[e,ET.updK_eq v l,ET.updK_eq v r]
  cases hb:Nat.beq (i%2) 1 with
  |true=>simp only[ET.upd,if_pos (Nat.eq_of_beq_eq_true hb)]
  |false=>simp only[ET.upd,if_neg (Nat.ne_of_beq_eq_false hb)]
def Perf:Nat→ET→Prop
 |0,t=>∃v,t=.lf v
 |d+1,t=>∃l r,t=.nd l r∧Perf d l∧Perf d r
theorem Perf.upd (v:AV):∀{d:Nat} {t:ET},Perf d t→∀i,Perf d (t.upd v i)
 |0,_,⟨_,rfl⟩,_=>⟨v,rfl⟩
 |d+1,_,⟨l,r,rfl,hl,hr⟩,i=>by
  simp only[ET.upd]
  split
  · exact⟨_,_,rfl,hl,hr.upd v _⟩
  · exact⟨_,_,rfl,hl.upd v _,hr⟩
theorem ET.get_nd (l r:ET) (i:Nat):(ET.nd l r).get i=if i%2=1 then r.get (i/2) else l.get (i/2):=by
 have e:(ET.nd l r).get i=Bool.rec (motive:=fun _=>AV) (l.get (i/2)) (r.get (i/2)) (Nat.beq (i%2) 1):=rfl
 rw[e]
 cases hb:Nat.beq (i%2) 1 with
 |true=>rw[if_pos (Nat.eq_of_beq_eq_true hb)]
 |false=>rw[if_neg (Nat.ne_of_beq_eq_false hb)]
theorem ET.get_upd (v:AV):∀{d:Nat} {t:ET},Perf d t→∀i j,i<2^d→j<2^d→(t.upd v i).get j=if i=j then v else t.get j
 |0,_,⟨_,rfl⟩,i,j,hi,hj=>by
  have:i=j:=by simp at hi hj;omega
  rw[if_pos this];rfl
 |d+1,_,⟨l,r,rfl,hl,hr⟩,i,j,hi,hj=>by
  have hi2:i/2<2^d:=by rw[Nat.pow_succ]at hi;omega
  have hj2:j/2<2^d:=by rw[Nat.pow_succ]at hj;omega
  simp only[ET.upd]
  by_cases h1:i%2=1
  · rw[if_pos h1,ET.get_nd,ET.get_nd]
    by_cases h2:j%2=1
    · rw[if_pos h2,if_pos h2,ET.get_upd v hr _ _ hi2 hj2]
      by_cases h3:i=j
      · rw[if_pos h3,if_pos (by omega)]
      · rw[if_neg h3,if_neg (by omega)]
    · rw[if_neg h2,if_neg h2,if_neg (by omega)]
  · rw[if_neg h1,ET.get_nd,ET.get_nd]
    by_cases h2:j%2=1
    · rw[if_pos h2,if_pos h2,if_neg (by omega)]
    · rw[if_neg h2,if_neg h2,ET.get_upd v hl _ _ hi2 hj2]
      by_cases h3:i=j
      · rw[if_pos h3,if_pos (by omega)]
      · rw[if_neg h3,if_neg (by omega)]
noncomputable def toL (n:Nat) (t:ET):Env:=(List.range n).map t.get
theorem z2m (n:Nat) (t:ET):(toL n t).length=n:=by simp[toL]
theorem zc3 (n:Nat) (t:ET) (i:Nat):tmpA (toL n t) i=if i<n then t.get i else .any:=by
 unfold tmpA toL
 by_cases h:i<n
 · simp[h,List.getD]
 · simp[h,List.getD,Nat.not_lt.1 h]
theorem zc4 {d n:Nat} {t:ET} (hp:Perf d t) (hn:n≤2^d) (v:AV) (i:Nat) (hi:i<n):toL n (t.upd v i)=(toL n t).set i v:=by
 apply List.ext_getElem
 · simp[toL]
 · intro j h1 h2
   have hj:j<n:=by simpa[toL] using h1
   simp only[toL,List.getElem_map,List.getElem_range,List.getElem_set]
   exact ET.get_upd v hp i j (by omega) (by omega)
noncomputable def fevT (n:Nat) (t:ET) (x:Operand):AV :=
 match x with
 |.tmp i=>Bool.rec (motive:=fun _=>AV) .any (t.get i) (Nat.ble (i+1) n)
 |.const v=>cval v
 |.global _=>.any
 |.func f=>.fn f [] []
theorem z8W (n:Nat) (t:ET) (i:Nat):Bool.rec (motive:=fun _=>AV) .any (t.get i) (Nat.ble (i+1) n)=tmpA (toL n t) i:=by
 rw[zc3]
 cases hb:Nat.ble (i+1) n with
 |true=>rw[if_pos (show i<n from Nat.le_of_ble_eq_true hb)]
 |false =>
  rw[if_neg]
  intro h
  rw[Nat.ble_eq_true_of_le (show i+1≤n from h)]at hb
  cases hb
theorem z5c (n:Nat) (t:ET):fevT n t=aev (toL n t):=by
 funext x
 cases x<;>simp only[fevT,aev]
 exact z8W n t _
noncomputable def putT {α:Type} (n:Nat) (t:ET) (d:Option Tmp) (r:AV) (k:ET→α):α :=
 match d with
 |some i=>Bool.rec (motive:=fun _=>α) (k t) (ET.updK r t i k) (Nat.ble (i+1) n)
 |none=>k t
def putD (n:Nat) (t:ET) (d:Option Tmp) (r:AV):ET :=
 match d with
 |some i=>if i+1≤n then t.upd r i else t
 |none=>t
theorem z5d {α:Type} (n:Nat) (t:ET) (d:Option Tmp) (r:AV) (k:ET→α):putT n t d r k=k (putD n t d r):=by
 cases d with
 |none=>rfl
 |some i =>
  show Bool.rec (motive:=fun _=>α) (k t) (ET.updK r t i k) (Nat.ble (i+1) n)=k (if i+1≤n then t.upd r i else t)
  cases hb:Nat.ble (i+1) n with
  |true=>rw[if_pos (Nat.le_of_ble_eq_true hb)];exact ET.updK_eq _ _ _ _
  |false =>
   rw[if_neg]
   intro h
   rw[Nat.ble_eq_true_of_le h]at hb
   cases hb
theorem z2c {d n:Nat} {t:ET} (hp:Perf d t) (hn:n≤2^d) (x:Option Tmp) (r:AV):Perf d (putD n t x r)∧toL n (putD n t x r)=putA (toL n t) x r:=by
 cases x with
 |none=>exact⟨hp,rfl⟩
 |some i =>
  simp only[putD,putA]
  by_cases hi:i+1≤n
  · rw[if_pos hi]
    exact⟨hp.upd r i,zc4 hp hn r i hi⟩
  · rw[if_neg hi]
    refine⟨hp,?_⟩
    rw[List.set_eq_of_length_le]
    rw[z2m];exact Nat.le_of_not_lt hi
noncomputable def wantT (n:Nat) (t:ET) (g:Option (Tmp×Bool)):Option Bool :=
 match g with
 |none=>some true
 |some (i,want)=>match(Bool.rec (motive:=fun _=>AV) .any (t.get i) (Nat.ble (i+1) n):AV) with
  |.pl (.bool b)=>some (b==want)
  |.tup []=>some false
  |_=>none
theorem z76 (n:Nat) (t:ET) (g:Option (Tmp×Bool)):wantT n t g=wantA (toL n t) g:=by
 unfold wantT wantA
 cases g with
 |none=>rfl
 |some p=>obtain⟨i,w⟩:=p;simp only[z8W];rfl
noncomputable def evOpT (run:Run) (n:Nat) (t:ET) (σ:St) (o:AOp):Option (AV×St) :=
 match o with
 |.prim ao=>aopT ao (fevT n t) σ
 |.call f args=>match fevT n t f with
  |.fn g fs cs=>run g (fs++args.map (fevT n t)++cs) σ
  |_=>none
 |.fresh m d x=>if d<n∧(fevT n t x).okc∧(fevT n t x).cells.length=m then some (.rp (fevT n t x).cells,σ) else none
 |.flo _|.adopt _ _ _ _=>none
theorem z6x (ρ:Operand→AV) (σ:St) (ao:AO):aopT ao ρ σ=aop ρ σ ao:=zc2 ρ σ ao
theorem z5e (run:Run) (n:Nat) (t:ET) (σ:St) (o:AOp):evOpT run n t σ o=evOp run (toL n t) σ o:=by
 unfold evOpT evOp
 simp only[z5c,z6x,z2m];rfl
noncomputable def evOpsT (run:Run) (n:Nat) (l:List AOper):ET→St→OutT :=
 List.rec (motive:=fun _=>ET→St→OutT) (fun t σ=>some (t,σ))
  (fun o _ ih t σ=>match wantT n t o.guard with
   |some true=>match evOpT run n t σ o.op with
    |some (r,σ')=>frcWT r fun r=>putT n t o.dst r fun t'=>frcORT o.op σ' fun σ'=>ih t' σ'
    |none=>none
   |some false=>putT n t o.dst (.tup []) fun t'=>ih t' σ
   |none=>none) l
theorem z3T (run:Run) {d n:Nat} (hn:n≤2^d):∀(l:List AOper) (t:ET) (σ:St) (t':ET) (σ':St),Perf d t→evOpsT run n l t σ=some (t',σ')→Perf d t'∧evOps run l (toL n t) σ=some (toL n t',σ')
 |[],t,σ,t',σ',hp,h=>by
  have e:evOpsT run n [] t σ=some (t,σ):=rfl
  rw[e]at h
  simp only[Option.some.injEq,Prod.mk.injEq]at h
  obtain⟨rfl,rfl⟩:=h
  exact⟨hp,rfl⟩
 |o::os,t,σ,t',σ',hp,h=>by
  have e:evOpsT run n (o::os) t σ=(match wantT n t o.guard with
   |some true=>match evOpT run n t σ o.op with
    |some (r,σ')=>frcWT r fun r=>putT n t o.dst r fun t'=>frcORT o.op σ' fun σ'=>evOpsT run n os t' σ'
    |none=>none
   |some false=>putT n t o.dst (.tup []) fun t'=>evOpsT run n os t' σ
   |none=>none):=rfl
  rw[e]at h
  simp only[z76,z5e,z75,z5d,z5P]at h
  simp only[evOps,frcV_eq,frcL_eq,frcO_eq]
  split at h
  · rename_i hw
    simp only[hw]
    split at h
    · rename_i r s hr
      simp only[hr]
      obtain⟨h1,h2⟩:=z2c hp hn o.dst r
      rw[←h2]
      exact z3T run hn os _ _ _ _ h1 h
    · cases h
  · rename_i hw
    simp only[hw]
    obtain⟨h1,h2⟩:=z2c hp hn o.dst (.tup [])
    rw[←h2]
    exact z3T run hn os _ _ _ _ h1 h
  · cases h
noncomputable def stayBT (n:Nat) (t:ET) (ao:AO) (r:AV) (s:St):Bool :=
 match aopT ao (fevT n t) s with
 |some (r',_)=>r.same r'
 |none=>false
theorem z8X (n:Nat) (t:ET) (ao:AO) (r:AV):stayBT n t ao r=stayB (toL n t) ao r:=by
 funext s;unfold stayBT stayB;rw[z5c,z6x];rfl
noncomputable def stayCT (run:Run) (n:Nat) (t:ET) (o:AOp) (r:AV) (s:St):Bool :=
 match evOpT run n t s o with
 |some (r',s')=>r.same r'&&z1G s s'
 |none=>false
theorem z8Y (run:Run) (n:Nat) (t:ET) (o:AOp) (r:AV):stayCT run n t o r=stayC run (toL n t) o r:=by
 funext s;unfold stayCT stayC;rw[z5e];rfl
noncomputable def evDsT (run:Run) (n:Nat) (l:List DOper):ET→List St→St→(List St→Bool)→OutT :=
 List.rec (motive:=fun _=>ET→List St→St→(List St→Bool)→OutT) (fun t S σ ob=>if ob S then some (t,σ) else none)
  (fun d _ ih t S σ ob=>match wantT n t d.o.guard with
  |some true=>if d.eff then(match evOpT run n t σ d.o.op with
    |some (r,σ')=>frcWT r fun r=>putT n t d.o.dst r fun t'=>frcORT d.o.op σ' fun σ'=>ih t' (S++[σ']) σ' ob
    |none=>none)
   else(match d.o.op with
    |.prim ao=>match aopT ao (fevT n t) σ with
     |some (r,_)=>frcWT r fun r=>putT n t d.o.dst r fun t'=>if ao.free then ih t' S σ ob
      else if ao.still then ih t' S σ (fun T=>ob T&&((T.take (d.hi+1)).drop d.lo).all (stayBT n t ao r))
      else none
     |none=>none
    |.call f args=>match evOpT run n t σ (.call f args) with
     |some (r,σ')=>frcWT r fun r=>putT n t d.o.dst r fun t'=>if z1G σ σ' then
      ih t' S σ (fun T=>ob T&&((T.take (d.hi+1)).drop d.lo).all (stayCT run n t (.call f args) r)) else none
     |none=>none
    |_=>none)
  |some false=>putT n t d.o.dst (.tup []) fun t'=>ih t' (if d.eff then S++[σ] else S) σ ob
  |none=>none) l
theorem z2n (run:Run) {dd n:Nat} (hn:n≤2^dd):∀(l:List DOper) (t:ET) (S:List St) (σ:St) (ob:List St→Bool) (t':ET) (σ':St),Perf dd t→evDsT run n l t S σ ob=some (t',σ') →
  Perf dd t'∧evDs run l (toL n t) S σ ob=some (toL n t',σ')
 |[],t,S,σ,ob,t',σ',hp,h=>by
  have e:evDsT run n [] t S σ ob=if ob S then some (t,σ) else none:=rfl
  rw[e]at h
  split at h
  · rename_i hb
    simp only[Option.some.injEq,Prod.mk.injEq]at h
    obtain⟨rfl,rfl⟩:=h
    exact⟨hp,by simp only[evDs,hb,if_true]⟩
  · cases h
 |d::ds,t,S,σ,ob,t',σ',hp,h=>by
  have e:evDsT run n (d::ds) t S σ ob=(match wantT n t d.o.guard with
  |some true=>if d.eff then(match evOpT run n t σ d.o.op with
    |some (r,σ')=>frcWT r fun r=>putT n t d.o.dst r fun t'=>frcORT d.o.op σ' fun σ'=>evDsT run n ds t' (S++[σ']) σ' ob
    |none=>none)
   else(match d.o.op with
    |.prim ao=>match aopT ao (fevT n t) σ with
     |some (r,_)=>frcWT r fun r=>putT n t d.o.dst r fun t'=>if ao.free then evDsT run n ds t' S σ ob
      else if ao.still then evDsT run n ds t' S σ (fun T=>ob T&&((T.take (d.hi+1)).drop d.lo).all (stayBT n t ao r))
      else none
     |none=>none
    |.call f args=>match evOpT run n t σ (.call f args) with
     |some (r,σ')=>frcWT r fun r=>putT n t d.o.dst r fun t'=>if z1G σ σ' then
      evDsT run n ds t' S σ (fun T=>ob T&&((T.take (d.hi+1)).drop d.lo).all (stayCT run n t (.call f args) r)) else none
     |none=>none
    |_=>none)
  |some false=>putT n t d.o.dst (.tup []) fun t'=>evDsT run n ds t' (if d.eff then S++[σ] else S) σ ob
  |none=>none):=rfl
  rw[e]at h
  simp only[z76,z5e,z6x,z5c,z8X,z8Y,z75,z5d,z5P]at h
  simp only[evDs,frcV_eq,frcL_eq,frcO_eq]
  split at h
  · rename_i hw
    simp only[hw]
    split at h
    · rename_i he
      simp only[he,if_true]
      split at h
      · rename_i r s hr
        simp only[hr]
        obtain⟨h1,h2⟩:=z2c hp hn d.o.dst r
        rw[←h2]
        exact z2n run hn ds _ _ _ _ _ _ h1 h
      · cases h
    · rename_i he
      simp only[he,Bool.false_eq_true,if_false]
      split at h
      · rename_i ao hao
        simp only[hao]
        split at h
        · rename_i r s hr
          simp only[hr]
          obtain⟨h1,h2⟩:=z2c hp hn d.o.dst r
          rw[←h2]
          split at h
          · rename_i hf
            simp only[hf,if_true]
            exact z2n run hn ds _ _ _ _ _ _ h1 h
          · rename_i hf
            simp only[hf,Bool.false_eq_true,if_false]
            split at h
            · rename_i hs
              simp only[hs,if_true]
              exact z2n run hn ds _ _ _ _ _ _ h1 h
            · cases h
        · cases h
      · rename_i f args hao
        simp only[hao]
        split at h
        · rename_i r s hr
          simp only[hr]
          obtain⟨h1,h2⟩:=z2c hp hn d.o.dst r
          rw[←h2]
          split at h
          · rename_i hf
            simp only[hf,if_true]
            exact z2n run hn ds _ _ _ _ _ _ h1 h
          · cases h
        · cases h
      · cases h
  · rename_i hw
    simp only[hw]
    obtain⟨h1,h2⟩:=z2c hp hn d.o.dst (.tup [])
    rw[←h2]
    exact z2n run hn ds _ _ _ _ _ _ h1 h
  · cases h
noncomputable def clrT {α:Type} (n:Nat) (ts:List Tmp):ET→(ET→α)→α :=
 List.rec (motive:=fun _=>ET→(ET→α)→α) (fun t k=>k t) (fun i _ ih t k=>putT n t (some i) .any fun t'=>ih t' k) ts
def clrD (n:Nat):List Tmp→ET→ET
 |[],t=>t
 |i::ts,t=>clrD n ts (putD n t (some i) .any)
theorem z6y {α:Type} (n:Nat):∀(ts:List Tmp) (t:ET) (k:ET→α),clrT n ts t k=k (clrD n ts t)
 |[],_,_=>rfl
 |i::ts,t,k=>by
  have e:clrT n (i::ts) t k=putT n t (some i) .any fun t'=>clrT n ts t' k:=rfl
  rw[e,z5d,z6y n ts];rfl
theorem z6z {d n:Nat} (hn:n≤2^d):∀(ts:List Tmp) {t:ET},Perf d t→Perf d (clrD n ts t)∧toL n (clrD n ts t)=z1V (toL n t) ts
 |[],t,hp=>⟨hp,rfl⟩
 |i::ts,t,hp=>by
  obtain⟨h1,h2⟩:=z2c hp hn (some i) .any
  obtain⟨h3,h4⟩:=z6z hn ts h1
  refine⟨h3,?_⟩
  rw[clrD,h4,h2];rfl
noncomputable def fullT (v:AV) (d:Nat):ET:=Nat.rec (motive:=fun _=>ET) (.lf v) (fun _ t=>.nd t t) d
theorem z2o (v:AV):∀d,Perf d (fullT v d)
 |0=>⟨v,rfl⟩
 |d+1=>⟨_,_,rfl,z2o v d,z2o v d⟩
theorem z5Q (v:AV):∀d i,(fullT v d).get i=v
 |0,_=>rfl
 |d+1,i=>by
  have e:fullT v (d+1)=.nd (fullT v d) (fullT v d):=rfl
  rw[e,ET.get_nd]
  split<;>exact z5Q v d _
noncomputable def layT {α:Type} (n:Nat) (l:List AV):Nat→ET→(ET→α)→α :=
 List.rec (motive:=fun _=>Nat→ET→(ET→α)→α) (fun _ t k=>k t) (fun x _ ih i t k=>putT n t (some i) x fun t'=>ih (i+1) t' k) l
def layD (n:Nat):List AV→Nat→ET→ET
 |[],_,t=>t
 |x::xs,i,t=>layD n xs (i+1) (putD n t (some i) x)
theorem z6A {α:Type} (n:Nat):∀(l:List AV) (i:Nat) (t:ET) (k:ET→α),layT n l i t k=k (layD n l i t)
 |[],_,_,_=>rfl
 |x::xs,i,t,k=>by
  have e:layT n (x::xs) i t k=putT n t (some i) x fun t'=>layT n xs (i+1) t' k:=rfl
  rw[e,z5d,z6A n xs];rfl
theorem z6B {d n:Nat} (hn:n≤2^d):∀(l:List AV) (i:Nat) (t:ET),Perf d t→i+l.length≤n→Perf d (layD n l i t)∧toL n (layD n l i t)=(toL n t).take i++l++(toL n t).drop (i+l.length)
 |[],i,t,hp,hl=>⟨hp,by simp[layD]⟩
 |x::xs,i,t,hp,hl=>by
  simp only[List.length_cons]at hl
  obtain⟨h1,h2⟩:=z2c hp hn (some i) x
  obtain⟨h3,h4⟩:=z6B hn xs (i+1) _ h1 (by omega)
  refine⟨h3,?_⟩
  rw[layD,h4,h2]
  have hlen:=z2m n t
  simp only[putA,List.length_cons]
  rw[List.take_set,List.drop_set_of_lt (by omega)]
  have e1:((toL n t).take (i+1)).set i x=(toL n t).take i++[x]:=by
   apply List.ext_getElem
   · simp;omega
   · intro j h5 h6
     simp only[List.length_set,List.length_take]at h5
     rw[List.getElem_set]
     by_cases hij:i=j
     · subst hij
       rw[if_pos rfl,List.getElem_append_right (by rw[List.length_take];exact Nat.min_le_left _ _)]
       simp
     · rw[if_neg hij,List.getElem_append_left (by simp;omega)]
       simp
  rw[e1]
  rw[show i+1+xs.length=i+(xs.length+1) by omega]
  simp only[List.append_assoc,List.cons_append,List.nil_append]
noncomputable def evGT (n0 n d:Nat) (g:Ghost) (t:ET) (σ:St):Option (ET×St) :=
 match evG n0 g (toL n t) σ with
 |some (env',σ')=>Bool.rec (motive:=fun _=>Option (ET×St)) none (layT n env' 0 (fullT .any d) fun t'=>frcT σ' fun σ'=>some (t',σ')) (Nat.beq env'.length n)
 |none=>none
theorem z8Z {n0 n d:Nat} (hn:n≤2^d) {g:Ghost} {t t':ET} {σ σ':St} (h:evGT n0 n d g t σ=some (t',σ')):Perf d t'∧evG n0 g (toL n t) σ=some (toL n t',σ'):=by
 unfold evGT at h
 split at h
 · rename_i env' s he
   cases hb:Nat.beq env'.length n with
   |false=>rw[hb]at h;cases h
   |true =>
    rw[hb]at h
    have hl:=Nat.eq_of_beq_eq_true hb
    simp only[z6A,frcT_eq,Option.some.injEq,Prod.mk.injEq]at h
    obtain⟨rfl,rfl⟩:=h
    obtain⟨h1,h2⟩:=z6B hn env' 0 (fullT .any d) (z2o _ _) (by omega)
    refine⟨h1,?_⟩
    rw[he,h2]
    simp[z2m,hl,List.drop_eq_nil_of_le]
 · cases h
noncomputable def iterT (step:ET→St→Option (AExit×ET×St)) (nn:Nat) (clr:List Tmp) (n:Nat):ET→St→Option (AExit×ET×St) :=
 Nat.rec (motive:=fun _=>ET→St→Option (AExit×ET×St)) (fun _ _=>none) (fun _ ih t σ=>match step t σ with
  |some (.normal,t',σ')=>clrT nn clr t' fun t'=>ih t' σ'
  |r=>r) n
noncomputable def evCT (run:Run) (n d n0 m:Nat) (x:ACode):ET→St→Option (AExit×ET×St) :=
 ACode.rec (motive:=fun _=>ET→St→Option (AExit×ET×St))
  (fun t σ=>some (.normal,t,σ))
  (fun l t σ=>match evOpsT run n l t σ with
   |some (t',σ')=>some (.normal,t',σ')
   |none=>none)
  (fun l t σ=>match evDsT run n l t [σ] σ (fun _=>true) with
   |some (t',σ')=>some (.normal,t',σ')
   |none=>none)
  (fun _ _ iha ihb t σ=>match iha t σ with
   |some (.normal,t',σ')=>ihb t' σ'
   |r=>r)
  (fun c _ _ iha ihb t σ=>match boolA (fevT n t c) with
   |some true=>iha t σ
   |some false=>ihb t σ
   |none=>none)
  (fun id _ iha t σ=>match iha t σ with
   |some (.exit j,t',σ')=>if j=id then some (.normal,t',σ') else some (.exit j,t',σ')
   |r=>r)
  (fun clr _ iha t σ=>clrT n clr t fun t=>iterT iha n clr m t σ)
  (fun id t σ=>some (.exit id,t,σ))
  (fun t σ=>some (.ret,t,σ))
  (fun g _ iha t σ=>match evGT n0 n d g t σ with
   |some (t',σ')=>iha t' σ'
   |none=>none)
  (fun _ g iha t σ=>match iha t σ with
   |some (.normal,t',σ')=>(match evGT n0 n d g t' σ' with
    |some (t'',σ'')=>some (.normal,t'',σ'')
    |none=>none)
   |r=>r) x
theorem zc5 (run:Run) {n d n0 m:Nat} (hn:n≤2^d):∀(x:ACode) (t:ET) (σ:St) (e:AExit) (t':ET) (σ':St),Perf d t→evCT run n d n0 m x t σ=some (e,t',σ') →
  Perf d t'∧evC run n0 m x (toL n t) σ=some (e,toL n t',σ'):=by
 intro x
 induction x with
 |skip =>
  intro t σ e t' σ' hp h
  have e0:evCT run n d n0 m .skip t σ=some (.normal,t,σ):=rfl
  rw[e0]at h
  simp only[Option.some.injEq,Prod.mk.injEq]at h;obtain⟨rfl,rfl,rfl⟩:=h
  exact⟨hp,rfl⟩
 |ops l =>
  intro t σ e t' σ' hp h
  have e0:evCT run n d n0 m (.ops l) t σ=(match evOpsT run n l t σ with|some (t',σ')=>some (.normal,t',σ')|none=>none):=rfl
  rw[e0]at h
  split at h
  · rename_i h1
    simp only[Option.some.injEq,Prod.mk.injEq]at h;obtain⟨rfl,rfl,rfl⟩:=h
    obtain⟨h2,h3⟩:=z3T run hn _ _ _ _ _ hp h1
    exact⟨h2,by simp only[evC,h3]⟩
  · cases h
 |draw l =>
  intro t σ e t' σ' hp h
  have e0:evCT run n d n0 m (.draw l) t σ=(match evDsT run n l t [σ] σ (fun _=>true) with|some (t',σ')=>some (.normal,t',σ')|none=>none):=rfl
  rw[e0]at h
  split at h
  · rename_i h1
    simp only[Option.some.injEq,Prod.mk.injEq]at h;obtain⟨rfl,rfl,rfl⟩:=h
    obtain⟨h2,h3⟩:=z2n run hn _ _ _ _ _ _ _ hp h1
    exact⟨h2,by simp only[evC,h3]⟩
  · cases h
 |seq a b iha ihb =>
  intro t σ e t' σ' hp h
  have e0:evCT run n d n0 m (.seq a b) t σ=(match evCT run n d n0 m a t σ with|some (.normal,t',σ')=>evCT run n d n0 m b t' σ'|r=>r):=rfl
  rw[e0]at h
  split at h
  · rename_i h1
    obtain⟨h2,h3⟩:=iha _ _ _ _ _ hp h1
    obtain⟨h4,h5⟩:=ihb _ _ _ _ _ h2 h
    exact⟨h4,by simp only[evC,h3,h5]⟩
  · rename_i hne
    obtain⟨h2,h3⟩:=iha _ _ _ _ _ hp h
    refine⟨h2,?_⟩
    simp only[evC,h3]
    cases e with
    |normal=>exact absurd h (hne _ _)
    |exit=>rfl
    |ret=>rfl
 |cond c a b iha ihb =>
  intro t σ e t' σ' hp h
  have e0:evCT run n d n0 m (.cond c a b) t σ=(match boolA (fevT n t c) with|some true=>evCT run n d n0 m a t σ|some false=>evCT run n d n0 m b t σ|none=>none):=rfl
  rw[e0,z5c]at h
  split at h
  · rename_i h1
    obtain⟨h2,h3⟩:=iha _ _ _ _ _ hp h
    exact⟨h2,by simp only[evC,h1,h3]⟩
  · rename_i h1
    obtain⟨h2,h3⟩:=ihb _ _ _ _ _ hp h
    exact⟨h2,by simp only[evC,h1,h3]⟩
  · cases h
 |block id a iha =>
  intro t σ e t' σ' hp h
  have e0:evCT run n d n0 m (.block id a) t σ=(match evCT run n d n0 m a t σ with|some (.exit j,t',σ')=>if j=id then some (AExit.normal,t',σ') else some (AExit.exit j,t',σ')|r=>r):=rfl
  rw[e0]at h
  split at h
  · rename_i j _ _ h1
    obtain⟨h2,h3⟩:=iha _ _ _ _ _ hp h1
    split at h
    · rename_i hj
      simp only[Option.some.injEq,Prod.mk.injEq]at h;obtain⟨rfl,rfl,rfl⟩:=h
      exact⟨h2,by simp only[evC,h3,if_pos hj]⟩
    · rename_i hj
      simp only[Option.some.injEq,Prod.mk.injEq]at h;obtain⟨rfl,rfl,rfl⟩:=h
      exact⟨h2,by simp only[evC,h3,if_neg hj]⟩
  · rename_i hne
    obtain⟨h2,h3⟩:=iha _ _ _ _ _ hp h
    refine⟨h2,?_⟩
    simp only[evC,h3]
    cases e with
    |normal=>rfl
    |exit j=>exact absurd h (hne _ _ _)
    |ret=>rfl
 |loop clr a iha =>
  intro t σ e t' σ' hp h
  have e0:evCT run n d n0 m (.loop clr a) t σ=clrT n clr t fun t=>iterT (evCT run n d n0 m a) n clr m t σ:=rfl
  rw[e0,z6y]at h
  have key:∀(k:Nat) (t:ET) (σ:St),Perf d t→iterT (evCT run n d n0 m a) n clr k t σ=some (e,t',σ')→Perf d t'∧iter (evC run n0 m a) clr k (toL n t) σ=some (e,toL n t',σ'):=by
   intro k
   induction k with
   |zero=>intro t σ _ h;cases h
   |succ k ih =>
    intro t σ hp h
    have e1:iterT (evCT run n d n0 m a) n clr (k+1) t σ=(match evCT run n d n0 m a t σ with
     |some (.normal,t',σ')=>clrT n clr t' fun t'=>iterT (evCT run n d n0 m a) n clr k t' σ'
     |r=>r):=rfl
    rw[e1]at h
    simp only[z6y]at h
    simp only[iter,frcL_eq]
    split at h
    · rename_i t1 s1 h1
      obtain⟨h2,h3⟩:=iha _ _ _ _ _ hp h1
      obtain⟨h4,h5⟩:=z6z hn clr h2
      simp only[h3]
      rw[←h5]
      exact ih _ _ h4 h
    · rename_i hne
      obtain⟨h2,h3⟩:=iha _ _ _ _ _ hp h
      refine⟨h2,?_⟩
      simp only[h3]
      cases e with
      |normal=>exact absurd h (hne _ _)
      |exit=>rfl
      |ret=>rfl
  obtain⟨h4,h5⟩:=z6z hn clr hp
  obtain⟨h6,h7⟩:=key m _ _ h4 h
  refine⟨h6,?_⟩
  simp only[evC,frcL_eq]
  rw[←h5];exact h7
 |exit id =>
  intro t σ e t' σ' hp h
  have e0:evCT run n d n0 m (.exit id) t σ=some (.exit id,t,σ):=rfl
  rw[e0]at h
  simp only[Option.some.injEq,Prod.mk.injEq]at h;obtain⟨rfl,rfl,rfl⟩:=h
  exact⟨hp,rfl⟩
 |ret =>
  intro t σ e t' σ' hp h
  have e0:evCT run n d n0 m .ret t σ=some (.ret,t,σ):=rfl
  rw[e0]at h
  simp only[Option.some.injEq,Prod.mk.injEq]at h;obtain⟨rfl,rfl,rfl⟩:=h
  exact⟨hp,rfl⟩
 |ghost g a iha =>
  intro t σ e t' σ' hp h
  have e0:evCT run n d n0 m (.ghost g a) t σ=(match evGT n0 n d g t σ with|some (t',σ')=>evCT run n d n0 m a t' σ'|none=>none):=rfl
  rw[e0]at h
  split at h
  · rename_i h1
    obtain⟨h2,h3⟩:=z8Z hn h1
    obtain⟨h4,h5⟩:=iha _ _ _ _ _ h2 h
    exact⟨h4,by simp only[evC,frcL_eq,frcT_eq,h3,h5]⟩
  · cases h
 |after a g iha =>
  intro t σ e t' σ' hp h
  have e0:evCT run n d n0 m (.after a g) t σ=(match evCT run n d n0 m a t σ with
   |some (.normal,t',σ')=>(match evGT n0 n d g t' σ' with
    |some (t'',σ'')=>some (AExit.normal,t'',σ'')
    |none=>none)
   |r=>r):=rfl
  rw[e0]at h
  split at h
  · rename_i h1
    obtain⟨h2,h3⟩:=iha _ _ _ _ _ hp h1
    split at h
    · rename_i h4
      simp only[Option.some.injEq,Prod.mk.injEq]at h;obtain⟨rfl,rfl,rfl⟩:=h
      obtain⟨h5,h6⟩:=z8Z hn h4
      exact⟨h5,by simp only[evC,frcL_eq,frcT_eq,h3,h6]⟩
    · cases h
  · rename_i hne
    obtain⟨h2,h3⟩:=iha _ _ _ _ _ hp h
    refine⟨h2,?_⟩
    simp only[evC,h3]
    cases e with
    |normal=>exact absurd h (hne _ _)
    |exit=>rfl
    |ret=>rfl
noncomputable def evFBT {P:Program} (C:List (Fun P)) (E:List (Ext P)) (m:Nat) (run:Run):Run:=fun f args σ =>
 match findR f C with
 |some F=>Bool.rec (motive:=fun _=>Option (AV×St)) none (match layT F.n args 0 (fullT .any (Nat.log2 F.n+1)) fun t=>evCT run F.n (Nat.log2 F.n+1) σ.length m F.x t σ with
  |some (.exit _,_,_)=>none
  |some (_,t',σ')=>match resA (toL F.n t') σ' F.rvs with
   |some r=>some (trimmed σ.length r σ')
   |none=>none
  |none=>none) (Nat.ble args.length F.n)
 |none=>match findE f E with
  |some X=>X.go args σ
  |none=>none
theorem zax {P:Program} (C:List (Fun P)) (E:List (Ext P)) (m:Nat) (run:Run) (f:FuncId) (args:List AV) (σ:St) (r:AV) (σ':St) (h:evFBT C E m run f args σ=some (r,σ')) :
  evFB C E m run f args σ=some (r,σ'):=by
 unfold evFBT at h
 unfold evFB
 rw[z73]at h
 split at h
 · rename_i F hF
   simp only[hF,frcL_eq]
   cases hb:Nat.ble args.length F.n with
   |false=>rw[hb]at h;cases h
   |true =>
    rw[hb]at h
    have hl:=Nat.le_of_ble_eq_true hb
    have hn:F.n≤2^(Nat.log2 F.n+1):=Nat.le_of_lt Nat.lt_log2_self
    simp only[z6A]at h
    obtain⟨h1,h2⟩:=z6B hn args 0 (fullT .any (Nat.log2 F.n+1)) (z2o _ _) (by omega)
    have e1:toL F.n (fullT .any (Nat.log2 F.n+1))=List.replicate F.n .any:=by
     apply List.ext_getElem
     · simp[toL]
     · intro i h3 h4
       simp[toL,z5Q]
    have e2:toL F.n (layD F.n args 0 (fullT .any (Nat.log2 F.n+1)))=args++List.replicate (F.n-args.length) .any:=by
     rw[h2,e1];simp
    split at h
    · cases h
    · rename_i e t' s hne he
      obtain⟨h3,h4⟩:=zc5 run hn _ _ _ _ _ _ h1 he
      rw[e2]at h4
      simp only[h4]
      cases e with
      |exit id=>exact absurd rfl (hne id)
      |normal=>exact h
      |ret=>exact h
    · cases h
 · rename_i hF
   simp only[hF]
   exact h
noncomputable def evFT {P:Program} (C:List (Fun P)) (E:List (Ext P)) (Ms:List (Memo P)) (m k:Nat):Run :=
 Nat.rec (motive:=fun _=>Run) (fun _ _ _=>none) (fun _ ih f args σ=>match findM f args σ Ms with
  |some p=>some p
  |none=>evFBT C E m ih f args σ) k
theorem z90 {P:Program} (C:List (Fun P)) (E:List (Ext P)) (Ms:List (Memo P)) (m:Nat):∀(k:Nat) (f:FuncId) (args:List AV) (σ:St) (r:AV) (σ':St),evFT C E Ms m k f args σ=some (r,σ')→Ans P f args σ r σ'
 |0,_,_,_,_,_,h=>by cases h
 |k+1,f,args,σ,r,σ',h=>by
  have e:evFT C E Ms m (k+1) f args σ=(match findM f args σ Ms with
   |some p=>some p
   |none=>evFBT C E m (evFT C E Ms m k) f args σ):=rfl
  rw[e]at h
  split at h
  · rename_i p hp
    simp only[Option.some.injEq]at h
    subst h
    exact z74 hp
  · exact zbN C E m (z90 C E Ms m k) f args σ r σ' (zax C E m _ f args σ r σ' h)
section
variable {P:Program} {n0:Nat} {k:List Fr} {B:Bs} {env:Env} {σ:St} {S:List St} {ob:List St→Prop}
theorem C.split {b:Bool} {x y:ACode} (h:b=true→C P n0 true x y k B env σ) (h':b=false→C P n0 false x y k B env σ):C P n0 b x y k B env σ:=by
 cases b
 · exact h' rfl
 · exact h rfl
theorem OG.split {b:Bool} {d:Option Tmp} {op:AOp} {l:List AOper} (h:b=true→OG P n0 true d op l k B env σ) (h':b=false→OG P n0 false d op l k B env σ):OG P n0 b d op l k B env σ:=by
 cases b
 · exact h' rfl
 · exact h rfl
theorem DG.split {b:Bool} {d:Option Tmp} {op:AOp} {bef:List Nat} {eff:Bool} {lo hi:Nat} {l:List DOper} (h:b=true→DG P n0 true d op bef eff lo hi l k B env S σ ob) (h':b=false→DG P n0 false d op bef eff lo hi l k B env S σ ob):DG P n0 b d op bef eff lo hi l k B env S σ ob:=by
 cases b
 · exact h' rfl
 · exact h rfl
theorem L.scan (n:Nat) (ok:Nat→Bool) (E:Nat→Env) (Z:Nat→St) {clr:List Tmp} {x:ACode}
  (h:∀i,i<n→(∀j,j<i→ok j=true)→∀J:Env→St→Prop,(ok i=true→J (E (i+1)) (Z (i+1)))→R P n0 x (.loop J clr::k) B (E i) (Z i))
  (h':(∀j,j<n→ok j=true)→∀J:Env→St→Prop,R P n0 x (.loop J clr::k) B (E n) (Z n)) (he:env=E 0) (hs:σ=Z 0):L P n0 clr x k B env σ:=by
 refine L.intro (α:={ i:Nat // i≤n∧∀j,j<i→ok j=true }) (fun i=>n-i.1) (fun i=>E i.1) (fun i=>Z i.1) (fun⟨i,hi,hp⟩ J hJ=>?_) ⟨0,Nat.zero_le _,by intro j hj;omega⟩ he hs
 by_cases hlt:i<n
 · exact h i hlt hp J fun hok=>hJ ⟨i+1,hlt,fun j hj=>by
   by_cases hji:j=i
   · rw[hji];exact hok
   · exact hp j (by omega)⟩ (by simp only;omega)
 · have:i=n:=by omega
   subst this
   exact h' hp J
theorem Fini.ret' {m:Nat} {rvs:List RV} {r r':AV} (h:resA env σ rvs=some r') (e:r'=r):Fini m rvs r σ .ret env σ:=Fini.ret (e▸h)
theorem z0G {a b:Bool} (h:a=b):AV.pl (.bool a)=AV.pl (.bool b):=by rw[h]
theorem z1n {k:IntKind} {a b:Int} (h:a=b):AV.pl (.int k a)=AV.pl (.int k b):=by rw[h]
end
attribute [go_sem_proc] List.reduceReplicate Nat.reduceAdd Nat.reduceSub Nat.reduceLT Nat.reduceLeDiff Nat.reduceMul Nat.reduceEqDiff reduceCtorEq Int.reduceLE Int.reduceLT Int.reduceEq Int.reduceNe Int.reduceBEq Int.reduceBNe Int.reduceAdd Int.reduceSub
attribute [go_sem] List.foldl_cons List.foldl_nil R_seq zcq R_ret zcr R_ops zcs zbu zbv zbw zct zcu N_seq zbx zby zcv N_nil X_seq zbz zcw zbA T_seq zbB zbC zcx T_nil zcy zbD O_nil zcz zbE zbF zbG za3 zcA D_nil D_eff zcB D_flo zbH zbI zbJ za4 zcC za5 za6 aop aev tmpA wantA cval AV.okc AV.one AV.cells loadA ldc boolA intA z1V srcA z3a fillA z0a binF unF isB chunks z07 eqCells z1S Value.oneCell' G gh sealV sealL weakA z6X List.cons_append List.nil_append List.append_nil List.length_cons List.length_nil List.set_cons_zero List.set_cons_succ List.getD_cons_zero List.getD_cons_succ List.drop_succ_cons List.drop_zero List.take_succ_cons List.take_zero List.head?_cons List.headD_cons Option.map_some Option.getD_some Option.getD_none Option.map_none Option.some.injEq if_true if_false Bool.false_eq_true List.all_cons List.all_nil Bool.and_self Bool.and_true Bool.true_and true_and and_true List.map_cons List.map_nil List.getElem?_cons_zero List.getElem?_cons_succ List.getElem?_nil Nat.zero_add Nat.add_zero ite_true ite_false Bool.not_true Bool.not_false Bool.not_eq_true' decide_true decide_false List.forall_mem_cons List.not_mem_nil false_imp_iff implies_true forall_const List.isEmpty_cons List.isEmpty_nil Nat.le_refl Int.toNat_natCast Int.natCast_nonneg beq_self_eq_true beq_true beq_false Bool.true_xor Bool.false_xor
theorem Rep.of_bel {M:Nat→Prop} {R R':Ref→Value→Prop} {w:World} {x:AV} {v:Value} (hb:Bel 0 x) (h:Rep M R w x v):Rep M R' w x v:=by
 induction h with
 |any v=>exact .any v
 |pl v=>exact .pl v
 |nils=>exact .nils
 |sl0 sz a cap=>exact .sl0 sz a cap
 |sl sz xs b o cap f hcap hc _ ih =>
  refine .sl sz xs b o cap f hcap hc fun i j hi hj=>ih i j hi hj ?_
  cases hb with
  |sl _ _ h =>
   have:=h i hi
   revert hj
   cases hx:xs[i] with
   |agg cs=>intro hj;rw[hx]at this;cases this with|agg _ h'=>exact h' j hj
   |_=>intro hj;rw[hx]at this;simpa[AV.cells] using this
 |rp cs b o f hc _ ih =>
  refine .rp cs b o f hc fun j hj=>ih j hj ?_
  cases hb with
  |rp _ h=>exact h j hj
 |ptr l off b o h=>cases hb with|ptr _ _ h=>exact absurd h (Nat.not_lt_zero _)
 |osl l n a len cap h=>cases hb with|osl _ _ h=>exact absurd h (Nat.not_lt_zero _)
 |ep l n i off b o h=>cases hb with|ep _ _ _ _ h=>exact absurd h (Nat.not_lt_zero _)
 |psl l off n b o h=>cases hb with|psl _ _ _ h=>exact absurd h (Nat.not_lt_zero _)
 |zsl a=>exact .zsl a
 |win sz l n lo b o cap hl h=>cases hb with|win _ _ _ _ h=>exact absurd h (Nat.not_lt_zero _)
 |agg cs vs hl _ ih =>
  refine .agg cs vs hl fun j hj hj'=>ih j hj hj' ?_
  cases hb with
  |agg _ h=>exact h j hj
 |tup cs vs hl _ ih =>
  refine .tup cs vs hl fun j hj hj'=>ih j hj hj' ?_
  cases hb with
  |tup _ h=>exact h j hj
 |fn g fs cs us vs hl hl' _ _ ih ih' =>
  cases hb with
  |fn _ _ _ h h'=>exact .fn g fs cs us vs hl hl' (fun j hj hj'=>ih j hj hj' (h j hj)) (fun j hj hj'=>ih' j hj hj' (h' j hj))
theorem After.frame {M:Nat→Prop} {σ:St} {ν:Nat→Value} {w w':World} {r:AV} {v:Value} (g:Good M σ ν w) (h:After M [] ν w r [] v w'):After M σ ν w r σ v w':=by
 obtain⟨M',ν',g',l,hr⟩:=h
 have hno:∀b,¬Own [] ν b:=by
  rintro b ⟨i,⟨o,ho,_⟩,_⟩
  simp at ho
 have hk:∀b,b<w.heap.size→w'.heap[b]?=w.heap[b]?:=fun b hb=>l.keep b hb (hno b)
 have hMM:∀b,b<w.heap.size→(M' b↔M b):=fun b hb=>⟨l.mute b hb,fun hm=>l.outer b hb hm (hno b)⟩
 refine⟨M',ν,⟨fun i o ho=>(g.ob i o ho).mono (fun b hb hm=>⟨fun h=>hm ((hMM b hb).1 h),hk b hb⟩) (fun _ _ h=>h) (fun b hbl hd hm=>?_),g'.lt,g.apart⟩,?_,?_⟩
 · have hlt:=(g.ob i o ho).lt hd hbl
   exact⟨(hMM b hlt).2 hm,hk b hlt⟩
 · exact⟨l.size,fun b hb _=>hk b hb,l.mute,fun b hb hm _=>(hMM b hb).2 hm,fun _ _ h=>h,fun _ _ h=>h,l.out⟩
 · refine hr.mono (fun b _ hm=>⟨hm,rfl⟩) fun r v h=>?_
   cases r<;>simp[RefOK]at h
theorem Ans.frame {P:Program} {f:FuncId} {args:List AV} {r:AV} (h:Ans P f args [] r []) (hb:∀a∈args,Bel 0 a) (σ:St):Ans P f args σ r σ:=by
 intro M ν w vs g hr
 have g0:Good M [] ν w:=⟨fun l o ho=>by simp at ho,g.lt,fun l l' b ⟨o,ho,_⟩=>by simp at ho⟩
 have hr0:Reps M (RefOK [] ν) w args vs:=⟨hr.1,fun j hj hj'=>(hr.2 j hj hj').of_bel (hb _ (List.getElem_mem hj))⟩
 rcases h M ν w vs g0 hr0 with⟨h1,h2⟩|⟨v,w',h1,h2⟩
 · refine .inl ⟨h1,?_⟩
   exact h2.mono fun e w' ⟨v,he,ha⟩=>⟨v,he,ha.frame g⟩
 · exact .inr ⟨v,w',h1,h2.frame g⟩
theorem z3w {P:Program} {K:Env→St→Prop}:∀(ds:List DOper) (env:Env) (S:List St) (σ:St) (ob ob':List St→Prop),(∀T,ob T→ob' T)→axd P K ds env S σ ob→axd P K ds env S σ ob'
 |[],env,S,σ,ob,ob',h,hx=>⟨h _ hx.1,hx.2⟩
 |d::ds,env,S,σ,ob,ob',h,hx=>by
  unfold axd at hx⊢
  cases hw:wantA env d.o.guard with
  |none=>rw[hw]at hx;exact hx
  |some b =>
   rw[hw]at hx
   cases b with
   |true =>
    simp only at hx⊢
    split at hx
    · rename_i he
      rw[if_pos he]
      exact z8A (fun r s hk=>z3w ds _ _ _ _ _ h hk) hx
    · rename_i he
      rw[if_neg he]
      obtain⟨r,h1,h2⟩:=hx
      exact⟨r,h1,z3w ds _ _ _ _ _ (fun T ht=>⟨h T ht.1,ht.2⟩) h2⟩
   |false=>exact z3w ds _ _ _ _ _ h hx
section
variable {P:Program} {n0:Nat} {k:List Fr} {B:Bs} {env:Env} {S:List St} {σ:St} {ob:List St→Prop}
def CS (P:Program) (n0:Nat) (f:FuncId) (args:List AV) (d:Option Tmp) (lo hi:Nat) (l:List DOper) (k:List Fr) (B:Bs) (env:Env) (S:List St) (σ:St) (ob:List St→Prop):Prop :=
 ∃r,Ans P f args σ r σ∧D P n0 l k B (putA env d r) S σ (fun T=>ob T∧∀s∈(T.take (hi+1)).drop lo,Ans P f args s r s)
theorem z0p (d:Option Tmp) (f:Operand) (args:List Operand) (bef:List Nat) (lo hi:Nat) (l:List DOper):D P n0 (⟨⟨d,none,.call f args⟩,bef,false,lo,hi⟩::l) k B env S σ ob=(match aev env f with
  |.fn g fs cs=>CS P n0 g (fs++args.map (aev env)++cs) d lo hi l k B env S σ ob
  |_=>False):=by
 unfold CS D
 simp only[axd,wantA,Bool.false_eq_true,if_false,stay]
 cases aev env f<;>simp
theorem CS.intro {f:FuncId} {args:List AV} {d:Option Tmp} {lo hi:Nat} {l:List DOper} {r:AV} (h:∀s,Ans P f args s r s) (h':D P n0 l k B (putA env d r) S σ ob):CS P n0 f args d lo hi l k B env S σ ob:=by
 refine⟨r,h σ,?_⟩
 unfold D at h'⊢
 exact z3w _ _ _ _ _ _ (fun T ht=>⟨ht,fun s _=>h s⟩) h'
end
def Sub (a b:AV):Prop:=∀(M:Nat→Prop) (R:Ref→Value→Prop) (w:World) (v:Value),Rep M R w a v→Rep M R w b v
theorem Sub.refl (a:AV):Sub a a:=fun _ _ _ _ h=>h
theorem Sub.any (a:AV):Sub a .any:=fun _ _ _ v _=>.any v
theorem Sub.nils (sz:Nat):Sub .nils (.sl sz []):=fun _ _ _ v h=>by cases h;exact .sl0 _ _ _
theorem Sub.zsl (sz:Nat):Sub .zsl (.sl sz []):=fun _ _ _ v h=>by cases h;exact .sl0 _ _ _
inductive Subs:List AV→List AV→Prop
 |nil:Subs [] []
 |cons {a b:AV} {as bs:List AV} (h:Sub a b) (t:Subs as bs):Subs (a::as) (b::bs)
theorem Subs.refl:∀as:List AV,Subs as as
 |[]=>.nil
 |a::as=>.cons (.refl a) (Subs.refl as)
theorem Subs.reps {M:Nat→Prop} {R:Ref→Value→Prop} {w:World}:∀{as bs:List AV} {vs:List Value},Subs as bs→Reps M R w as vs→Reps M R w bs vs
 |_,_,[],.nil,h=>h
 |_,_,_::_,.nil,h=>by simp[Reps]at h
 |_,_,[],.cons _ _,h=>by simp[Reps]at h
 |_,_,_::_,.cons h t,hr=>.cons (h _ _ _ _ hr.head) (t.reps hr.tail)
theorem Sub.tup {as bs:List AV} (h:Subs as bs):Sub (.tup as) (.tup bs):=fun _ _ _ _ hr=>by
 obtain⟨vs,rfl,h2⟩:=hr.tup_inv
 exact .of_tup (h.reps h2)
theorem Sub.agg {as bs:List AV} (h:Subs as bs):Sub (.agg as) (.agg bs):=fun _ _ _ _ hr=>by
 obtain⟨vs,rfl,h2⟩:=hr.agg_inv
 exact .of_agg (h.reps h2)
section
variable {P:Program} {f:FuncId} {args args':List AV} {σ σ':St} {r r':AV}
theorem Ans.sub (h:Ans P f args σ r σ') (ha:Subs args' args) (hr:Sub r r'):Ans P f args' σ r' σ':=by
 intro M ν w vs g hvs
 have key:∀v w',After M σ ν w r σ' v w'→After M σ ν w r' σ' v w':=fun v w' ⟨M',ν',g',l',r1⟩=>⟨M',ν',g',l',hr _ _ _ _ r1⟩
 rcases h M ν w vs g (ha.reps hvs) with⟨h1,h2⟩|⟨v,w',h1,h2⟩
 · exact .inl ⟨h1,h2.mono fun e w' ⟨v,he,h3⟩=>⟨v,he,key v w' h3⟩⟩
 · exact .inr ⟨v,w',h1,key v w' h2⟩
theorem Ans.subR (h:Ans P f args σ r σ') (hr:Sub r r'):Ans P f args σ r' σ':=h.sub (.refl _) hr
theorem Ans.shut {sz n:Nat} {xs:List AV} (h:Ans P f args σ (.osl σ.length n) (σ++[.row sz xs])) (hn:n=xs.length) (hb:Bel σ.length (.sl sz xs)):Ans P f args σ (.sl sz xs) σ:=by
 intro M ν w vs g hvs
 have hget:(σ++[Ob.row sz xs])[σ.length]?=some (.row sz xs):=by simp
 have hs:sealV (σ++[Ob.row sz xs]) (.osl σ.length n)=some (.sl sz xs,(σ++[Ob.row sz xs]).set σ.length .dead):=by
  simp only[sealV,hget,hn,if_true]
 have ht:((σ++[Ob.row sz xs]).set σ.length .dead).take σ.length=σ:=by simp
 have key:∀v w',After M σ ν w (.osl σ.length n) (σ++[.row sz xs]) v w'→After M σ ν w (.sl sz xs) σ v w':=by
  rintro v w' ⟨M',ν',g',l',r1⟩
  obtain⟨M2,g2,l2,r2⟩:=z2O g' hs r1
  have hbo:∀o∈((σ++[Ob.row sz xs]).set σ.length .dead).take σ.length,BelO σ.length o:=by rw[ht];exact g.bel
  have g3:=g2.take hbo
  have l3:=(l'.trans l2).take (m:=σ.length) (Nat.le_refl _)
  have r3:=r2.take hb
  rw[ht]at g3 l3 r3
  exact⟨M2,ν',g3,l3,r3⟩
 rcases h M ν w vs g hvs with⟨h1,h2⟩|⟨v,w',h1,h2⟩
 · exact .inl ⟨h1,h2.mono fun e w' ⟨v,he,h3⟩=>⟨v,he,key v w' h3⟩⟩
 · exact .inr ⟨v,w',h1,key v w' h2⟩
theorem Reps.split {M:Nat→Prop} {R:Ref→Value→Prop} {w:World}:∀{a b:List AV} {vs:List Value},Reps M R w (a++b) vs→∃us ws,vs=us++ws∧Reps M R w a us∧Reps M R w b ws
 |[],b,vs,h=>⟨[],vs,rfl,.nil,h⟩
 |x::a,b,[],h=>by simp[Reps]at h
 |x::a,b,v::vs,h=>by
  obtain⟨us,ws,rfl,h1,h2⟩:=Reps.split (a:=a) (b:=b) h.tail
  exact⟨v::us,ws,rfl,.cons h.head h1,h2⟩
end
end Go.Ab
namespace Go.Cod
open Go
abbrev Byt:=List UInt8
abbrev Rd (α:Type):=Byt→Option (α×Byt)
structure Fits {α:Type} (rd:Rd α) (wr:α→Byt) (ok:α→Prop):Prop where
 fwd:∀a t,ok a→rd (wr a++t)=some (a,t)
 bwd:∀b a t,rd b=some (a,t)→ok a∧b=wr a++t
def putN (n:Nat):Byt:=if h:n<128 then[n.toUInt8] else(n%128+128).toUInt8::putN (n/128)
termination_by n
decreasing_by omega
theorem z2D {n:Nat} (h:n<128):putN n=[n.toUInt8]:=by rw[putN];simp[h]
theorem z5f {n:Nat} (h:¬n<128):putN n=(n%128+128).toUInt8::putN (n/128):=by rw[putN];simp[h]
theorem z3U (n:Nat):putN n≠[]:=by
 by_cases h:n<128
 · rw[z2D h];simp
 · rw[z5f h];simp
theorem toNat_toUInt8 {n:Nat} (h:n<256):n.toUInt8.toNat=n:=by
 simp only[Nat.toUInt8,UInt8.toNat_ofNat'];omega
def txtB (s:ByteArray):Byt:=putN s.size++s.data.toList
theorem z2d (s:ByteArray):s.data.toList.length=s.size:=Array.length_toList
def wrdB (w:Nat):Byt:=[(w/2^56).toUInt8,(w/2^48).toUInt8,(w/2^40).toUInt8,(w/2^32).toUInt8,(w/2^24).toUInt8,(w/2^16).toUInt8,(w/2^8).toUInt8,w.toUInt8]
theorem toUInt8_mod (n:Nat):n.toUInt8.toNat=n%256:=by simp[Nat.toUInt8]
section
variable {α β:Type} {rd:Rd α} {wr:α→Byt} {ok:α→Prop}
theorem Fits.rest (h:Fits rd wr ok) {b:Byt} {a:α} {t:Byt} (hr:rd b=some (a,t)):t.length≤b.length∧b.drop (b.length-t.length)=t∧(wr a).length=b.length-t.length:=by
 have:=(h.bwd b a t hr).2
 subst this
 simp
def z17 (wr:α→Byt) (l:List α):Byt:=l.flatMap wr
def z2e (wr:α→Byt) (l:List α):Byt:=putN l.length++z17 wr l
theorem Fits.cut (h:Fits rd wr ok) {a:α} (ho:ok a) {k:Nat} (hk:k<(wr a).length):rd ((wr a).take k)=none:=by
 cases hr:rd ((wr a).take k) with
 |none=>rfl
 |some p =>
  obtain⟨x,t⟩:=p
  obtain⟨h1,h2⟩:=h.bwd _ _ _ hr
  have h3:wr a=wr x++(t++(wr a).drop k):=by rw[←List.append_assoc,←h2,List.take_append_drop]
  have h4:=h.fwd a [] ho
  rw[List.append_nil,h3,h.fwd x _ h1]at h4
  simp only[Option.some.injEq,Prod.mk.injEq,List.append_eq_nil_iff,List.drop_eq_nil_iff]at h4
  omega
theorem Fits.apart (h:Fits rd wr ok) {a b:α} (ha:ok a) (hb:ok b) (he:wr a=wr b):a=b:=by
 have h1:=h.fwd a [] ha
 rw[he,h.fwd b [] hb]at h1
 simpa using h1.symm
end
def EndsR {α:Type} (rd:Rd α):Prop:=∀b x t,rd b=some (x,t)→∃w,b=w++t
section
variable {α β:Type}
theorem EndsR.drop {rd:Rd α} (h:EndsR rd) {b:Byt} {a:Nat} {x:α} {t:Byt} (ha:a≤b.length) (hr:rd (b.drop a)=some (x,t)) :
  b.drop (b.length-t.length)=t∧a≤b.length-t.length∧t.length≤b.length:=by
 obtain⟨w,hw⟩:=h _ _ _ hr
 have hl:b.length-a=w.length+t.length:=by rw[←List.length_drop,hw,List.length_append]
 have e:b.length-t.length=a+w.length:=by omega
 refine⟨?_,by omega,by omega⟩
 rw[e,←List.drop_drop,hw,List.drop_left]
end
end Go.Cod
namespace Go.Ab
open Go Go.ChangeShapes Go.WideShapes Go.RowKit
structure Kept (W W':World):Prop where
 size:W.heap.size≤W'.heap.size
 block:∀b,b<W.heap.size→W'.heap[b]?=W.heap[b]?
 os:W'.os=W.os
 output:W'.output=W.output
theorem Kept.frame {W W':World} (h:Kept W W') (may:MemPlace→Prop):W.keptBut W' may:=by
 refine⟨h.os,h.output,fun i hi=>?_⟩
 rw[h.block i hi]
 split<;>simp_all
theorem Kept.same {W W':World} (h:Kept W W') {p:MemPlace} (hp:p.block<W.heap.size):W.sameAt W' p:=by
 cases p with
 |cell b o=>exact World.cell?_of_block (w:=W) (h.block b hp)
 |map b=>exact h.block b hp
theorem zaO (W:World) (ν:Nat→Value):Good (fun _=>False) [] ν W :=
 ⟨fun l o h=>by simp at h,fun b h=>h.elim,fun l l' b h=>by obtain⟨o,h,_⟩:=h;simp at h⟩
abbrev noR:Ref→Value→Prop:=RefOK [] fun _=>.nilFunc
theorem Ans.law {P : Program} {f : FuncId} {fn : Func} {args : List AV} {r : AV} {σ' : St} (hf : P.funcs[f]? = some fn) (hname : (fn.name == "runtime.NumGoroutine") = false) (hbody : fn.body.isNone = false)
  (h:Ans P f args [] r σ') {W:World} {vs:List Value} (hv:Reps (fun _=>False) noR W args vs) :
  Calls P f vs.toArray W fun e W'=>∃v,e=.returned v∧Kept W W'∧∃M' R',Rep M' R' W' r v:=by
 rcases h _ _ W vs (zaO W _) hv with⟨_,h⟩|⟨v,w',h,_⟩
 · refine h.mono fun e W' ⟨v,he,M',ν',g',l',hr⟩=>⟨v,he,⟨l'.size,fun b hb=>l'.keep b hb ?_,l'.out.1,l'.out.2⟩,M',_,hr⟩
   rintro⟨l,⟨o,ho,_⟩,_⟩
   simp at ho
 · exfalso
   have h1 : fn.name ≠ "runtime.NumGoroutine" := by simpa using hname
   have h2:fn.body≠none:=by intro e;simp[e]at hbody
   simp[callFunc,hf,h1,h2]at h
theorem z2X {H:Type} {enc:TypeId×Value→H} {P:Program} (hl:laidOutB P=true) {W W':World} (hk:Kept W W') {sp:Nat→Bool} :
  ∀{ts:List TypeId} {vs:List Value} {ds:List (DataW H)} {ps:List MemPlace},(∀t∈ts,P.readableRec t=true∧t<P.types.size)→DataW.TrodAll enc P W 0 (fun _=>true) true ts vs ds ps →
   (∀p∈ps,p.block<W.heap.size∧sp p.block=true)→DataW.TrodAll enc P W' 0 sp true ts vs ds ps
 |[],_,_,_,_,h,_=>by
  obtain⟨rfl,rfl,rfl⟩:=trodAll_nil h
  rfl
 |t::ts,vs,ds,ps,ht,h,hp=>by
  obtain⟨v,vs1,d,ds1,a,b,rfl,rfl,rfl,h1,h2⟩:=trodAll_cons h
  exact⟨a,b,WideElems.Trod_stays hl (ht t (List.mem_cons_self)).1 (ht t (List.mem_cons_self)).2 h1 (fun x hx=>hk.same (hp x (by simp[hx])).1) (fun x hx=>(hp x (by simp[hx])).2),
   z2X hl hk (fun t' ht'=>ht t' (List.mem_cons_of_mem _ ht')) h2 (fun x hx=>hp x (by simp[hx])),rfl⟩
theorem zaP {H:Type} {enc:TypeId×Value→H} {P:Program} {fn:Func} {s:ChangeSpec} {W W':World} {args:Array Value} {ds gs:List (DataW H)} {before:List MemPlace} {tb:TypeId}
  (hl:laidOutB P=true) (hts:∀t∈fn.params.toList,P.readableRec t=true∧t<P.types.size) (hvars:s.vars=[]) (hres:fn.resultTypes=#[tb]) (hb:P.underlying tb=some .bool)
  (hW:DataW.Whole enc P fn.params.toList s.vars false W args.toList ds gs before) (hspec:∀ds:List (DataW H),ds.length=fn.params.size→(s.fn H ds).results=[.lit (.bool true)]∧(s.fn H ds).args=ds∧(s.fn H ds).vars=[])
  (hk:Kept W W'):s.post enc P fn false true false false W args (.bool true) W':=by
 have hlt:=hW.lt
 obtain⟨p,q,hA,hV,rfl,hfz,hnd⟩:=id hW
 have hV':=hV
 rw[hvars]at hV'
 obtain⟨rfl,rfl⟩:=trodVars_none hV'
 have hlen:ds.length=fn.params.size:=by
  have:∀{ts:List TypeId} {vs:List Value} {ds:List (DataW H)} {ps:List MemPlace},DataW.TrodAll enc P W 0 (fun _=>true) true ts vs ds ps→ds.length=ts.length:=by
   intro ts
   induction ts with
   |nil=>intro vs ds ps h;obtain⟨_,rfl,_⟩:=trodAll_nil h;rfl
   |cons t ts ih=>intro vs ds ps h;obtain⟨v,vs1,d,ds1,a,b,rfl,rfl,rfl,h1,h2⟩:=trodAll_cons h;simp[ih h2]
  simpa using this hA
 obtain⟨e1,e2,e3⟩:=hspec ds hlen
 refine⟨ds,[],p++[],[],p,[],hW,?_,?_,?_,hk.frame _,fun h=>by cases h⟩
 · rw[List.append_nil,e1,hres]
   exact⟨[],[],shut_bool hb true,rfl,rfl⟩
 · rw[List.append_nil,e2]
   exact z2X hl hk hts hA fun x hx=>⟨hlt x (by simp[hx]),by simpa using hlt x (by simp[hx])⟩
 · rw[List.append_nil,e3,hvars]
   exact rfl
end Go.Ab
namespace Go.Ab
open Go Go.ChangeShapes Go.WideShapes
abbrev noM:Nat→Prop:=fun _=>False
def Reads (P:Program) (t:TypeId) (f:Nat) (Q:List AV→Prop):Prop :=
 ∀(H:Type) (enc:TypeId×Value→H) (W:World) (cs:List Value) (x:DataW H×List MemPlace),DataW.trod enc P W 0 (fun _=>true) true f t cs=some x →
  ∃xs,Reps noM noR W xs cs∧Q xs
section
variable {P:Program} {t:TypeId} {W:World}
theorem z7n:Reps noM noR W [] []:=⟨rfl,fun j h=>by simp at h⟩
theorem z27 {x:AV} {v:Value} (h:Rep noM noR W x v):Reps noM noR W [x] [v] :=
 ⟨rfl,fun j h1 h2=>by
  match j,h1,h2 with
  |0,_,_=>exact h⟩
theorem z4g {a b:List AV} {c d:List Value} (h:Reps noM noR W a c) (h':Reps noM noR W b d):Reps noM noR W (a++b) (c++d):=by
 refine⟨by simp[h.1,h'.1],fun j h1 h2=>?_⟩
 by_cases hj:j<a.length
 · rw[List.getElem_append_left hj,List.getElem_append_left (by have:=h.1;omega)]
   exact h.2 j hj _
 · have e:=h.1
   simp only[List.length_append]at h1 h2
   rw[List.getElem_append_right (by omega),List.getElem_append_right (by omega)]
   have:=h'.2 (j-a.length) (by omega) (by omega)
   simpa[e] using this
theorem Reads.mono {f:Nat} {Q Q':List AV→Prop} (h:Reads P t f Q) (hq:∀xs,Q xs→Q' xs):Reads P t f Q':=by
 intro H enc W cs x hx
 obtain⟨xs,h1,h2⟩:=h H enc W cs x hx
 exact⟨xs,h1,hq _ h2⟩
theorem Reads.zero {Q:List AV→Prop}:Reads P t 0 Q:=by
 intro H enc W cs x hx
 simp[DataW.trod]at hx
def QInt (k:IntKind):List AV→Prop:=fun xs=>∃n,(Lit.int k n).wf=true∧xs=[.pl (.int k n)]
def QBool:List AV→Prop:=fun xs=>∃b,xs=[.pl (.bool b)]
def QText:List AV→Prop:=fun xs=>∃s:ByteArray,s.size≤maxLen∧xs=[.pl (.string s)]
theorem Reads.int {k:IntKind} (h:P.underlying t=some (.int k)) (f:Nat):Reads P t f (QInt k):=by
 intro H enc W cs x hx
 obtain⟨n,rfl,_,hw⟩:=DataW.trod_int h hx
 exact⟨_,z27 (.pl _),n,hw,rfl⟩
theorem Reads.bool (h:P.underlying t=some .bool) (f:Nat):Reads P t f QBool:=by
 intro H enc W cs x hx
 obtain⟨n,rfl,_⟩:=DataW.trod_bool h hx
 exact⟨_,z27 (.pl _),n,rfl⟩
theorem Reads.text (h:P.underlying t=some .string) (f:Nat):Reads P t f QText:=by
 intro H enc W cs x hx
 obtain⟨s,rfl,_,hs⟩:=DataW.trod_string h hx
 exact⟨_,z27 (.pl _),s,hs,rfl⟩
def QStr:List (List AV→Prop)→List AV→Prop
 |[],xs=>xs=[]
 |Q::Qs,xs=>∃a b,xs=a++b∧Q a∧QStr Qs b
def laidF (P:Program):Nat→List Field→Option Nat
 |o,[]=>some o
 |o,f::fs=>if f.offset=o then laidF P (o+P.cellsOf f.type) fs else none
theorem z7o:∀{l:List Field} {o E:Nat},laidF P o l=some E→o≤E
 |[],o,E,h=>by simp[laidF]at h;omega
 |f::l,o,E,h=>by
  simp only[laidF]at h
  split at h
  · have:=z7o h;omega
  · simp at h
theorem z2Y {α:Type} (cs:List α) (o s E:Nat) (h:o+s≤E):(cs.drop o).take (E-o)=(cs.drop o).take s++(cs.drop (o+s)).take (E-(o+s)):=by
 have:E-o=s+(E-(o+s)):=by omega
 rw[this,List.take_add,List.drop_drop]
theorem z3r {H:Type} {enc:TypeId×Value→H} {cs:List Value} {n:Nat}:∀(l:List Field) (Qs:List (List AV→Prop)) (o E:Nat),laidF P o l=some E→E≤cs.length→l.length=Qs.length →
  (∀p∈l.zip Qs,Reads P p.1.type n p.2)→(∀g∈l,∃y,DataW.trod enc P W 0 (fun _=>true) true n g.type ((cs.drop g.offset).take (P.cellsOf g.type))=some y) →
  ∃xs,Reps noM noR W xs ((cs.drop o).take (E-o))∧QStr Qs xs
 |[],[],o,E,h,_,_,_,_=>by
  simp[laidF]at h
  subst h
  exact⟨[],by simpa using z7n,rfl⟩
 |[],_::_,_,_,_,_,h,_,_=>by simp at h
 |_::_,[],_,_,_,_,h,_,_=>by simp at h
 |g::l,Q::Qs,o,E,h,hE,hl,hr,hg=>by
  simp only[laidF]at h
  split at h
  · rename_i ho
    have hle:=z7o h
    obtain⟨y,hy⟩:=hg g List.mem_cons_self
    obtain⟨a,ha,hQ⟩:=hr (g,Q) (by simp) H enc W _ _ hy
    obtain⟨b,hb,hQs⟩:=z3r l Qs _ E h hE (by simpa using hl) (fun p hp=>hr p (by simp[hp])) (fun g' hg'=>hg g' (by simp[hg']))
    refine⟨a++b,?_,a,b,rfl,hQ,hQs⟩
    rw[z2Y cs o (P.cellsOf g.type) E hle]
    rw[ho]at ha
    exact z4g ha hb
  · simp at h
theorem Reads.struct {fs:Array Field} {Qs:List (List AV→Prop)} {f:Nat} (h:P.underlying t=some (.struct fs)) (hl:laidF P 0 fs.toList=some (P.cellsOf t)) (hq:fs.toList.length=Qs.length)
  (hr:∀p∈fs.toList.zip Qs,Reads P p.1.type f p.2):Reads P t (f+1) (QStr Qs):=by
 intro H enc W cs x hx
 obtain⟨xs,n,hn,_,hlen,hxl,hget⟩:=DataW.trod_struct h hx
 obtain rfl:f=n:=by omega
 obtain⟨ys,h1,h2⟩:=z3r (W:=W) (enc:=enc) (cs:=cs) fs.toList Qs 0 (P.cellsOf t) hl (by omega) hq hr (fun g hg=>by
  obtain⟨i,hi,rfl⟩:=List.getElem_of_mem hg
  have hi':i<fs.size:=by simpa using hi
  have:=hget i (fs[i]) (by simp[hi'])
  rw[List.getElem?_eq_getElem (by omega)]at this
  exact⟨_,by simpa using this⟩)
 refine⟨ys,?_,h2⟩
 have:(cs.drop 0).take (P.cellsOf t-0)=cs:=by simp[←hlen]
 rwa [this]at h1
theorem Reads.array {n:Nat} {e:TypeId} {Q:List AV→Prop} {f:Nat} (h:P.underlying t=some (.array n e)) (hc:n*P.cellsOf e=P.cellsOf t) (hr:Reads P e f Q):Reads P t (f+1) (QStr (List.replicate n Q)):=by
 intro H enc W cs x hx
 obtain⟨xs,m,hm,_,hlen,hxl,hget⟩:=DataW.trod_array h hx
 obtain rfl:f=m:=by omega
 have key:∀k,k≤n→∃xs,Reps noM noR W xs ((cs.drop ((n-k)*P.cellsOf e)).take (n*P.cellsOf e-(n-k)*P.cellsOf e))∧QStr (List.replicate k Q) xs:=by
  intro k
  induction k with
  |zero=>intro _;exact⟨[],by simpa using z7n,rfl⟩
  |succ k ih =>
   intro hk
   obtain⟨b,hb,hQb⟩:=ih (by omega)
   have h1:=hget (n-(k+1)) (by omega)
   rw[List.getElem?_eq_getElem (by omega)]at h1
   obtain⟨a,ha,hQa⟩:=hr H enc W _ _ h1
   refine⟨a++b,?_,a,b,rfl,hQa,hQb⟩
   have e1:(n-(k+1))*P.cellsOf e+P.cellsOf e=(n-k)*P.cellsOf e:=by
    have:n-k=(n-(k+1))+1:=by omega
    rw[this,Nat.add_mul,Nat.one_mul]
   have e2:(n-k)*P.cellsOf e≤n*P.cellsOf e:=Nat.mul_le_mul_right _ (by omega)
   rw[z2Y cs ((n-(k+1))*P.cellsOf e) (P.cellsOf e) (n*P.cellsOf e) (by omega),e1]
   exact z4g ha hb
 obtain⟨ys,h1,h2⟩:=key n (Nat.le_refl _)
 refine⟨ys,?_,h2⟩
 have:(cs.drop ((n-n)*P.cellsOf e)).take (n*P.cellsOf e-(n-n)*P.cellsOf e)=cs:=by simp[hc,←hlen]
 rwa [this]at h1
def wrapC (ag:Bool) (y:List AV):AV:=if ag then .agg y else y.headD .any
def QSlice (sz:Nat) (ag:Bool) (Q:List AV→Prop):List AV→Prop:=fun xs =>
 xs=[.nils]∨∃ys:List (List AV),(∀y∈ys,Q y)∧ys.length≤maxLen∧xs=[.sl sz (ys.map (wrapC ag))]
theorem Reads.slice {e:TypeId} {Q:List AV→Prop} {f sz:Nat} (ag:Bool) (h:P.underlying t=some (.slice e)) (hsz:P.cellsOf e=sz) (hpos:0<sz) (hr:Reads P e f Q)
  (hQ:∀y,Q y→y.length=sz→(wrapC ag y).cells=y):Reads P t (f+1) (QSlice sz ag Q):=by
 subst hsz
 intro H enc W cs x hx
 rcases DataW.trod_slice h hx with⟨rfl,_⟩|⟨a,len,cap,elems,rest,n,hn,rfl,_,_,hlc,hcm,hel,hget,_,_⟩
 · exact⟨[.nils],z27 .nils,.inl rfl⟩
 · obtain rfl:f=n:=by omega
   by_cases h0:len=0
   · subst h0
     exact⟨[.sl _ []],z27 (.sl0 _ _ _),.inr ⟨[],by simp,by simp,rfl⟩⟩
   have hcell:∀i,i<len→∃ci:List Value,ci.length=P.cellsOf e∧(∀j,j<P.cellsOf e→W.cell? ((a.add (i*P.cellsOf e)).add j)=ci[j]?)∧∃y,Reps noM noR W y ci∧Q y:=by
    intro i hi
    have h1:=hget i hi
    rw[List.getElem?_eq_getElem (by omega)]at h1
    obtain⟨ci,h2,h3⟩:=Option.bind_eq_some_iff.1 h1
    obtain⟨_,h4,h5⟩:=World.cells?_some h2
    obtain⟨y,h6,h7⟩:=hr H enc W _ _ h3
    exact⟨ci,h4,h5,y,h6,h7⟩
   have hspot:a.spot=none:=by
    obtain⟨ci,h4,h5,_⟩:=hcell 0 (by omega)
    have:=h5 0 hpos
    rw[Nat.zero_mul]at this
    simp only[Addr.add,if_true]at this
    rw[List.getElem?_eq_getElem (by omega)]at this
    cases hs:a.spot with
    |none=>rfl
    |some s =>
     exfalso
     simp only[World.cell?,hs,Option.isSome_some,if_true]at this
     split at this<;>simp at this
   obtain⟨b,o,sp⟩:=a
   simp only at hspot
   subst hspot
   have hadd:∀k j,((⟨b,o,none⟩:Addr).add k).add j=⟨b,o+(k+j),none⟩:=by
    intro k j
    unfold Addr.add
    split<;>split<;>simp_all<;>omega
   let g:Nat→List AV:=fun i=>if hi:i<len then Classical.choose (Classical.choose_spec (hcell i hi)).2.2 else[]
   have hg:∀i (hi:i<len),Reps noM noR W (g i) (Classical.choose (hcell i hi))∧Q (g i):=by
    intro i hi
    simp only[g,dif_pos hi]
    exact Classical.choose_spec (Classical.choose_spec (hcell i hi)).2.2
   have hc:∀i (hi:i<len),(Classical.choose (hcell i hi)).length=P.cellsOf e∧∀j,j<P.cellsOf e→W.cell? ⟨b,o+(i*P.cellsOf e+j),none⟩=(Classical.choose (hcell i hi))[j]?:=by
    intro i hi
    have:=Classical.choose_spec (hcell i hi)
    exact⟨this.1,fun j hj=>by rw[←hadd];exact this.2.1 j hj⟩
   have hw:∀i (hi:i<len),(wrapC ag (g i)).cells=g i:=fun i hi=>hQ _ (hg i hi).2 (by rw[(hg i hi).1.1,(hc i hi).1])
   refine⟨[.sl (P.cellsOf e) (((List.range len).map g).map (wrapC ag))],z27 ?_,.inr ⟨(List.range len).map g,?_,by simp;omega,rfl⟩⟩
   · have hl:(((List.range len).map g).map (wrapC ag)).length=len:=by simp
     have hi':∀i (hi:i<(((List.range len).map g).map (wrapC ag)).length),(((List.range len).map g).map (wrapC ag))[i]=wrapC ag (g i):=by intro i hi;simp
     have:=Rep.sl (M:=noM) (R:=noR) (w:=W) (P.cellsOf e) (((List.range len).map g).map (wrapC ag)) b o cap (fun i j=>(W.cell? ⟨b,o+(i*P.cellsOf e+j),none⟩).getD .nilFunc) (by rw[hl];exact hlc)
      (fun i j hi hj=>by
       have hi2:i<len:=by rw[hl]at hi;exact hi
       rw[hi',hw i hi2,(hg i hi2).1.1,(hc i hi2).1]at hj
       refine⟨hj,id,?_⟩
       rw[(hc i hi2).2 j hj,List.getElem?_eq_getElem (by rw[(hc i hi2).1];exact hj)]
       rfl)
      (fun i j hi hj=>by
       have hi2:i<len:=by rw[hl]at hi;exact hi
       have hj2:j<P.cellsOf e:=by rw[hi',hw i hi2,(hg i hi2).1.1,(hc i hi2).1]at hj;exact hj
       have h1:=(hg i hi2).1.2 j (by rw[(hg i hi2).1.1,(hc i hi2).1];exact hj2) (by rw[(hc i hi2).1];exact hj2)
       simp only[(hc i hi2).2 j hj2,List.getElem?_eq_getElem (show j<(Classical.choose (hcell i hi2)).length by rw[(hc i hi2).1];exact hj2),Option.getD_some]
       have e1:((((List.range len).map g).map (wrapC ag))[i]).cells=g i:=by rw[hi',hw i hi2]
       simp only[e1]
       exact h1)
     rw[hl]at this
     exact this
   · intro y hy
     simp only[List.mem_map,List.mem_range]at hy
     obtain⟨i,hi,rfl⟩:=hy
     exact(hg i hi).2
theorem Reads.argS {Q:List AV→Prop} {H:Type} {enc:TypeId×Value→H} {cs:Array Value} {d:DataW H} {ps:List MemPlace} (hr:∀f,Reads P t f Q) (h:DataW.Trod enc P W 0 (fun _=>true) true t (.agg cs) d ps) :
  ∃xs,Rep noM noR W (.agg xs) (.agg cs)∧Q xs:=by
 obtain⟨f,hf⟩:=h
 obtain⟨xs,h1,h2⟩:=hr f H enc W _ _ hf
 refine⟨xs,?_,h2⟩
 have:=Rep.agg (M:=noM) (R:=noR) (w:=W) xs cs.toList h1.1 h1.2
 simpa using this
end
end Go.Ab
