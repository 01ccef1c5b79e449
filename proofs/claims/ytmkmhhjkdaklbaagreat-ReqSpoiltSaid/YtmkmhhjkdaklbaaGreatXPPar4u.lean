/- What statements draw: names, values, patterns, matchers. No condition. -/
import Derived.Test.YtmkmhhjkdaklbaaGreatXMDr1u
import Derived.Test.YtmkmhhjkdaklbaaGreatAbSXu
import Derived.Test.YtmkmhhjkdaklbaaGreatAbArgu
import Derived.Test.YtmkmhhjkdaklbaaGreatProg
import Derived.Test.YtmkmhhjkdaklbaaGreatAbStepu
import Derived.Laws.Externs
set_option linter.unusedSimpArgs false
set_option linter.unusedVariables false
set_option linter.unusedSectionVars false
namespace Go.Proofs.YtmkmhhjkdaklbaaGreat
open Go Go.Ab
set_option maxRecDepth 100000
abbrev I (n:Int):AV:=.pl (.int .i64 n)
abbrev Bo (b:Bool):AV:=.pl (.bool b)
abbrev Sx (s:ByteArray):AV:=.pl (.string s)
theorem wrapN {n:Int} (h: -9223372036854775808≤n) (h':n<9223372036854775808):IntKind.i64.wrap n=n:=by
 simp only[IntKind.wrap,IntKind.bits,IntKind.signed];simp;omega
theorem z5G {args:List AV} (h:belL 0 args=true):∀a∈args,Bel 0 a:=fun a ha=>by
 obtain⟨i,hi,rfl⟩:=List.getElem_of_mem ha;exact Bel.of_mem (z3I 0 args h) i hi
theorem Fini.ret2 {n m:Nat} {rvs:List RV} {r r':AV} {σ σ':St} {env:Env} (h:resA env σ rvs=some r') (e:r'=r) (e':σ=σ'):Fini m rvs r σ' .ret env σ:=by
 subst e;subst e';exact Fini.ret h
theorem Fini.trim2 {m:Nat} {rvs:List RV} {r:AV} {σ σ' ex:St} {env:Env} (h:resA env σ rvs=some r) (he:σ=σ'++ex) (hl:m≤σ'.length) (hb:Bel σ'.length r) (ho:∀o∈σ',BelO σ'.length o):Fini m rvs r σ' .ret env σ:=by
 subst he;exact⟨r,σ'++ex,h,rfl,rfl,.inr ⟨hl,by simp,hb,ho⟩⟩
def names:List ByteArray:=[⟨#[115,101,118]⟩,⟨#[106,111,98]⟩,⟨#[104,111,115,116]⟩,⟨#[95,120]⟩,⟨#[90,111,110,101,57]⟩]
def values:List ByteArray:=[⟨#[97]⟩,⟨#[98]⟩,⟨#[99,114,105,116]⟩,⟨#[119,97,114,110]⟩,⟨#[97,98]⟩,⟨#[0,255]⟩,⟨#[97,98,97,98,97,98,97,98,97,98,97,98,97,98,97,98,97,98,97,98,97,98,97,98]⟩]
def pats:List ByteArray:=[⟨#[97,124,98]⟩,⟨#[]⟩,⟨#[40,99,114,105,116,124,119,97,114,110,41]⟩,⟨#[91,97,45,99,93,43,46,42]⟩,⟨#[46,43]⟩,⟨#[40,97,98,41,42]⟩,⟨#[97,63,98,63]⟩,⟨#[91,94,97,93,42]⟩,⟨#[97,42,97,42,97,42,97,42,97,42,97,42,97,42,97,42,97,42,97,42,97,42,97,42,97,42,97,42]⟩]
def emodW (n lo hi:Int):Int:=lo+n%(hi-lo+1)
def inD (n lo hi:Int):Int:=if lo≤n∧n≤hi then n else emodW n lo hi
theorem zez (n lo hi:Int) (h:lo≤hi):lo≤emodW n lo hi∧emodW n lo hi≤hi:=by
 unfold emodW;have h1:=Int.emod_nonneg n (show hi-lo+1≠0 by omega)
 have h2:=Int.emod_lt_of_pos n (show 0<hi-lo+1 by omega)
 omega
theorem z50 (n lo hi:Int) (h:lo≤hi):lo≤inD n lo hi∧inD n lo hi≤hi:=by
 unfold inD;split
 · assumption
 · exact zez n lo hi h
def nameOf (n:Int):ByteArray:=names.getD (inD n 0 4).toNat ⟨#[]⟩
def valueOf (n:Int):ByteArray:=values.getD (inD n 0 6).toNat ⟨#[]⟩
def patOf (n:Int):ByteArray:=pats.getD (inD n 0 8).toNat ⟨#[]⟩
theorem getD_mem {l:List ByteArray} {k:Nat} (h:k<l.length) (d:ByteArray):l.getD k d∈l:=by
 rw[List.getD_eq_getElem?_getD,List.getElem?_eq_getElem h];exact List.getElem_mem h
theorem z6H (n:Int):nameOf n∈names:=by
 have h:=z50 n 0 4 (by omega)
 unfold nameOf;have:(inD n 0 4).toNat<5:=by omega
 exact getD_mem this _
theorem z5H (n:Int):valueOf n∈values:=by
 have h:=z50 n 0 6 (by omega)
 unfold valueOf;have:(inD n 0 6).toNat<7:=by omega
 exact getD_mem this _
theorem zcq (n:Int):patOf n∈pats:=by
 have h:=z50 n 0 8 (by omega)
 unfold patOf;have:(inD n 0 8).toNat<9:=by omega
 exact getD_mem this _
section
variable (σ:St)
theorem z3d (n lo hi:Int) (h0:0≤lo) (h1:lo≤hi) (h2:hi≤100):Ans Tryz.prog 100 [I n,I lo,I hi] σ (I (emodW n lo hi)) σ:=by
 have e1:IntKind.i64.wrap (hi-lo)=hi-lo:=wrapN (by omega) (by omega)
 have e2:IntKind.i64.wrap (hi-lo+1)=hi-lo+1:=wrapN (by omega) (by omega)
 have e3:((hi-lo+1)=0)=False:=by simp;omega
 have h3:=Int.emod_nonneg n (show hi-lo+1≠0 by omega)
 have h4:=Int.emod_lt_of_pos n (show 0<hi-lo+1 by omega)
 have h5:=Int.tmod_eq_emod (a:=n) (b:=hi-lo+1);unfold emodW;generalize hm:n%(hi-lo+1)=m at h3 h4 h5
 have h6:n.tmod (hi-lo+1)=m∨n.tmod (hi-lo+1)=m-(hi-lo+1):=by
  rw[h5];split
  · left;omega
  · right;omega
 refine Ans.of_run t100 ?_;simp -implicitDefEqProofs only[c100,r100,go_sem,e1,e2,e3];generalize n.tmod (hi-lo+1)=r at h6;rcases h6 with rfl|rfl
 · have d1:decide (r<0)=false:=by simp;omega
   have e4:IntKind.i64.wrap (lo+r)=lo+r:=wrapN (by omega) (by omega)
   simp -implicitDefEqProofs only[go_sem,d1,e4];exact Fini.ret rfl
 · have d1:decide (m-(hi-lo+1)<0)=true:=by simp;omega
   have e4:IntKind.i64.wrap (m-(hi-lo+1)+hi)=m-(hi-lo+1)+hi:=wrapN (by omega) (by omega)
   have e5:IntKind.i64.wrap (m-(hi-lo+1)+hi-lo)=m-(hi-lo+1)+hi-lo:=wrapN (by omega) (by omega)
   have e6:IntKind.i64.wrap (m-(hi-lo+1)+hi-lo+1)=m:=by rw[wrapN (by omega) (by omega)];omega
   have e7:IntKind.i64.wrap (lo+m)=lo+m:=wrapN (by omega) (by omega)
   simp -implicitDefEqProofs only[go_sem,d1,e4,e5,e6,e7];exact Fini.ret rfl
theorem z0j (n lo hi:Int) (h0:0≤lo) (h1:lo≤hi) (h2:hi≤100):Ans Tryz.prog 99 [I n,I lo,I hi] σ (I (inD n lo hi)) σ:=by
 have hw:=z3d σ n lo hi h0 h1 h2;unfold inD;refine Ans.of_run t99 ?_;simp -implicitDefEqProofs only[c99,r99,go_sem];by_cases d1:lo≤n
 · by_cases d2:n≤hi
   · have d1':decide (lo≤n)=true:=by simpa using d1
     have d2':decide (n≤hi)=true:=by simpa using d2
     simp -implicitDefEqProofs only[go_sem,d1',d2'];rw[if_pos ⟨d1,d2⟩];exact Fini.ret rfl
   · have d1':decide (lo≤n)=true:=by simpa using d1
     have d2':decide (n≤hi)=false:=by simpa using d2
     simp -implicitDefEqProofs only[go_sem,d1',d2'];refine CO.intro hw ?_;simp -implicitDefEqProofs only[go_sem];rw[if_neg (fun h=>d2 h.2)]
     exact Fini.ret rfl
 · have d1':decide (lo≤n)=false:=by simpa using d1
   simp -implicitDefEqProofs only[go_sem,d1'];refine CO.intro hw ?_;simp -implicitDefEqProofs only[go_sem];rw[if_neg (fun h=>d1 h.1)]
   exact Fini.ret rfl
theorem z5j (n:Int):Ans Tryz.prog 81 [I n] σ (Sx (nameOf n)) σ:=by
 have h:=z50 n 0 4 (by omega)
 have hi:=z0j σ n 0 4 (by omega) (by omega) (by omega)
 unfold nameOf;generalize inD n 0 4=r at h hi⊢;refine Ans.of_run t81 ?_;simp -implicitDefEqProofs only[c81,r81,go_sem];refine CO.intro hi ?_;have h5:r=0∨r=1∨r=2∨r=3∨r=4:=by omega
 rcases h5 with rfl|rfl|rfl|rfl|rfl
 all_goals (
  simp -implicitDefEqProofs only[go_sem]
  exact Fini.ret rfl)
theorem z8i (n:Int):Ans Tryz.prog 133 [I n] σ (Sx (valueOf n)) σ:=by
 have h:=z50 n 0 6 (by omega)
 have hi:=z0j σ n 0 6 (by omega) (by omega) (by omega)
 unfold valueOf;generalize inD n 0 6=r at h hi⊢;refine Ans.of_run t133 ?_;simp -implicitDefEqProofs only[c133,r133,go_sem];refine CO.intro hi ?_;have h5:r=0∨r=1∨r=2∨r=3∨r=4∨r=5∨r=6:=by omega
 rcases h5 with rfl|rfl|rfl|rfl|rfl|rfl|rfl
 all_goals (
  simp -implicitDefEqProofs only[go_sem]
  exact Fini.ret rfl)
theorem z9w (n:Int):Ans Tryz.prog 152 [I n] σ (Sx (patOf n)) σ:=by
 have h:=z50 n 0 8 (by omega)
 have hi:=z0j σ n 0 8 (by omega) (by omega) (by omega)
 unfold patOf;generalize inD n 0 8=r at h hi⊢;refine Ans.of_run t152 ?_;simp -implicitDefEqProofs only[c152,r152,go_sem];refine CO.intro hi ?_;have h5:r=0∨r=1∨r=2∨r=3∨r=4∨r=5∨r=6∨r=7∨r=8:=by omega
 rcases h5 with rfl|rfl|rfl|rfl|rfl|rfl|rfl|rfl|rfl
 all_goals (
  simp -implicitDefEqProofs only[go_sem]
  exact Fini.ret rfl)
abbrev mat (k:Int) (n v:ByteArray):AV:=.agg [I k,Sx n,Sx v]
def z3e (k v:Int):ByteArray:=if inD k 1 4<3 then(if v<0 then⟨#[]⟩ else valueOf v) else patOf v
theorem z9x (m:Nat) (k:Int) (n v:ByteArray):Bel m (mat k n v):=by
 refine .agg _ fun i hi=>?_
 have:∀y∈[I k,Sx n,Sx v],Bel m y:=by
  intro y hy;simp only[List.mem_cons,List.not_mem_nil,or_false]at hy;rcases hy with rfl|rfl|rfl<;>exact .pl _
 exact this _ (List.getElem_mem hi)
theorem z5I (k n v:Int):Ans Tryz.prog 123 [.agg [I k,I n,I v]] σ (mat (inD k 1 4) (nameOf n) (z3e k v)) σ:=by
 have k0:∀(x y:Ob),(σ++[x,y])[σ.length]?=some x:=fun x y=>by rw[List.getElem?_append_right (by simp)];simp
 have k0':∀(x:Ob),(σ++[x])[σ.length]?=some x:=fun x=>by rw[List.getElem?_append_right (by simp)];simp
 have k1:∀(x y:Ob),(σ++[x,y])[σ.length+1]?=some y:=fun x y=>by rw[List.getElem?_append_right (by simp)];simp
 have s0:∀(x y z:Ob),(σ++[x,y]).set σ.length z=σ++[z,y]:=fun x y z=>by rw[List.set_append_right _ _ (by simp)];simp
 have s1:∀(x y z:Ob),(σ++[x,y]).set (σ.length+1) z=σ++[x,z]:=fun x y z=>by rw[List.set_append_right _ _ (by simp)];simp
 have hb:=z9x σ.length (inD k 1 4) (nameOf n) (z3e k v);refine Ans.of_run' t123 (fun hbel _=>?_)
 simp -implicitDefEqProofs only[c123,r123,go_sem,z00,List.append_assoc,List.length_append];refine CS.intro (fun s=>z0j s k 1 4 (by omega) (by omega) (by omega)) ?_
 simp -implicitDefEqProofs only[go_sem,z00,List.append_assoc,List.length_append];refine CS.intro (fun s=>z5j s n) ?_
 simp -implicitDefEqProofs only[go_sem,z00,List.append_assoc,List.length_append];refine CS.intro (fun s=>z9w s v) ?_
 simp -implicitDefEqProofs only[go_sem,z00,List.append_assoc,List.length_append,k0,k1,s0,s1];unfold z3e at hb⊢;by_cases h3:inD k 1 4<3
 · have h3':decide (inD k 1 4<3)=true:=by simpa using h3
   rw[if_pos h3]at hb⊢;simp -implicitDefEqProofs only[go_sem,h3'];refine CO.intro (z8i _ v) ?_;by_cases h0:v<0
   · have h0':decide (v<0)=true:=by simpa using h0
     rw[if_pos h0]at hb⊢;simp -implicitDefEqProofs only[go_sem,h0',k0,k1,s0,s1];exact Fini.trim2 (σ':=σ) (ex:=[_,_]) (by simp -implicitDefEqProofs only[go_sem,resA,z02,rvA,oneOf,k0]) rfl (Nat.le_refl _) hb hbel
   · have h0':decide (v<0)=false:=by simpa using h0
     rw[if_neg h0]at hb⊢;simp -implicitDefEqProofs only[go_sem,h0',k0,k1,s0,s1];exact Fini.trim2 (σ':=σ) (ex:=[_,_]) (by simp -implicitDefEqProofs only[go_sem,resA,z02,rvA,oneOf,k0]) rfl (Nat.le_refl _) hb hbel
 · have h3':decide (inD k 1 4<3)=false:=by simpa using h3
   rw[if_neg h3]at hb⊢;simp -implicitDefEqProofs only[go_sem,h3',k0,k1,s0,s1];exact Fini.trim2 (σ':=σ) (ex:=[_,_]) (by simp -implicitDefEqProofs only[go_sem,resA,z02,rvA,oneOf,k0]) rfl (Nat.le_refl _) hb hbel
end
abbrev Lab:=ByteArray×ByteArray
abbrev lv (x:Lab):AV:=.agg [Sx x.1,Sx x.2]
def lvs (L:List Lab):List AV:=L.map lv
theorem z0k (L:List Lab):(lvs L).length=L.length:=List.length_map ..
theorem z4P (L:List Lab) (i:Nat) (h:i<L.length):(lvs L)[i]?=some (lv L[i]):=by simp[lvs,h]
def getL:List Lab→ByteArray→ByteArray
 |[],_=>⟨#[]⟩
 |x::xs,nm=>if x.1.toList==nm.toList then x.2 else getL xs nm
section
variable (σ:St)
theorem z0f {i n:Nat} (h:i<n):((i:Int)<(n:Nat))=True:=by simp;omega
theorem z30 {i n:Nat} (h:¬i<n):((i:Int)<(n:Nat))=False:=by simp;omega
theorem dec_lt {i n:Nat} (h:i<n):decide ((i:Int)<(n:Nat))=true:=by simp;omega
theorem z2D {i n:Nat} (h:¬i<n):decide ((i:Int)<(n:Nat))=false:=by simp;omega
theorem wrap_succ {i:Nat} (h:i≤100000):IntKind.i64.wrap ((i:Int)+1)=((i+1:Nat):Int):=by rw[wrapN (by omega) (by omega)];rfl
theorem z8j (l:Nat) (L:List Lab) (nm:ByteArray) (h:σ[l]?=some (.row 2 (lvs L))) (hl:L.length≤1000):Ans Tryz.prog 134 [.osl l L.length,Sx nm] σ (Sx (getL L nm)) σ:=by
 refine Ans.of_run t134 ?_;simp -implicitDefEqProofs only[c134,r134,go_sem];generalize hres:getL L nm=res
 refine Go.Ab.L.intro (α:={ i:Nat // i≤L.length∧getL (L.drop i) nm=res }) (fun x=>L.length-x.1)
  (fun x=>mkE 24 [(0,.osl l L.length),(1,Sx nm),(5,I x.1)]) (fun _=>σ) (fun x J hJ=>?_) ⟨0,Nat.zero_le _,hres⟩ rfl rfl
 obtain⟨i,hi,hg⟩:=x;simp only at hJ⊢;by_cases hlt:i<L.length
 · rw[List.drop_eq_getElem_cons hlt,getL]at hg;have hx:=z4P L i hlt;cases he:L[i].1.toList==nm.toList
   · rw[he,if_neg Bool.false_ne_true]at hg;have hJ':=hJ ⟨i+1,hlt,hg⟩ (by simp only;omega)
     simp only at hJ';simp -implicitDefEqProofs only[mkE,go_sem,z0f hlt,dec_lt hlt,h,hx,z0k,he,wrap_succ (show i≤100000 by omega)]
     exact hJ'
   · rw[he,if_pos rfl]at hg;simp -implicitDefEqProofs only[mkE,go_sem,z0f hlt,dec_lt hlt,h,hx,z0k,he];rw[hg];exact Fini.ret rfl
 · have:i=L.length:=by omega
   subst this;rw[List.drop_length,getL]at hg;simp -implicitDefEqProofs only[mkE,go_sem,z30 hlt,z2D hlt,h,z0k];rw[←hg];exact Fini.ret rfl
def z2u (L:List Lab):Prop:=∀x∈L,x.1∈names∧x.2∈values
def leS (a b:ByteArray):Bool:=Op.bytesLess a.toList b.toList||a.toList==b.toList
def badAt (L:List Lab) (i:Nat):Bool:=decide (0<i)&&leS (L.getD i (⟨#[]⟩,⟨#[]⟩)).1 (L.getD (i-1) (⟨#[]⟩,⟨#[]⟩)).1
def isGo (L:List Lab):Nat→Nat→Bool
 |0,_=>true
 |k+1,i=>if badAt L i then false else isGo L k (i+1)
def z3E (L:List Lab):Bool:=if decide (L.length<1)||decide (6<L.length) then false else isGo L L.length 0
theorem z8k (n:ByteArray) (h:n∈names):Ans Tryz.prog 121 [Sx n] σ (Bo true) σ:=by
 simp only[names,List.mem_cons,List.not_mem_nil,or_false]at h;rcases h with rfl|rfl|rfl|rfl|rfl
 · exact rn0_ok.frame (z5G rfl) σ
 · exact rn1_ok.frame (z5G rfl) σ
 · exact rn2_ok.frame (z5G rfl) σ
 · exact rn3_ok.frame (z5G rfl) σ
 · exact rn4_ok.frame (z5G rfl) σ
theorem z5J (v:ByteArray) (h:v∈values):1≤v.size∧v.size≤24:=by
 simp only[values,List.mem_cons,List.not_mem_nil,or_false]at h;rcases h with rfl|rfl|rfl|rfl|rfl|rfl|rfl<;>exact⟨by decide,by decide⟩
theorem z6I (v:ByteArray) (h:v∈values):Ans Tryz.prog 156 [Sx v] σ (Bo true) σ:=by
 obtain⟨h1,h2⟩:=z5J v h;have d1:decide ((1:Int)≤(v.size:Nat))=true:=by simp;omega
 have d2:decide (((v.size:Nat):Int)≤24)=true:=by simp;omega
 refine Ans.of_run t156 ?_;simp -implicitDefEqProofs only[c156,r156,go_sem,d1,d2];exact Fini.ret rfl
theorem zcr (L:List Lab) (hd:z2u L) (hl:L.length≤1000):Ans Tryz.prog 130 [.sl 2 (lvs L)] σ (Bo (z3E L)) σ:=by
 refine Ans.of_run t130 ?_;unfold z3E;have e1:decide ((((lvs L).length:Nat):Int)<1)=decide (L.length<1):=by rw[z0k,Bool.eq_iff_iff];simp only[decide_eq_true_eq];omega
 have e2:decide ((6:Int)<(((lvs L).length:Nat):Int))=decide (6<L.length):=by rw[z0k,Bool.eq_iff_iff];simp only[decide_eq_true_eq];omega
 simp -implicitDefEqProofs only[c130,r130,go_sem,e1];cases h1:decide (L.length<1)
 case true =>
  simp -implicitDefEqProofs only[go_sem,Bool.true_or];exact Fini.ret rfl
 simp -implicitDefEqProofs only[go_sem,e2,Bool.false_or];cases h2:decide (6<L.length)
 case true =>
  simp -implicitDefEqProofs only[go_sem];exact Fini.ret rfl
 simp -implicitDefEqProofs only[go_sem];generalize hres:isGo L L.length 0=res
 refine Go.Ab.L.intro (α:={ x:Nat×Nat // x.2+x.1=L.length∧isGo L x.1 x.2=res }) (fun x=>x.1.1)
  (fun x=>mkE 52 [(0,.sl 2 (lvs L)),(3,I x.1.2)]) (fun _=>σ) (fun x J hJ=>?_) ⟨(L.length,0),by simp,hres⟩ rfl rfl
 obtain⟨⟨k,i⟩,hi,hg⟩:=x;simp only at hi hg hJ⊢
 cases k with
 |zero =>
  have hlt:¬i<L.length:=by omega
  rw[isGo]at hg;simp -implicitDefEqProofs only[mkE,go_sem,z0k,z30 hlt,z2D hlt];rw[←hg];exact Fini.ret rfl
 |succ k =>
  have hlt:i<L.length:=by omega
  have hx:=z4P L i hlt;obtain⟨d1,d2⟩:=hd L[i] (List.getElem_mem hlt);have hgd:L.getD i (⟨#[]⟩,⟨#[]⟩)=L[i]:=by rw[List.getD_eq_getElem?_getD,List.getElem?_eq_getElem hlt];rfl
  rw[isGo]at hg;simp -implicitDefEqProofs only[mkE,go_sem,z0k,z0f hlt,dec_lt hlt,hx,z00]
  first
  |refine CD.intro (z8k _ _ d1) ?_
  |refine CS.intro (fun s=>z8k s _ d1) ?_
  simp -implicitDefEqProofs only[go_sem,z0k,z0f hlt,dec_lt hlt,hx,z00]
  first
  |refine CD.intro (z6I _ _ d2) ?_
  |refine CS.intro (fun s=>z6I s _ d2) ?_
  have e0:decide ((0:Int)<(i:Nat))=decide (0<i):=by rw[Bool.eq_iff_iff];simp
  unfold badAt at hg;rw[hgd]at hg;simp -implicitDefEqProofs only[go_sem,e0];cases h0:decide (0<i)
  · rw[h0,Bool.false_and,if_neg Bool.false_ne_true]at hg;have hJ':=hJ ⟨(k,i+1),by simp only;omega,hg⟩ (Nat.lt_succ_self k)
    simp only at hJ';simp -implicitDefEqProofs only[go_sem,wrap_succ (show i≤100000 by omega)]
    exact hJ'
  · have hi0:0<i:=by simpa using h0
    have hlt2:i-1<L.length:=by omega
    have hx2:=z4P L (i-1) hlt2;have hgd2:L.getD (i-1) (⟨#[]⟩,⟨#[]⟩)=L[i-1]:=by rw[List.getD_eq_getElem?_getD,List.getElem?_eq_getElem hlt2];rfl
    have e3:IntKind.i64.wrap ((i:Int)-1)=((i-1:Nat):Int):=by rw[wrapN (by omega) (by omega)];omega
    rw[h0,Bool.true_and,hgd2]at hg;cases hb:leS L[i].1 L[i-1].1
    · rw[hb,if_neg Bool.false_ne_true]at hg;have hb':(Op.bytesLess L[i].1.toList L[i-1].1.toList||L[i].1.toList==L[i-1].1.toList)=false:=hb;have hJ':=hJ ⟨(k,i+1),by simp only;omega,hg⟩ (Nat.lt_succ_self k)
      simp only at hJ';simp -implicitDefEqProofs only[go_sem,e3,hx,hx2,z0k,z0f hlt2,z0f hlt,hb',wrap_succ (show i≤100000 by omega)]
      exact hJ'
    · rw[hb,if_pos rfl]at hg;have hb':(Op.bytesLess L[i].1.toList L[i-1].1.toList||L[i].1.toList==L[i-1].1.toList)=true:=hb;simp -implicitDefEqProofs only[go_sem,e3,hx,hx2,z0k,z0f hlt2,z0f hlt,hb'];rw[←hg];exact Fini.ret rfl
end
abbrev noL:Lab:=(⟨#[]⟩,⟨#[]⟩)
def pos (out:List Lab) (x:Lab):Nat→Nat
 |0=>0
 |n+1=>if Op.bytesLess x.1.toList (out.getD n noL).1.toList then pos out x n else n+1
def insL (out:List Lab) (x:Lab):List Lab:=out.take (pos out x out.length)++[x]++out.drop (pos out x out.length)
def setL (L:List Lab):List Lab:=L.foldl insL []
theorem zcs (out:List Lab) (x:Lab):∀n,pos out x n≤n
 |0=>Nat.le_refl _
 |n+1=>by
  rw[pos];split
  · exact Nat.le_succ_of_le (zcs out x n)
  · exact Nat.le_refl _
theorem zeA (out:List Lab) (x:Lab):(insL out x).length=out.length+1:=by
 have:=zcs out x out.length;simp only[insL,List.length_append,List.length_take,List.length_drop,List.length_cons,List.length_nil];omega
theorem zct (L:List Lab) (x:Lab):setL (L++[x])=insL (setL L) x:=by simp[setL]
theorem zcu (L:List Lab):∀acc:List Lab,(L.foldl insL acc).length=acc.length+L.length:=by
 induction L with
 |nil=>intro acc;rfl
 |cons x L ih=>intro acc;rw[List.foldl_cons,ih,zeA];simp;omega
theorem z7i (L:List Lab):(setL L).length=L.length:=by rw[setL,zcu];simp
theorem z7j {out:List Lab} {x y:Lab} (h:y∈insL out x):y=x∨y∈out:=by
 simp only[insL,List.mem_append,List.mem_cons,List.not_mem_nil,or_false]at h;rcases h with(h|h)|h
 · exact .inr (List.mem_of_mem_take h)
 · exact .inl h
 · exact .inr (List.mem_of_mem_drop h)
theorem zcv (L:List Lab):∀(acc:List Lab),∀y∈L.foldl insL acc,y∈acc∨y∈L:=by
 induction L with
 |nil=>intro acc y hy;exact .inl hy
 |cons x L ih =>
  intro acc y hy;rcases ih _ y hy with h|h
  · rcases z7j h with rfl|h
    · exact .inr List.mem_cons_self
    · exact .inl h
  · exact .inr (List.mem_cons_of_mem _ h)
theorem zaf (L:List Lab):∀y∈setL L,y∈L:=fun y hy=>by
 rcases zcv L [] y hy with h|h
 · cases h
 · exact h
theorem zag (L:List Lab) (k:Nat):(lvs L).take k=lvs (L.take k):=by simp[lvs]
theorem zah (L:List Lab) (k:Nat):(lvs L).drop k=lvs (L.drop k):=by simp[lvs]
theorem zcw (L:List Lab) (f:AV→Bool) (h:∀x:Lab,f (lv x)=true):(lvs L).all f=true:=by
 simp only[lvs,List.all_map,List.all_eq_true];exact fun x _=>h x
theorem z7k:lvs []=[]:=rfl
theorem z8l (L:List Lab):(lvs L).isEmpty=L.isEmpty:=by simp[lvs]
theorem zai (n:Nat) (x:Lab):Bel n (lv x):=by
 refine .agg _ fun i hi=>?_
 have:∀y∈[Sx x.1,Sx x.2],Bel n y:=by
  intro y hy;simp only[List.mem_cons,List.not_mem_nil,or_false]at hy;rcases hy with rfl|rfl<;>exact .pl _
 exact this _ (List.getElem_mem hi)
theorem z4Q (n:Nat) (L:List Lab):Bel n (.sl 2 (lvs L)):=by
 refine .sl 2 _ fun i hi=>?_
 have:∀y∈lvs L,Bel n y:=by
  intro y hy;simp only[lvs,List.mem_map]at hy;obtain⟨x,_,rfl⟩:=hy;exact zai n x
 exact this _ (List.getElem_mem hi)
theorem B_pl (n:Nat) (v:Value):Bel n (.pl v)=True:=eq_true (.pl v)
theorem B_any (n:Nat):Bel n .any=True:=eq_true .any
theorem z2E (n:Nat):Bel n .nils=True:=eq_true .nils
theorem B_tup (n:Nat):Bel n (.tup [])=True:=eq_true (.tup _ fun i hi=>absurd hi (Nat.not_lt_zero _))
theorem B_lv (n:Nat) (x:Lab):Bel n (lv x)=True:=eq_true (zai n x)
theorem B_lvs (n:Nat) (L:List Lab):Bel n (.sl 2 (lvs L))=True:=eq_true (z4Q n L)
theorem B_sl1 (n:Nat) (x:Lab):Bel n (.sl 2 [lv x])=True:=eq_true (z4Q n [x])
theorem z9y (A B:List Lab) (x:Lab):lvs (A++[x]++B)=lvs A++lv x::lvs B:=by simp[lvs]
theorem B_mid (n:Nat) (A B:List Lab) (a b:ByteArray):Bel n (.sl 2 (lvs A++.agg [Sx a,Sx b]::lvs B))=True:=eq_true (by have:=z4Q n (A++[(a,b)]++B);rwa [z9y]at this)
theorem zg5 (n:Nat) (B:List Lab) (a b:ByteArray):Bel n (.sl 2 (.agg [Sx a,Sx b]::lvs B))=True:=eq_true (z4Q n ((a,b)::B))
theorem B_rp2 (n:Nat) (a b:ByteArray):Bel n (.rp [Sx a,Sx b])=True:=eq_true (.rp _ fun i hi=>by
 have:∀y∈[Sx a,Sx b],Bel n y:=by
  intro y hy;simp only[List.mem_cons,List.not_mem_nil,or_false]at hy;rcases hy with rfl|rfl<;>exact .pl _
 exact this _ (List.getElem_mem hi))
theorem B_sl0 (n k:Nat):Bel n (.sl k [])=True:=eq_true (.sl k [] fun i hi=>absurd hi (Nat.not_lt_zero _))
theorem B_osl (n l k:Nat):Bel n (.osl l k)=(l<n):=by
 apply propext;constructor
 · intro h;cases h;assumption
 · intro h;exact .osl l k h
theorem B_ptr (n l k:Nat):Bel n (.ptr l k)=(l<n):=by
 apply propext;constructor
 · intro h;cases h;assumption
 · intro h;exact .ptr l k h
theorem z8m (n:Nat) (a b:ByteArray):Bel n (.agg [Sx a,Sx b])=True:=eq_true (zai n (a,b))
section
variable (σ:St)
theorem g0 (x:Ob) (ex:St):(σ++x::ex)[σ.length]?=some x:=by rw[List.getElem?_append_right (by simp)];simp
theorem s0 (x y:Ob) (ex:St):(σ++x::ex).set σ.length y=σ++y::ex:=by rw[List.set_append_right _ _ (by simp)];simp
theorem tr_ {rvs:List RV} {r:AV} {σ σ' ex:St} {env:Env} (he:σ=σ'++ex) (hb:Bel σ'.length r) (ho:∀o∈σ',BelO σ'.length o) (h:resA env σ rvs=some r:=by simp -implicitDefEqProofs only[go_sem,resA,z02,rvA,oneOf,g0]<;>rfl):Fini σ'.length rvs r σ' .ret env σ:=Fini.trim2 h he (Nat.le_refl _) hb ho
def setV (L:List Lab):AV:=if z3E (setL L) then .sl 2 (lvs (setL L)) else .nils
theorem z9z (L:List Lab) (hd:z2u L) (hl:L.length≤100):Ans Tryz.prog 135 [.sl 2 (lvs L)] σ (.tup [setV L,Bo (z3E (setL L))]) σ:=by
 refine Ans.of_run' t135 (fun hbel _=>?_)
 have hbel':(∀o∈σ,BelO σ.length o)=True:=eq_true hbel;simp -implicitDefEqProofs only[c135,r135,go_sem,B_pl,B_any,z2E,B_tup,B_lv,B_lvs,B_sl1,B_osl,B_ptr,z8m,B_sl0,List.take_left,hbel',g0,s0,List.length_append,Nat.le_add_right];refine Go.Ab.L.count L.length (fun i=>mkE 51 [(0,.sl 2 (lvs L)),(4,.sl 2 (lvs (setL (L.take i)))),(5,I i)]) (fun _=>σ) ?_ ?_ rfl rfl
 · intro i hi Q hQ;have hx:=z4P L i hi;have hol:(setL (L.take i)).length=i:=by rw[z7i];simp;omega
   rw[List.take_succ_eq_append_getElem hi,zct]at hQ;generalize setL (L.take i)=out at hol hQ⊢;simp -implicitDefEqProofs only[mkE,go_sem,z0k,z0f hi,dec_lt hi];unfold insL at hQ;generalize hp:pos out L[i] out.length=p at hQ
   refine Go.Ab.L.intro (α:={ n:Nat // n≤out.length∧pos out L[i] n=p }) (fun x=>x.1) (fun x=>mkE 51 [(0,.sl 2 (lvs L)),(4,.sl 2 (lvs out)),(5,I i),(6,I x.1)]) (fun _=>σ)
    (fun x J hJ=>?_) ⟨out.length,Nat.le_refl _,hp⟩ rfl rfl
   obtain⟨n,hn,hpn⟩:=x;simp only at hJ⊢
   cases n with
   |zero =>
    rw[pos]at hpn;subst hpn;have d00:decide ((0:Int)<((0:Nat):Int))=false:=by decide
    have h1:(1≤2^32)=True:=by simp
    have hp32:(1+out.length≤2^32)=True:=by simp;omega
    have q1:(1+out.length=out.length+1)=True:=by simp;omega
    rw[z9y]at hQ;simp -implicitDefEqProofs only[mkE,go_sem,q1,d00,z0k,z0f hi,hx,Int.natCast_zero,Int.le_refl,Int.toNat_zero,List.take_length,List.drop_zero,List.drop_nil,z7k,zag,zah,zcw,z8l,z0k,g0,s0,B_pl,B_any,z2E,B_tup,B_lv,B_lvs,B_sl1,B_osl,B_ptr,z8m,B_sl0,hp32,h1,zg5,B_mid,B_rp2,List.take_left,hbel',List.length_append,List.append_assoc,Nat.le_add_right,wrap_succ (show i≤100000 by omega)]
    exact hQ
   |succ n =>
    have hx2:=z4P out n hn;have hgd:out.getD n noL=out[n]:=by rw[List.getD_eq_getElem?_getD,List.getElem?_eq_getElem hn];rfl
    have d0:decide ((0:Int)<((n+1:Nat):Int))=true:=by simp
    have e1:IntKind.i64.wrap (((n+1:Nat):Int)-1)=(n:Int):=by rw[wrapN (by omega) (by omega)];omega
    rw[pos,hgd]at hpn;cases hb:Op.bytesLess L[i].1.toList out[n].1.toList
    · rw[hb,if_neg Bool.false_ne_true]at hpn;subst hpn;have p1:(((n+1:Nat):Int)≤(out.length:Nat))=True:=by simp;omega
      have p2:(out.take (n+1)).isEmpty=false:=by
       cases h:out.take (n+1) with
       |nil =>
        have:(out.take (n+1)).length=0:=by rw[h];rfl
        rw[List.length_take]at this;omega
       |cons _ _=>rfl
      have p3:(out.take (n+1)).length=n+1:=by simp;omega
      have p4:(out.drop (n+1)).length=out.length-(n+1):=by simp
      have p5:(n+1≤2^32)=True:=by simp;omega
      have p6:(n+1+1≤2^32)=True:=by simp;omega
      have p7:(n+1+1+(out.length-(n+1))≤2^32)=True:=by simp;omega
      have q2:(n+1+1+(out.length-(n+1))=n+1+(out.length-(n+1)+1))=True:=by simp;omega
      rw[z9y]at hQ;simp -implicitDefEqProofs only[mkE,go_sem,q2,d0,e1,z0k,z0f hi,z0f hn,hx,hx2,hb,Int.natCast_zero,Int.le_refl,Int.toNat_zero,List.take_length,List.drop_zero,List.drop_nil,z7k,zag,zah,zcw,z8l,z0k,g0,s0,B_pl,B_any,z2E,B_tup,B_lv,B_lvs,B_sl1,B_osl,B_ptr,z8m,B_sl0,zg5,B_mid,B_rp2,List.take_left,hbel',List.length_append,List.append_assoc,Nat.le_add_right,wrap_succ (show i≤100000 by omega),p1,p2,p3,p4,p5,p6,p7]
      exact hQ
    · rw[hb,if_pos rfl]at hpn;have hJ':=hJ ⟨n,by omega,hpn⟩ (Nat.lt_succ_self n)
      simp only at hJ';simp -implicitDefEqProofs only[mkE,go_sem,d0,e1,z0k,z0f hi,z0f hn,hx,hx2,hb];exact hJ'
 · intro Q;have hlt:¬L.length<L.length:=Nat.lt_irrefl _;have hdr:z2u (setL L):=fun x hx=>hd x (zaf L x hx)
   rw[List.take_length];simp -implicitDefEqProofs only[mkE,go_sem,z0k,z30 hlt,z2D hlt];refine CO.intro (zcr σ (setL L) hdr (by rw[z7i];omega)) ?_
   unfold setV;cases hs:z3E (setL L)
   · simp -implicitDefEqProofs only[go_sem];exact Fini.ret rfl
   · simp -implicitDefEqProofs only[go_sem];exact Fini.ret rfl
end
theorem zaj {n m:Nat} {x:AV} (h:Bel n x) (hle:n≤m):Bel m x:=by
 induction h with
 |any=>exact .any
 |pl v=>exact .pl v
 |nils=>exact .nils
 |sl sz xs _ ih=>exact .sl sz xs ih
 |rp cs _ ih=>exact .rp cs ih
 |ptr l off h=>exact .ptr l off (by omega)
 |osl l k h=>exact .osl l k (by omega)
 |ep l k i off h=>exact .ep l k i off (by omega)
 |psl l off k h=>exact .psl l off k (by omega)
 |zsl=>exact .zsl
 |win sz l k lo h=>exact .win sz l k lo (by omega)
 |agg cs _ ih=>exact .agg cs ih
 |tup cs _ ih=>exact .tup cs ih
 |fn f fs cs _ _ ih ih'=>exact .fn f fs cs ih ih'
theorem zcx {n m:Nat} {o:Ob} (h:BelO n o) (hle:n≤m):BelO m o:=by
 cases o with
 |dead=>trivial
 |glo=>trivial
 |box cs=>exact fun c hc=>zaj (h c hc) hle
 |row sz xs=>exact fun c hc=>zaj (h c hc) hle
def labOf (n:Int):Lab:=(nameOf (emodW n 0 4),valueOf (emodW (IntKind.i64.wrap (n.tdiv 5)) 0 6))
def z1M (out:List Lab) (n:Int):List Lab:=if(getL out (labOf n).1).toList==(⟨#[]⟩:ByteArray).toList then out++[labOf n] else out
def labs0 (ns:List Int):List Lab:=(ns.take 5).foldl z1M []
def labs (ns:List Int):List Lab:=if(labs0 ns).length=0 then[(⟨#[115,101,118]⟩,⟨#[97]⟩)] else labs0 ns
theorem z9A (out:List Lab) (n:Int):(z1M out n).length≤out.length+1:=by
 unfold z1M;split<;>simp
theorem z5K (l:List Int):∀acc:List Lab,(l.foldl z1M acc).length≤acc.length+l.length:=by
 induction l with
 |nil=>intro acc;exact Nat.le_refl _
 |cons n l ih =>
  intro acc;have h1:=ih (z1M acc n);have h2:=z9A acc n;rw[List.foldl_cons,List.length_cons];omega
theorem z9B (n:Int):(labOf n).1∈names∧(labOf n).2∈values:=⟨z6H _,z5H _⟩
theorem z4a (l:List Int):∀acc:List Lab,z2u acc→z2u (l.foldl z1M acc):=by
 induction l with
 |nil=>intro acc h;exact h
 |cons n l ih =>
  intro acc h;refine ih _ ?_;unfold z1M;split
  · intro x hx;rcases List.mem_append.1 hx with hx|hx
    · exact h x hx
    · simp only[List.mem_cons,List.not_mem_nil,or_false]at hx;subst hx;exact z9B n
  · exact h
theorem z8n (ns:List Int):(labs0 ns).length≤5:=by
 have:=z5K (ns.take 5) [];simp at this;unfold labs0;omega
theorem zeB (ns:List Int):(labs ns).length≤5:=by
 unfold labs;split
 · decide
 · exact z8n ns
theorem zbl (ns:List Int):z2u (labs ns):=by
 unfold labs;split
 · intro x hx;simp only[List.mem_cons,List.not_mem_nil,or_false]at hx;subst hx;exact⟨by simp[names],by simp[values]⟩
 · exact z4a _ [] (fun x hx=>by cases hx)
theorem zg6 (n:Nat) (ns:List Int):Bel n (.sl 1 (ns.map I))=True:=eq_true (.sl 1 _ fun i hi=>by
 have:∀y∈ns.map I,Bel n y:=by
  intro y hy;simp only[List.mem_map]at hy;obtain⟨x,_,rfl⟩:=hy;exact .pl _
 exact this _ (List.getElem_mem hi))
theorem B_rp1 (n:Nat) (v:Value):Bel n (.rp [.pl v])=True:=eq_true (.rp _ fun i hi=>by
 have:∀y∈[AV.pl v],Bel n y:=by
  intro y hy;simp only[List.mem_cons,List.not_mem_nil,or_false]at hy;subst hy;exact .pl _
 exact this _ (List.getElem_mem hi))
section
variable (σ:St)
theorem g1 (x y:Ob) (ex:St):(σ++x::y::ex)[σ.length+1]?=some y:=by rw[List.getElem?_append_right (by simp)];simp
theorem s1 (x y z:Ob) (ex:St):(σ++x::y::ex).set (σ.length+1) z=σ++x::z::ex:=by rw[List.set_append_right _ _ (by simp)];simp
theorem take_one (x:Ob) (ex:St):(σ++x::ex).take (σ.length+1)=σ++[x]:=by
 have e:σ++x::ex=(σ++[x])++ex:=by simp
 have h:=List.take_left (l₁:=σ++[x]) (l₂:=ex);rw[e];simpa using h
theorem CO.intro' {P:Program} {n0:Nat} {k:List Fr} {B:Bs} {env:Env} {σ σ₀ σ':St} {f:FuncId} {args args₀:List AV} {d:Option Tmp} {l:List AOper} {r:AV} (h:Ans P f args₀ σ₀ r σ') (ha:args=args₀) (hs:σ=σ₀)
  (h':O P n0 l k B (putA env d r) σ'):CO P n0 f args d l k B env σ:=by subst ha;subst hs;exact CO.intro h h'
theorem z4s (n:Nat):((n:Int)==0)=(n==0):=by rw[Bool.eq_iff_iff];simp
theorem zeC (L:List Lab) (a b:ByteArray):lvs L++[.agg [Sx a,Sx b]]=lvs (L++[(a,b)]):=by simp[lvs]
theorem zbm (ns:List Int):Ans Tryz.prog 101 [.sl 1 (ns.map I)] σ (setV (labs ns)) σ:=by
 refine Ans.of_run' t101 (fun hbel _=>?_)
 have hb1:∀L:List Lab,(∀o∈σ++[.row 2 (lvs L)],BelO (σ.length+1) o)=True:=fun L=>eq_true (by
  intro o ho;rcases List.mem_append.1 ho with ho|ho
  · exact zcx (hbel o ho) (Nat.le_succ _)
  · simp only[List.mem_cons,List.not_mem_nil,or_false]at ho;subst ho;intro y hy;simp only[lvs,List.mem_map]at hy;obtain⟨x,_,rfl⟩:=hy
    exact zai _ x)
 simp -implicitDefEqProofs only[c101,r101,go_sem,List.append_assoc,List.length_append];have hm:∀i,i<(ns.take 5).length→i<ns.length∧i<5:=fun i hi=>by simp at hi;omega
 refine Go.Ab.L.count (ns.take 5).length (fun i=>mkE 54 [(0,.sl 1 (ns.map I)),(3,.osl σ.length (((ns.take 5).take i).foldl z1M []).length),(4,I i)])
  (fun i=>σ++[.row 2 (lvs (((ns.take 5).take i).foldl z1M []))]) ?_ ?_ rfl rfl
 · intro i hi Q hQ;obtain⟨hi1,hi2⟩:=hm i hi;have hns:(ns.take 5)[i]=ns[i]:=by simp
   rw[List.take_succ_eq_append_getElem hi,List.foldl_append,List.foldl_cons,List.foldl_nil,hns]at hQ
   have hlo:(((ns.take 5).take i).foldl z1M []).length≤5:=by
    have:=z5K ((ns.take 5).take i) [];simp at this;omega
   generalize ((ns.take 5).take i).foldl z1M []=out at hQ hlo⊢;have hget:(ns.map I)[i]?=some (I ns[i]):=by simp[hi1]
   generalize ns[i]=n at hget hQ;have d5:decide ((i:Int)<5)=true:=by simp;omega
   have dl:decide ((i:Int)<(((ns.map I).length:Nat):Int))=true:=by simp;omega
   have dl':((i:Int)<(((ns.map I).length:Nat):Int))=True:=by simp;omega
   have AA:True:=trivial;simp -implicitDefEqProofs only[mkE,go_sem,z00,dl,dl',d5,hget,List.append_assoc,List.length_append];refine CS.intro (fun s=>z3d s n 0 4 (by omega) (by omega) (by omega)) ?_
   simp -implicitDefEqProofs only[go_sem,z00,dl',hget,List.append_assoc,List.length_append];refine CS.intro (fun s=>z5j s _) ?_
   simp -implicitDefEqProofs only[go_sem,z00,dl',hget,List.append_assoc,List.length_append];refine CS.intro (fun s=>z3d s _ 0 6 (by omega) (by omega) (by omega)) ?_
   simp -implicitDefEqProofs only[go_sem,z00,dl',hget,List.append_assoc,List.length_append];refine CS.intro (fun s=>z8i s _) ?_
   simp -implicitDefEqProofs only[go_sem,z00,dl',hget,List.append_assoc,List.length_append,g0,g1,s0,s1];refine CO.intro (z8j _ σ.length out (nameOf (emodW n 0 4)) (g0 σ _ _) (by omega)) ?_
   simp -implicitDefEqProofs only[go_sem];unfold z1M at hQ;have hlab:(labOf n).1=nameOf (emodW n 0 4):=rfl;rw[hlab]at hQ;cases hc:(getL out (nameOf (emodW n 0 4))).toList==(⟨#[]⟩:ByteArray).toList
   · rw[hc,if_neg Bool.false_ne_true]at hQ;simp -implicitDefEqProofs only[go_sem,g0,g1,s0,s1,B_pl,B_any,z2E,B_tup,B_lv,B_lvs,B_sl1,B_osl,B_ptr,z8m,B_sl0,zg6,B_rp1,take_one,hb1,List.length_append,wrap_succ (show i≤100000 by omega)]
     exact⟨⟨by omega,by omega⟩,by omega,hQ⟩
   · rw[hc,if_pos rfl]at hQ;have p1:(out.length+1≤2^32)=True:=by simp;omega
     simp -implicitDefEqProofs only[go_sem,g0,g1,s0,s1,B_pl,B_any,z2E,B_tup,B_lv,B_lvs,B_sl1,B_osl,B_ptr,z8m,B_sl0,zg6,B_rp1,take_one,hb1,List.length_append,z0k,p1,zeC,wrap_succ (show i≤100000 by omega)]
     rw[List.length_append]at hQ;exact⟨⟨by omega,by omega,by omega,z4Q _ [labOf n],by omega⟩,by omega,hQ⟩
 · intro Q;have hlt:¬((ns.take 5).length<ns.length∧(ns.take 5).length<5):=by simp;omega
   rw[List.take_length];have hlo:=z8n ns;have hd0:labs0 ns=(ns.take 5).foldl z1M []:=rfl;rw[←hd0];have hset:=z9z (σ++[.dead]) (labs ns) (zbl ns) (by have:=zeB ns;omega)
   have hb2:Bel σ.length (setV (labs ns)):=by
    unfold setV;split
    · exact z4Q _ _
    · exact .nils
   have hex:(¬(ns.take 5).length<ns.length)∨((ns.take 5).length<ns.length∧(ns.take 5).length=5):=by simp;omega
   have hmap:(((ns.map I).length:Nat):Int)=(ns.length:Nat):=by simp
   have d55:decide (((5:Nat):Int)<5)=false:=by decide
   rcases hex with hx|⟨hx,hx5⟩
   · simp -implicitDefEqProofs only[mkE,go_sem,hmap,z30 hx,z2D hx];cases h0:((labs0 ns).length==0)
     · have h0':((((labs0 ns).length:Nat):Int)==0)=false:=by rw[←h0];exact z4s _
       have hl:labs ns=labs0 ns:=by unfold labs;rw[if_neg (by simpa using h0)]
       rw[hl]at hset hb2;simp -implicitDefEqProofs only[go_sem,h0',g0,s0,z0k];refine CO.intro hset ?_;unfold setV at hb2⊢;rw[hl];cases hs:z3E (setL (labs0 ns))
       all_goals rw[hs]at hb2
       all_goals simp -implicitDefEqProofs only[go_sem]
       all_goals exact Fini.trim2 (σ':=σ) (ex:=[.dead]) rfl rfl (Nat.le_refl _) hb2 hbel
     · have h0':((((labs0 ns).length:Nat):Int)==0)=true:=by rw[←h0];exact z4s _
       have h00:labs0 ns=[]:=by simpa using h0
       have hl:labs ns=[(⟨#[115,101,118]⟩,⟨#[97]⟩)]:=by unfold labs;rw[if_pos (by simpa using h0)]
       have p1:(0+1≤2^32)=True:=by simp
       have p2:(1≤2^32)=True:=by simp
       rw[h00]at h0'⊢;rw[hl]at hset hb2;have z0:(((0:Nat):Int)==0)=true:=rfl;simp -implicitDefEqProofs only[go_sem,z0,h0',g0,s0,z0k,p1,p2,z7k];refine CO.intro' hset rfl rfl ?_;unfold setV at hb2⊢;rw[hl];cases hs:z3E (setL [(⟨#[115,101,118]⟩,⟨#[97]⟩)])
       all_goals rw[hs]at hb2
       all_goals simp -implicitDefEqProofs only[go_sem]
       all_goals exact Fini.trim2 (σ':=σ) (ex:=[.dead]) rfl rfl (Nat.le_refl _) hb2 hbel
   · rw[hx5]at hx⊢;simp -implicitDefEqProofs only[mkE,go_sem,hmap,z0f hx,dec_lt hx,d55];cases h0:((labs0 ns).length==0)
     · have h0':((((labs0 ns).length:Nat):Int)==0)=false:=by rw[←h0];exact z4s _
       have hl:labs ns=labs0 ns:=by unfold labs;rw[if_neg (by simpa using h0)]
       rw[hl]at hset hb2;simp -implicitDefEqProofs only[go_sem,h0',g0,s0,z0k];refine CO.intro hset ?_;unfold setV at hb2⊢;rw[hl];cases hs:z3E (setL (labs0 ns))
       all_goals rw[hs]at hb2
       all_goals simp -implicitDefEqProofs only[go_sem]
       all_goals exact Fini.trim2 (σ':=σ) (ex:=[.dead]) rfl rfl (Nat.le_refl _) hb2 hbel
     · have h0':((((labs0 ns).length:Nat):Int)==0)=true:=by rw[←h0];exact z4s _
       have h00:labs0 ns=[]:=by simpa using h0
       have hl:labs ns=[(⟨#[115,101,118]⟩,⟨#[97]⟩)]:=by unfold labs;rw[if_pos (by simpa using h0)]
       have p1:(0+1≤2^32)=True:=by simp
       have p2:(1≤2^32)=True:=by simp
       rw[h00]at h0'⊢;rw[hl]at hset hb2;have z0:(((0:Nat):Int)==0)=true:=rfl;simp -implicitDefEqProofs only[go_sem,z0,h0',g0,s0,z0k,p1,p2,z7k];refine CO.intro' hset rfl rfl ?_;unfold setV at hb2⊢;rw[hl];cases hs:z3E (setL [(⟨#[115,101,118]⟩,⟨#[97]⟩)])
       all_goals rw[hs]at hb2
       all_goals simp -implicitDefEqProofs only[go_sem]
       all_goals exact Fini.trim2 (σ':=σ) (ex:=[.dead]) rfl rfl (Nat.le_refl _) hb2 hbel
end
end Go.Proofs.YtmkmhhjkdaklbaaGreat
namespace Go.Proofs.YtmkmhhjkdaklbaaGreat
open Go Go.Ab
set_option maxRecDepth 100000
abbrev U (n:Int):AV:=.pl (.int .u64 n)
inductive Rex where
 |mk (op a b c d:Int) (ks:List Rex)
namespace Rex
def op:Rex→Int|.mk op _ _ _ _ _=>op
def a:Rex→Int|.mk _ a _ _ _ _=>a
def b:Rex→Int|.mk _ _ b _ _ _=>b
def c:Rex→Int|.mk _ _ _ c _ _=>c
def d:Rex→Int|.mk _ _ _ _ d _=>d
def ks:Rex→List Rex|.mk _ _ _ _ _ ks=>ks
mutual
def av:Rex→AV
 |.mk op a b c d ks=>.agg [I op,U a,U b,U c,U d,.sl 6 (avL ks)]
def avL:List Rex→List AV
 |[]=>[]
 |x::xs=>av x::avL xs
end
theorem zg7:∀l:List Rex,avL l=l.map av
 |[]=>rfl
 |x::xs=>by rw[avL,zg7 xs];rfl
theorem av_eq (x:Rex):x.av=.agg [I x.op,U x.a,U x.b,U x.c,U x.d,.sl 6 (x.ks.map av)]:=by
 cases x;simp only[av,op,a,b,c,d,ks,zg7]
theorem zcy {x y:Rex} (h:y∈x.ks):SizeOf.sizeOf y<SizeOf.sizeOf x:=by
 cases x;have:=List.sizeOf_lt_of_mem h;simp only[ks]at this;simp;omega
mutual
def cut:Rex→Int→Int
 |.mk _ _ _ _ _ ks,most=>cutL ks most 1
def cutL:List Rex→Int→Int→Int
 |[],_,n=>n
 |x::xs,most,n=>if n≤most then cutL xs most (n+cut x (most-n)) else n
end
def run (ks:List Rex) (most:Int):Nat→Int
 |0=>1
 |i+1=>match ks[i]? with
  |some x=>run ks most i+x.cut (most-run ks most i)
  |none=>run ks most i
end Rex
open Rex
section
variable (σ:St)
end
end Go.Proofs.YtmkmhhjkdaklbaaGreat
namespace Go.Proofs.YtmkmhhjkdaklbaaGreat
open Go Go.Ab
set_option maxRecDepth 100000
namespace Rex
mutual
def size:Rex→Int
 |.mk op _ _ _ _ ks=>if op==1 then 1 else if op==3 then sizeL ks+2*((ks.length:Int)-1) else if op==4 then sizeL ks+2 else if op==5 then sizeL ks+1 else if op==6 then sizeL ks+1 else sizeL ks
def sizeL:List Rex→Int
 |[]=>0
 |x::xs=>size x+sizeL xs
end
def plain (x:Rex):Bool:=x.a==0&&(x.b==0&&(x.c==0&&(x.d==0&&true)))
end Rex
open Rex
section
variable (σ:St)
end
end Go.Proofs.YtmkmhhjkdaklbaaGreat
namespace Go.Proofs.YtmkmhhjkdaklbaaGreat
open Go Go.Ab
set_option maxRecDepth 100000
structure Stp where
 op:Int
 a:Int
 b:Int
 c:Int
 d:Int
 x:Int
 y:Int
def Stp.av (s:Stp):AV:=.agg [I s.op,U s.a,U s.b,U s.c,U s.d,I s.x,I s.y]
def inR (n at_:Int):Bool:=decide (0≤at_)&&decide (at_<n)
def Stp.none (s:Stp):Bool:=s.a==0&&(s.b==0&&(s.c==0&&(s.d==0&&true)))
def zg8 (s:Stp) (n:Int) (last:Bool):Bool :=
 if(s.op != 1)&& !s.none then false
 else if s.op==1 then(s.x==0&&s.y==0)&& !last
 else if s.op==2 then inR n s.x&&inR n s.y
 else if s.op==3 then inR n s.x&&s.y==0
 else(s.op==4&&s.x==0)&&s.y==0
section
variable (σ:St)
def zhW (ys:List Stp):Bool :=
 if decide ((ys.length:Int)<1) then false else if decide ((40:Int)<ys.length) then false
 else !((ys.take (ys.length-1)).any fun s=>!zg8 s ys.length false)&&(match ys[ys.length-1]? with|some s=>zg8 s ys.length true|none=>false)
end
abbrev W (b:BitVec 64):AV:=U (b.toNat:Int)
end Go.Proofs.YtmkmhhjkdaklbaaGreat
namespace Go.Proofs.YtmkmhhjkdaklbaaGreat
open Go Go.Ab
set_option maxRecDepth 100000
namespace Rex
mutual
def lay:Nat→Rex→List Stp
 |n,.mk op a b c d ks =>
  if op==1 then[⟨1,a,b,c,d,0,0⟩]
  else if op==2 then layL n ks
  else if op==3 then layW n ((n+(layW n 0 ks).length:Nat):Int) ks
  else if op==4 then⟨2,0,0,0,0,(n:Int)+1,((n+2+(layH (n+1) ks).length:Nat):Int)⟩::(layH (n+1) ks++[⟨3,0,0,0,0,(n:Int),0⟩])
  else if op==5 then layH n ks++[⟨2,0,0,0,0,(n:Int),((n+(layH n ks).length:Nat):Int)+1⟩]
  else if op==6 then⟨2,0,0,0,0,(n:Int)+1,((n+1+(layH (n+1) ks).length:Nat):Int)⟩::layH (n+1) ks
  else[]
def layL:Nat→List Rex→List Stp
 |_,[]=>[]
 |n,x::xs=>lay n x++layL (n+(lay n x).length) xs
def layH:Nat→List Rex→List Stp
 |_,[]=>[]
 |n,x::_=>lay n x
def layW:Nat→Int→List Rex→List Stp
 |_,_,[]=>[]
 |n,fin,x::xs=>if xs.isEmpty then lay n x else
  ⟨2,0,0,0,0,(n:Int)+1,((n+2+(lay (n+1) x).length:Nat):Int)⟩::(lay (n+1) x++(⟨3,0,0,0,0,fin,0⟩::layW (n+2+(lay (n+1) x).length) fin xs))
end
end Rex
end Go.Proofs.YtmkmhhjkdaklbaaGreat
namespace Go.Proofs.YtmkmhhjkdaklbaaGreat
open Go Go.Ab
set_option maxRecDepth 100000
open Rex
theorem CD.intro' {P:Program} {n0:Nat} {k:List Fr} {B:Bs} {env:Env} {σ σ₀ σ':St} {S:List St} {ob:List St→Prop} {f:FuncId} {args args₀:List AV} {d:Option Tmp} {l:List DOper} {r:AV} (h:Ans P f args₀ σ₀ r σ') (ha:args=args₀) (hs:σ=σ₀)
  (h':D P n0 l k B (putA env d r) (S++[σ']) σ' ob):CD P n0 f args d l k B env S σ ob:=by subst ha;subst hs;exact CD.intro h h'
def rowV (k:Nat) (L:List AV):AV:=if L.isEmpty then .nils else .osl k L.length
def rowS (sz:Nat) (A:St) (L:List AV) (E:St):St:=if L.isEmpty then A++E else A++.row sz L::E
theorem zcz {k:Nat} {L:List AV} (h:L≠[]):rowV k L=.osl k L.length:=by simp[rowV,h]
theorem zcA {sz:Nat} {A E:St} {L:List AV} (h:L≠[]):rowS sz A L E=A++.row sz L::E:=by simp[rowS,h]
abbrev sv (l:List Stp):List AV:=l.map Stp.av
theorem sv_ne {l:List Stp} (h:l≠[]):sv l≠[]:=by simpa[sv] using h
def Lays (x:Rex):Prop:=∀(ls:List Stp) (A E:St),(ls=[]→E=[])→(ls.length:Int)+x.size≤1000 →
 Ans Tryz.prog 195 [rowV A.length (sv ls),x.av] (rowS 7 A (sv ls) E) (rowV A.length (sv (ls++lay ls.length x))) (rowS 7 A (sv (ls++lay ls.length x)) E)
theorem Lays.own {x:Rex} (h:Lays x) (ls:List Stp) (A E:St) (hne:ls≠[]) (hb:(ls.length:Int)+x.size≤1000) :
  Ans Tryz.prog 195 [.osl A.length ls.length,x.av] (A++.row 7 (sv ls)::E) (.osl A.length (ls.length+(lay ls.length x).length)) (A++.row 7 (sv (ls++lay ls.length x))::E):=by
 have:=h ls A E (fun e=>absurd e hne) hb
 rw[zcz (sv_ne hne),zcA (sv_ne hne),zcz (sv_ne (by simp[hne])),zcA (sv_ne (by simp[hne]))]at this
 simpa[sv] using this
theorem p32:(1≤2^32)=True:=by simp
theorem w1:IntKind.i64.wrap 1=1:=by decide
end Go.Proofs.YtmkmhhjkdaklbaaGreat
namespace Go.Proofs.YtmkmhhjkdaklbaaGreat
open Go Go.Ab
set_option maxRecDepth 100000
def c224:ACode :=
 (sq_ [pr_ 2 (mi_ .u8 0)]
 (.seq (sq_ [mv_ 4 0,
 c1_ 5 190 4,
 pr_ 6 (no_ 5)]
 (.cond (.tmp 6)
 (sq_ [mv_ 7 0,
 c1_ 8 217 7]
 (sq_ [pr_ 2 (mi_ .u8 0)]
 .ret))
 .skip))
 (.seq (.draw [⟨mv_ 9 0,[],false,0,0⟩,
 ⟨pr_ 10 (nc_ 9),[0],false,0,0⟩,
 ⟨pr_ 11 (fa_ 0 10),[0,1],false,0,0⟩,
 ⟨pr_ 12 (lf_ 1 11),[0,1,2],false,0,0⟩,
 ⟨mv_ 13 0,[],false,0,0⟩,
 ⟨pr_ 14 (nc_ 13),[4],false,0,0⟩,
 ⟨pr_ 15 (fa_ 1 14),[4,5],false,0,0⟩,
 ⟨pr_ 16 (lf_ 1 15),[4,5,6],false,0,0⟩,
 ⟨pr_ 17 (.idxs (.tmp 12) (.tmp 16)),(List.range 8),false,0,0⟩,
 ⟨mv_ 3 17,(List.range 9),false,0,0⟩])
 (sq_ [mv_ 18 0,
 pr_ 19 (nc_ 18),
 pr_ 20 (fa_ 1 19),
 pr_ 21 (lf_ 1 20),
 pr_ 22 (bk_ .add 21 .i64 1),
 pr_ 23 (nc_ 18),
 pr_ 24 (fa_ 1 23),
 st_ (so_ 1 24 22)]
 (.seq (sq_ [mv_ 25 3,
 pr_ 26 (bk_ .eql 25 .u8 92)]
 (.cond (.tmp 26)
 (.seq (.seq (.draw [⟨mv_ 27 0,[],false,0,0⟩,
 ⟨c1_ 28 190 27,[0],true,0,0⟩,
 ⟨pr_ 29 (no_ 28),[0,1],false,1,1⟩,
 ⟨mv_ 30 29,[0,1,2],false,1,1⟩,
 ⟨gp_ 31 30 false (mo_ 0),[0,1,2,3],false,1,1⟩,
 ⟨gp_ 32 30 false (nc_ 31),[0,1,2,3,4],false,1,1⟩,
 ⟨gp_ 33 30 false (fa_ 0 32),(List.range 6),false,1,1⟩,
 ⟨gp_ 34 30 false (lf_ 1 33),(List.range 7),false,1,1⟩,
 ⟨gp_ 35 30 false (mo_ 0),[0,1,2,3],false,1,1⟩,
 ⟨gp_ 36 30 false (nc_ 35),[0,1,2,3,8],false,1,1⟩,
 ⟨gp_ 37 30 false (fa_ 1 36),[0,1,2,3,8,9],false,1,1⟩,
 ⟨gp_ 38 30 false (lf_ 1 37),[0,1,2,3,8,9,10],false,1,1⟩,
 ⟨gp_ 39 30 false (.idxs (.tmp 34) (.tmp 38)),(List.range 12),false,1,1⟩,
 ⟨gc_ 40 30 false 216 [(.tmp 39)],(List.range 13),true,0,0⟩,
 ⟨gp_ 41 30 false (no_ 40),(List.range 14),false,2,2⟩,
 ⟨pr_ 42 (po_ 30 41),(List.range 15),false,2,2⟩])
 (.cond (.tmp 42)
 (sq_ [mv_ 43 0,
 c1_ 44 217 43]
 (sq_ [pr_ 2 (mi_ .u8 0)]
 .ret))
 .skip))
 (sq_ [mv_ 45 0,
 pr_ 46 (nc_ 45),
 pr_ 47 (fa_ 1 46),
 pr_ 48 (lf_ 1 47),
 pr_ 49 (bk_ .add 48 .i64 1),
 pr_ 50 (nc_ 45),
 pr_ 51 (fa_ 1 50),
 st_ (so_ 1 51 49)]
 (.seq (.draw [⟨mv_ 52 0,[],false,0,0⟩,
 ⟨pr_ 53 (nc_ 52),[0],false,0,0⟩,
 ⟨pr_ 54 (fa_ 0 53),[0,1],false,0,0⟩,
 ⟨pr_ 55 (lf_ 1 54),[0,1,2],false,0,0⟩,
 ⟨mv_ 56 0,[],false,0,0⟩,
 ⟨pr_ 57 (nc_ 56),[4],false,0,0⟩,
 ⟨pr_ 58 (fa_ 1 57),[4,5],false,0,0⟩,
 ⟨pr_ 59 (lf_ 1 58),[4,5,6],false,0,0⟩,
 ⟨pr_ 60 (bk_ .sub 59 .i64 1),[4,5,6,7],false,0,0⟩,
 ⟨pr_ 61 (.idxs (.tmp 55) (.tmp 60)),(List.range 9),false,0,0⟩,
 ⟨mv_ 2 61,(List.range 10),false,0,0⟩])
 .ret)))
 .skip))
 (.seq (sq_ [mv_ 62 3,
 pr_ 63 (bk_ .eql 62 .u8 93),
 mv_ 64 63,
 gp_ 65 64 false (mo_ 3),
 gp_ 66 64 false (bk_ .eql 65 .u8 91),
 pr_ 67 (po_ 64 66),
 mv_ 68 67,
 gp_ 69 68 false (mo_ 3),
 gp_ 70 68 false (bk_ .eql 69 .u8 94),
 pr_ 71 (po_ 68 70),
 mv_ 72 71,
 gp_ 73 72 false (mo_ 3),
 gp_ 74 72 false (bk_ .eql 73 .u8 45),
 pr_ 75 (po_ 72 74)]
 (.cond (.tmp 75)
 (.ops [mv_ 76 0,
 c1_ 77 217 76])
 .skip))
 (sq_ [mv_ 78 3,
 mv_ 2 78]
 .ret)))))))
def o224:List Tmp:=[]
def r224:List RV:=[.tmp 2]
theorem t224:Text Tryz.prog 224 o224 c224 r224 79:=.mk_ Tryz.f224 rfl
theorem zcB (f : FuncId) (fn : Func) (hf : Tryz.prog.funcs[f]? = some fn) (hname : (fn.name == "runtime.NumGoroutine") = false) (hb : fn.body.isNone = true) (hn : Extern.findNext fn = none)
  (e:Array Value→Sem Value) (he:Extern.find fn=some e) (g:Value→Option Value) (hg:∀v r w,g v=some r→(e #[v]).run Tryz.prog w=.ok r w)
  (args:List AV) (σ:St) (r:AV) (σ':St) (h:(match args with|[.pl v]=>(g v).map fun r=>(AV.pl r,σ)|_=>none)=some (r,σ')):Ans Tryz.prog f args σ r σ':=by
 split at h
 · rename_i v;obtain⟨q,hq,h⟩:=z01 h;simp only[Prod.mk.injEq]at h;obtain⟨rfl,rfl⟩:=h;intro M ν w vs gd hvs;refine .inr ⟨q,w,?_,M,ν,gd,.refl,.pl _⟩;obtain⟨hl,hr⟩:=hvs
   match vs,hl with
   |[a],_ =>
    have h0:=hr 0 (by simp) (by simp)
    simp only[List.getElem_cons_zero]at h0;cases h0;rw[run_callFunc_extern hf hname hb hn he];rw[show([v].toArray)=#[v] from rfl,hg v q w hq]
    rfl
 · simp at h
def bitsG:Value→Option Value
 |.float .f64 b=>some (.int .u64 b)
 |_=>none
theorem zeD (v r:Value) (w:World) (h:bitsG v=some r):(Extern.MathFloatBits.float64bits #[v]).run Tryz.prog w=.ok r w:=by
 unfold bitsG at h;split at h<;>simp at h
 subst h;rfl
def ext_bits:Ext Tryz.prog:=⟨47,fun args σ=>match args with|[.pl v]=>(bitsG v).map fun r=>(AV.pl r,σ)|_=>none,
 zcB 47 Tryz.f47 (by kernel_rfl) (by kernel_rfl) (by kernel_rfl) (by kernel_rfl) Extern.MathFloatBits.float64bits (by kernel_rfl) bitsG zeD⟩
def z4t:Value→Option Value
 |.int .u64 n=>some (.float .f64 n.toNat)
 |_=>none
theorem z8o (v r:Value) (w:World) (h:z4t v=some r):(Extern.MathFloatBits.float64frombits #[v]).run Tryz.prog w=.ok r w:=by
 unfold z4t at h;split at h<;>simp at h
 subst h;rfl
def ext_frombits:Ext Tryz.prog:=⟨151,fun args σ=>match args with|[.pl v]=>(z4t v).map fun r=>(AV.pl r,σ)|_=>none,
 zcB 151 Tryz.f151 (by kernel_rfl) (by kernel_rfl) (by kernel_rfl) (by kernel_rfl) Extern.MathFloatBits.float64frombits (by kernel_rfl) z4t z8o⟩
theorem zhX (args:List AV) (σ:St) (r:AV) (σ':St) (h:(match args with
 |[.pl (.string a),.pl (.string b)]=>some (AV.pl (.int .i64 (Extern.BytealgCompare.cmp a b)),σ)
 |_=>none)=some (r,σ')):Ans Tryz.prog 183 args σ r σ':=by
 split at h
 · rename_i s c;simp only[Option.some.injEq,Prod.mk.injEq]at h;obtain⟨rfl,rfl⟩:=h;intro M ν w vs g hvs;refine .inr ⟨_,w,?_,M,ν,g,.refl,.pl _⟩;obtain⟨hl,hr⟩:=hvs
   match vs,hl with
   |[a,b],_ =>
    have h0:=hr 0 (by simp) (by simp)
    have h1:=hr 1 (by simp) (by simp)
    simp only[List.getElem_cons_zero,List.getElem_cons_succ]at h0 h1;cases h0;cases h1;rw[run_callFunc_extern (e:=Extern.BytealgCompare.compare) (P:=Tryz.prog) (f:=183) (fn:=Tryz.f183) (by kernel_rfl) (by kernel_rfl) (by kernel_rfl) (by kernel_rfl) (by kernel_rfl)]
    rfl
 · simp at h
theorem zhY (args:List AV) (σ:St) (r:AV) (σ':St) (h:(match args with
 |[.pl (.string s),.pl (.int .u8 c)]=>some (AV.pl (.int .i64 (firstIdx s c.toNat.toUInt8)),σ)
 |_=>none)=some (r,σ')):Ans Tryz.prog 225 args σ r σ':=by
 split at h
 · rename_i s c;simp only[Option.some.injEq,Prod.mk.injEq]at h;obtain⟨rfl,rfl⟩:=h;intro M ν w vs g hvs;refine .inr ⟨_,w,?_,M,ν,g,.refl,.pl _⟩;obtain⟨hl,hr⟩:=hvs
   match vs,hl with
   |[a,b],_ =>
    have h0:=hr 0 (by simp) (by simp)
    have h1:=hr 1 (by simp) (by simp)
    simp only[List.getElem_cons_zero,List.getElem_cons_succ]at h0 h1;cases h0;cases h1;rw[run_callFunc_extern (e:=Extern.BytealgIndexByte.indexByte) (P:=Tryz.prog) (f:=225) (fn:=Tryz.f225) (by kernel_rfl) (by kernel_rfl) (by kernel_rfl) (by kernel_rfl) (by kernel_rfl)]
    have:=run_indexByte_string (P:=Tryz.prog) s c w;rw[this];rfl
 · simp at h
abbrev B8 (n:Int):AV:=.pl (.int .u8 n)
abbrev pob (s:ByteArray) (at_:Nat) (bad:Bool):Ob:=.box [Sx s,I at_,Bo bad]
def byteAt (s:ByteArray) (a:Nat):Nat:=(s.data.toList.getD a 0).toNat
theorem z08 (s:ByteArray) (a:Nat):(s.data.toList.getD a 0).toNat=byteAt s a:=rfl
theorem z23 (s:ByteArray) (a:Nat):byteAt s a<256:=(s.data.toList.getD a 0).toNat_lt
theorem z0m (a b:Nat):((a:Int)==(b:Int))=(a==b):=by
 rw[Bool.eq_iff_iff];simp only[beq_iff_eq];omega
theorem set_same {σ:St} {p:Nat} {o:Ob} (h:σ[p]?=some o):σ.set p o=σ:=by
 apply List.ext_getElem?;intro i;rw[List.getElem?_set];split
 · rename_i e;subst e;have:p<σ.length:=(List.getElem?_eq_some_iff.1 h).1;simp only[this,if_true,h]
 · rfl
theorem z0V {n:Nat} (h:n≤4294967296):IntKind.i64.wrap ((n:Int)+1)=((n+1:Nat):Int):=by
 simp only[IntKind.wrap,IntKind.bits,IntKind.signed];simp;omega
def over (s:ByteArray) (a:Nat) (bad:Bool):Bool:=bad||decide (s.size≤a)
def sees (s:ByteArray) (a:Nat) (bad:Bool) (c:Nat):Bool:=!over s a bad&&(byteAt s a==c)
def nextA (s:ByteArray) (a:Nat) (bad:Bool) (c:Nat):Nat:=if sees s a bad c then a+1 else a
def pbyte (s:ByteArray) (a:Nat) (bad:Bool):Nat×Nat×Bool:=if over s a bad then(0,a,true) else(byteAt s a,a+1,bad)
def signs:List Nat:=[124,42,43,63,40,41,91,93,46,92,94,45]
def within:List Nat:=[92,93,91,94,45]
def psign (s:ByteArray) (a:Nat) (bad:Bool):Nat×Nat×Bool :=
 ((pbyte s a bad).1,(pbyte s a bad).2.1,(pbyte s a bad).2.2|| !signs.contains (pbyte s a bad).1)
def z06 (s:ByteArray) (a:Nat) (bad:Bool):Nat×Nat×Bool :=
 if(pbyte s a bad).1==92 then psign s (pbyte s a bad).2.1 (pbyte s a bad).2.2
 else((pbyte s a bad).1,(pbyte s a bad).2.1,(pbyte s a bad).2.2||within.contains (pbyte s a bad).1)
theorem z1w {s:ByteArray} {a:Nat} {bad:Bool} (h:over s a bad=false):a<s.size:=by
 simp[over]at h;omega
theorem z3U (s:ByteArray) (a:Nat) (bad:Bool):(pbyte s a bad).1<256:=by
 unfold pbyte;split
 · show 0<256;decide
 · exact z23 s a
theorem z6J (s:ByteArray) (a:Nat) (bad:Bool):(z06 s a bad).1<256:=by
 unfold z06;split
 · exact z3U _ _ _
 · exact z3U _ _ _
section
variable (σ:St) (p:Nat) (s:ByteArray) (a:Nat) (bad:Bool)
theorem z4u (h:σ[p]?=some (pob s a bad)):Ans Tryz.prog 191 [.ptr p 0] σ (Bo (over s a bad)) σ:=by
 refine Ans.of_run t191 ?_;cases bad<;>simp -implicitDefEqProofs only[c191,r191,h,go_sem]
 · refine Fini.ret ?_;simp -implicitDefEqProofs only[go_sem,over,Bool.false_or,Int.ofNat_le];rfl
 · exact Fini.ret rfl
theorem z5k (c:Nat) (h:σ[p]?=some (pob s a bad)):Ans Tryz.prog 192 [.ptr p 0,B8 c] σ (Bo (sees s a bad c)) σ:=by
 refine Ans.of_run t192 ?_;simp -implicitDefEqProofs only[c192,r192,h,go_sem];refine CD.intro (z4u σ p s a bad h) ?_;cases hb:over s a bad
 · have hlt:=z1w hb;have h1:(a:Int)<s.size:=by omega
   simp -implicitDefEqProofs only[go_sem,h,h1,z08];refine Fini.ret ?_;simp -implicitDefEqProofs only[go_sem,sees,hb,z0m];rfl
 · simp -implicitDefEqProofs only[go_sem,h];refine Fini.ret ?_;simp -implicitDefEqProofs only[go_sem,sees,hb,Bool.false_and];rfl
theorem z5l (c:Nat) (hs:bad=true∨s.size≤40) (h:σ[p]?=some (pob s a bad)):Ans Tryz.prog 182 [.ptr p 0,B8 c] σ (Bo (sees s a bad c)) (σ.set p (pob s (nextA s a bad c) bad)):=by
 refine Ans.of_run t182 ?_;simp -implicitDefEqProofs only[c182,r182,h,go_sem];refine CO.intro (z5k σ p s a bad c h) ?_;unfold nextA;cases hb:sees s a bad c
 · simp -implicitDefEqProofs only[go_sem];rw[set_same h];exact Fini.ret rfl
 · have hlt:a<s.size:=by
    simp[sees]at hb;exact z1w hb.1
   have hsz:s.size≤40:=by
    rcases hs with rfl|hs
    · simp[sees,over]at hb
    · exact hs
   simp -implicitDefEqProofs only[go_sem,h,z0V (show a≤4294967296 by omega)]
   exact Fini.ret rfl
theorem z7l (hs:bad=true∨s.size≤40) (h:σ[p]?=some (pob s a bad)):Ans Tryz.prog 208 [.ptr p 0] σ (B8 (pbyte s a bad).1) (σ.set p (pob s (pbyte s a bad).2.1 (pbyte s a bad).2.2)):=by
 refine Ans.of_run t208 ?_;simp -implicitDefEqProofs only[c208,r208,h,go_sem];refine CO.intro (z4u σ p s a bad h) ?_;unfold pbyte;cases hb:over s a bad
 · have hlt:=z1w hb
   have hsz:s.size≤40:=by
    rcases hs with rfl|hs
    · simp[over]at hb
    · exact hs
   have h1:(a:Int)<s.size:=by omega
   have h2:IntKind.i64.wrap (((a+1:Nat):Int)-1)=(a:Int):=by
    simp only[IntKind.wrap,IntKind.bits,IntKind.signed];simp;omega
   simp -implicitDefEqProofs only[go_sem,h,z0o h,z0V (show a≤4294967296 by omega),h1,h2,z08]
   exact Fini.ret rfl
 · simp -implicitDefEqProofs only[go_sem,h,z0o h];exact Fini.ret rfl
theorem idx60 (t:ByteArray) (c:Nat):Ans Tryz.prog 225 [Sx t,B8 c] σ (I (firstIdx t c.toUInt8)) σ:=zhY _ _ _ _ rfl
theorem z4b (t:ByteArray) (c:Nat):Ans Tryz.prog 213 [Sx t,B8 c] σ (I (firstIdx t c.toUInt8)) σ:=by
 have h58:Ans Tryz.prog 222 [Sx t,B8 c] σ (I (firstIdx t c.toUInt8)) σ:=by
  refine Ans.of_run t222 ?_;simp -implicitDefEqProofs only[c222,r222,go_sem];refine CO.intro (idx60 σ t c) ?_;simp -implicitDefEqProofs only[go_sem];exact Fini.ret rfl
 refine Ans.of_run t213 ?_;simp -implicitDefEqProofs only[c213,r213,go_sem];refine CO.intro h58 ?_;simp -implicitDefEqProofs only[go_sem];exact Fini.ret rfl
theorem zcC:∀c:Nat,c<256→decide (firstIdx (ByteArray.mk #[124,42,43,63,40,41,91,93,46,92,94,45]) c.toUInt8<0)= !signs.contains c:=by decide +kernel
theorem zbn:∀c:Nat,c<256→decide (0≤firstIdx (ByteArray.mk #[92,93,91,94,45]) c.toUInt8)=within.contains c:=by decide +kernel
def stray:List Nat:=[42,43,63,93]
theorem zcD:∀c:Nat,c<256→decide (0≤firstIdx (ByteArray.mk #[42,43,63,93]) c.toUInt8)=stray.contains c:=by decide +kernel
theorem zak (hs:bad=true∨s.size≤40) (h:σ[p]?=some (pob s a bad)):Ans Tryz.prog 212 [.ptr p 0] σ (B8 (psign s a bad).1) (σ.set p (pob s (psign s a bad).2.1 (psign s a bad).2.2)):=by
 have hc:=zcC _ (z3U s a bad);unfold psign;refine Ans.of_run t212 ?_;simp -implicitDefEqProofs only[c212,r212,h,go_sem];refine CO.intro (z7l σ p s a bad hs h) ?_;generalize pbyte s a bad=q at hc⊢;obtain⟨c,a',b'⟩:=q;have hg:(σ.set p (pob s a' b'))[p]?=some (pob s a' b'):=z0o h _
 cases b' with
 |true =>
  simp -implicitDefEqProofs only[go_sem,hg,List.set_set];exact Fini.ret rfl
 |false =>
  simp -implicitDefEqProofs only[go_sem,hg];refine CO.intro (z4b _ _ c) ?_;simp -implicitDefEqProofs only[go_sem,hg,List.set_set];refine Fini.ret2 (n:=0) rfl rfl ?_;rw[hc];rfl
theorem z6K (hs:bad=true∨s.size≤40) (h:σ[p]?=some (pob s a bad)):Ans Tryz.prog 221 [.ptr p 0] σ (B8 (z06 s a bad).1) (σ.set p (pob s (z06 s a bad).2.1 (z06 s a bad).2.2)):=by
 have hc:=zbn _ (z3U s a bad)
 have hs':(pbyte s a bad).2.2=true∨s.size≤40:=by
  unfold pbyte;split
  · exact .inl rfl
  · exact hs
 unfold z06;refine Ans.of_run t221 ?_;simp -implicitDefEqProofs only[c221,r221,h,go_sem];refine CO.intro (z7l σ p s a bad hs h) ?_;generalize pbyte s a bad=q at hc hs'⊢;obtain⟨c,a',b'⟩:=q;have hg:(σ.set p (pob s a' b'))[p]?=some (pob s a' b'):=z0o h _;have hc92:((c:Int)==92)=(c==92):=z0m c 92
 cases h92:c==92 with
 |true =>
  simp -implicitDefEqProofs only[go_sem,hc92,h92];refine CO.intro (zak _ p s a' b' hs' hg) ?_;simp -implicitDefEqProofs only[go_sem,List.set_set];exact Fini.ret rfl
 |false =>
  simp -implicitDefEqProofs only[go_sem,hc92,h92]
  cases b' with
  |true =>
   simp -implicitDefEqProofs only[go_sem,hg,List.set_set];exact Fini.ret rfl
  |false =>
   simp -implicitDefEqProofs only[go_sem,hg];refine CO.intro (z4b _ _ c) ?_;simp -implicitDefEqProofs only[go_sem,hg,List.set_set];refine Fini.ret2 (n:=0) rfl rfl ?_;rw[hc];rfl
end
def orU (v w:Int):Int:=IntKind.u64.wrap (BitVec.ofInt IntKind.u64.bits v ||| BitVec.ofInt IntKind.u64.bits w).toNat
def bitU (r:Nat):Int:=IntKind.u64.wrap (1*2^(min r IntKind.u64.bits))
def notU (v:Int):Int:=IntKind.u64.wrap (BitVec.ofInt IntKind.u64.bits (if IntKind.u64.signed then -1 else IntKind.u64.max) ^^^ BitVec.ofInt IntKind.u64.bits v).toNat
def z2Q (S:List Int) (c:Nat):List Int:=S.set (c/64) (orU (S.getD (c/64) 0) (bitU (c%64)))
def addR (S:List Int) (f:Nat):Nat→List Int
 |0=>S
 |n+1=>z2Q (addR S f n) (f+n)
theorem zbo (S:List Int) (c:Nat):(z2Q S c).length=S.length:=by simp[z2Q]
theorem z2R (S:List Int) (f n:Nat):(addR S f n).length=S.length:=by
 induction n with
 |zero=>rfl
 |succ n ih=>rw[addR,zbo,ih]
theorem gA {σ:St} {p:Nat} (hp:p<σ.length) (o:Ob) (ex:St):(σ.set p o++ex)[p]?=some o:=by
 rw[List.getElem?_append_left (by simpa using hp)];simp[hp]
theorem sA {σ:St} {p:Nat} (hp:p<σ.length) (o o':Ob) (ex:St):(σ.set p o++ex).set p o'=σ.set p o'++ex:=by
 rw[List.set_append_left _ _ (by simpa using hp),List.set_set]
theorem gL0 (σ:St) (p:Nat) (o x:Ob) (ex:St):(σ.set p o++x::ex)[σ.length]?=some x:=by
 rw[List.getElem?_append_right (by simp)];simp
theorem sL0 (σ:St) (p:Nat) (o x y:Ob) (ex:St):(σ.set p o++x::ex).set σ.length y=σ.set p o++y::ex:=by
 rw[List.set_append_right _ _ (by simp)];simp
theorem gL1 (σ:St) (p:Nat) (o x y:Ob) (ex:St):(σ.set p o++x::y::ex)[σ.length+1]?=some y:=by
 rw[List.getElem?_append_right (by simp)];simp
theorem sL1 (σ:St) (p:Nat) (o x y z:Ob) (ex:St):(σ.set p o++x::y::ex).set (σ.length+1) z=σ.set p o++x::z::ex:=by
 rw[List.set_append_right _ _ (by simp)];simp
theorem Fini.normal2 {n m:Nat} {rvs:List RV} {r r':AV} {σ σ':St} {env:Env} (h:resA env σ rvs=some r') (e:r'=r) (e':σ=σ'):Fini m rvs r σ' .normal env σ:=by
 subst e;subst e';exact Fini.normal h
section
variable (σ:St)
theorem z4c (l off:Nat) (cs:List AV) (c:Nat) (v:Int) (h:σ[l]?=some (.box cs)) (hv:cs[off+c/64]?=some (U v)) (hc:c<256) :
  Ans Tryz.prog 211 [.ptr l off,B8 c] σ (.tup []) (σ.set l (.box (cs.set (off+c/64) (U (orU v (bitU (c%64))))))):=by
 have hk:off+c/64<cs.length:=(List.getElem?_eq_some_iff.1 hv).1
 have e1:IntKind.u8.wrap ((c:Int).tdiv 64)=((c/64:Nat):Int):=by
  rw[show(c:Int).tdiv 64=((c/64:Nat):Int) from rfl]
  simp only[IntKind.wrap,IntKind.bits,IntKind.signed];simp;omega
 have e2:(c:Int).tmod 64=((c%64:Nat):Int):=rfl;have e3:((64:Int)=0)=False:=by simp
 have e4:(((c/64:Nat):Int)<(4:Nat))=True:=by simp;omega
 have e5:cs.drop (off+c/64)=U v::cs.drop (off+c/64+1):=by
  rw[List.drop_eq_getElem_cons hk];have:=(List.getElem?_eq_some_iff.1 hv).2;rw[this]
 have e6:(off+c/64+1≤cs.length)=True:=by simp;omega
 have e7:(1≤(cs.drop (off+c/64+1)).length+1)=True:=by simp
 refine Ans.of_run t211 ?_;simp -implicitDefEqProofs only[c211,r211,go_sem,e1,e2,e3,e4,Nat.mul_one,h,e5,e6,e7,List.drop_succ_cons]
 have hset:cs.set (off+c/64) (U (orU v (bitU (c%64))))=cs.take (off+c/64)++[U (orU v (bitU (c%64)))]++cs.drop (off+c/64+1):=by
  rw[List.set_eq_take_append_cons_drop,if_pos hk];simp
 rw[hset];exact Fini.normal2 (n:=0) rfl rfl rfl
def turnS (S:List Int):List Int:=S.map notU
theorem z4R (a b c d:Int):Ans Tryz.prog 210 [.agg [U a,U b,U c,U d]] σ (.agg [U (notU a),U (notU b),U (notU c),U (notU d)]) σ:=by
 have k0:∀(x y:Ob),(σ++[x,y])[σ.length]?=some x:=fun x y=>by rw[List.getElem?_append_right (by simp)];simp
 have k1:∀(x y:Ob),(σ++[x,y])[σ.length+1]?=some y:=fun x y=>by rw[List.getElem?_append_right (by simp)];simp
 have s0:∀(x y z:Ob),(σ++[x,y]).set σ.length z=σ++[z,y]:=fun x y z=>by rw[List.set_append_right _ _ (by simp)];simp
 have s1:∀(x y z:Ob),(σ++[x,y]).set (σ.length+1) z=σ++[x,z]:=fun x y z=>by rw[List.set_append_right _ _ (by simp)];simp
 have q1:IntKind.i64.wrap (0+1)=1:=by decide
 have q2:IntKind.i64.wrap (1+1)=2:=by decide
 have q3:IntKind.i64.wrap (2+1)=3:=by decide
 have q4:IntKind.i64.wrap (3+1)=4:=by decide
 have q5:IntKind.i64.wrap 1=1:=by decide
 have q6:IntKind.i64.wrap 2=2:=by decide
 have q7:IntKind.i64.wrap 3=3:=by decide
 have q8:IntKind.i64.wrap 4=4:=by decide
 have n1:Int.toNat 1=1:=rfl;have n2:Int.toNat 2=2:=rfl;have n3:Int.toNat 3=3:=rfl;have c4:((4:Nat):Int)=4:=rfl;refine Ans.of_run' t210 (fun hbel _=>?_)
 simp -implicitDefEqProofs only[c210,r210,go_sem,List.append_assoc,List.length_append]
 refine L.count 4 (fun i=>mkE 15 [(1,.ptr σ.length 0),(2,.ptr (σ.length+1) 0),(4,I i)])
  (fun i=>σ++[.box (match i with|0=>[U a,U b,U c,U d]|1=>[U (notU a),U b,U c,U d]|2=>[U (notU a),U (notU b),U c,U d]|3=>[U (notU a),U (notU b),U (notU c),U d]|_=>[U (notU a),U (notU b),U (notU c),U (notU d)]),.box [U 0,U 0,U 0,U 0]]) ?_ ?_ rfl rfl
 · intro i hi Q hQ
   match i,hi,hQ with
   |0,_,hQ =>
    simp -implicitDefEqProofs only[mkE,go_sem,k0,k1,s0,s1,q1,q2,q3,q4,q5,q6,q7,q8,n1,n2,n3,c4,Int.toNat_zero,Int.cast_ofNat_Int,Int.natCast_one,Int.natCast_zero];exact hQ
   |1,_,hQ =>
    simp -implicitDefEqProofs only[mkE,go_sem,k0,k1,s0,s1,q1,q2,q3,q4,q5,q6,q7,q8,n1,n2,n3,c4,Int.toNat_zero,Int.cast_ofNat_Int,Int.natCast_one,Int.natCast_zero];exact hQ
   |2,_,hQ =>
    simp -implicitDefEqProofs only[mkE,go_sem,k0,k1,s0,s1,q1,q2,q3,q4,q5,q6,q7,q8,n1,n2,n3,c4,Int.toNat_zero,Int.cast_ofNat_Int,Int.natCast_one,Int.natCast_zero];exact hQ
   |3,_,hQ =>
    simp -implicitDefEqProofs only[mkE,go_sem,k0,k1,s0,s1,q1,q2,q3,q4,q5,q6,q7,q8,n1,n2,n3,c4,Int.toNat_zero,Int.cast_ofNat_Int,Int.natCast_one,Int.natCast_zero];exact hQ
 · intro Q;simp -implicitDefEqProofs only[mkE,go_sem,k0,k1,s0,s1,c4,Int.cast_ofNat_Int];refine Fini.trim2 (σ':=σ) (ex:=[.box [U (notU a),U (notU b),U (notU c),U (notU d)],.box [U (notU a),U (notU b),U (notU c),U (notU d)]]) ?_ rfl (Nat.le_refl _) ?_ hbel
   · simp -implicitDefEqProofs only[go_sem,resA,z02,rvA,oneOf,k1]
   · refine .agg _ fun i hi=>?_
     have:∀y∈[U (notU a),U (notU b),U (notU c),U (notU d)],Bel σ.length y:=by
      intro y hy;simp only[List.mem_cons,List.not_mem_nil,or_false]at hy;rcases hy with rfl|rfl|rfl|rfl<;>exact .pl _
     exact this _ (List.getElem_mem hi)
end
def fuel:Nat:=2^64+1
def tstU (v:Int) (r:Nat):Bool:=IntKind.u64.wrap (BitVec.ofInt IntKind.u64.bits (v.fdiv (2^(min ((r:Int)).toNat IntKind.u64.bits))) &&& BitVec.ofInt IntKind.u64.bits 1).toNat==1
def setU (s:Stp) (k:Nat):Int:=[s.a,s.b,s.c,s.d].getD k 0
def z5L (s:Stp) (c:Nat):Bool:=s.op==1&&tstU (setU s (c/64)) (c%64)
def stpAt (ys:List Stp) (i:Nat):Stp:=ys.getD i ⟨0,0,0,0,0,0,0⟩
def cGo (s:ByteArray) (a:Nat) (b first:Bool):Bool:=first||(!over s a b&& !sees s a b 93)
def cTo (s:ByteArray) (a:Nat) (b:Bool):Nat×Nat×Bool :=
 if sees s (z06 s a b).2.1 (z06 s a b).2.2 45 then z06 s ((z06 s a b).2.1+1) (z06 s a b).2.2 else z06 s a b
def cBad (s:ByteArray) (a:Nat) (b:Bool):Bool:=(cTo s a b).2.2||decide ((cTo s a b).1<(z06 s a b).1)
def z1i (s:ByteArray):Nat→List Int→Nat→Bool→Bool→List Int×Nat×Bool
 |0,S,a,b,_=>(S,a,b)
 |n+1,S,a,b,first=>if cGo s a b first then
   z1i s n (addR S (z06 s a b).1 ((cTo s a b).1+1-(z06 s a b).1)) (cTo s a b).2.1 (cBad s a b) false
  else(S,a,b)
def cMeas (s:ByteArray) (a:Nat) (b first:Bool):Nat:=(s.size-a)+(if b then 0 else 1)+(if first then 1 else 0)
theorem z5m (s:ByteArray) (a:Nat) (b:Bool):a≤(pbyte s a b).2.1:=by
 unfold pbyte;split
 · exact Nat.le_refl _
 · exact Nat.le_succ _
theorem z4v (s:ByteArray) (a:Nat):(pbyte s a true)=(0,a,true):=by simp[pbyte,over]
theorem zbp (s:ByteArray) (a:Nat) (b:Bool) (h:b=false):(s.size-(pbyte s a b).2.1)+(if(pbyte s a b).2.2 then 0 else 1)+1≤(s.size-a)+1:=by
 subst h;unfold pbyte;split
 · simp
 · rename_i h;have:a<s.size:=z1w (by simpa using h)
   simp;omega
theorem z4w (s:ByteArray) (a:Nat) (b:Bool):a≤(psign s a b).2.1:=z5m s a b
theorem z6L (s:ByteArray) (a:Nat) (b:Bool):a≤(z06 s a b).2.1:=by
 unfold z06;split
 · exact Nat.le_trans (z5m s a b) (z4w _ _ _)
 · exact z5m s a b
theorem z6M (s:ByteArray) (a:Nat):(psign s a true).2.2=true:=by simp[psign,z4v]
theorem z3J (s:ByteArray) (a:Nat):z06 s a true=(0,a,true):=by simp[z06,z4v]
theorem z8p (s:ByteArray) (a:Nat) (b:Bool) (h:b=false):(s.size-(z06 s a b).2.1)+(if(z06 s a b).2.2 then 0 else 1)+1≤(s.size-a)+1:=by
 have h1:=zbp s a b h;unfold z06;split
 · have h2:=z4w s (pbyte s a b).2.1 (pbyte s a b).2.2
   cases hb:(pbyte s a b).2.2 with
   |true =>
    rw[hb]at h1 h2;rw[z6M];simp at h1⊢;omega
   |false =>
    rw[hb]at h1 h2;simp at h1;split<;>omega
 · cases hb:(pbyte s a b).2.2 with
   |true=>rw[hb]at h1;simp at h1⊢;omega
   |false =>
    rw[hb]at h1;simp only[Bool.false_or,Bool.false_eq_true,if_false]at h1⊢;split<;>omega
theorem zg9 (s:ByteArray) (a:Nat) (b:Bool):(z06 s a b).2.1≤(cTo s a b).2.1:=by
 unfold cTo;split
 · exact Nat.le_trans (Nat.le_succ _) (z6L _ _ _)
 · exact Nat.le_refl _
theorem zal (s:ByteArray) (a:Nat) (b:Bool) (h:(z06 s a b).2.2=true):(cTo s a b).2.2=true:=by
 unfold cTo;split
 · rw[h,z3J]
 · exact h
theorem zam (s:ByteArray) (a:Nat):cTo s a true=(0,a,true):=by
 unfold cTo;rw[z3J];simp[sees,over]
theorem z5M (s:ByteArray) (a:Nat):cBad s a true=true:=by simp[cBad,zam]
theorem zhZ (s:ByteArray) (a:Nat) (b:Bool):(cTo s a b).1<256:=by
 unfold cTo;split<;>exact z6J _ _ _
theorem zeE (s:ByteArray) (a:Nat) (b first:Bool) (h:cGo s a b first=true):cMeas s (cTo s a b).2.1 (cBad s a b) false<cMeas s a b first:=by
 unfold cMeas
 cases b with
 |true =>
  rw[z5M,zam]
  cases first with
  |true=>simp
  |false=>simp[cGo,over]at h
 |false =>
  have h1:=z8p s a false rfl;have h2:=zg9 s a false
  have h3:(if cBad s a false then 0 else 1)≤(if(z06 s a false).2.2 then 0 else 1):=by
   cases hm:(z06 s a false).2.2 with
   |true=>simp[cBad,zal s a false hm]
   |false=>split<;>simp
  have h0:(if(false:Bool)=true then 0 else 1)=1:=rfl
  have h0':(if(false:Bool)=true then 1 else 0)=0:=rfl
  cases first with
  |true =>
   have h5:(if(true:Bool)=true then 1 else 0)=1:=rfl
   rw[h0,h0',h5];omega
  |false =>
   have hov:over s a false=false:=by simp[cGo]at h;exact h.1
   have hlt:=z1w hov
   have hp:a+1≤(z06 s a false).2.1:=by
    have:(pbyte s a false).2.1=a+1:=by simp[pbyte,hov]
    unfold z06;split
    · exact Nat.le_trans (by omega) (z4w _ _ _)
    · show a+1≤(pbyte s a false).2.1;omega
   have h4:(if cBad s a false then 0 else 1)≤1:=by split<;>omega
   rw[h0,h0'];omega
def z2p (s:ByteArray) (a:Nat) (b:Bool):List Int×Nat×Bool :=
 let l:=z1i s (s.size+3) [0,0,0,0] (nextA s a b 94) b true
 ((if sees s a b 94 then turnS l.1 else l.1),nextA s l.2.1 l.2.2 93,!sees s l.2.1 l.2.2 93||l.2.2)
theorem z4S (s:ByteArray):∀(n:Nat) (S:List Int) (a:Nat) (b first:Bool),(z1i s n S a b first).1.length=S.length
 |0,S,a,b,first=>rfl
 |n+1,S,a,b,first=>by
  rw[z1i];split
  · rw[z4S s n,z2R]
  · rfl
theorem zbq {s:ByteArray} {a:Nat} {b:Bool} (h:b=true∨s.size≤40):(z06 s a b).2.2=true∨s.size≤40:=by
 rcases h with rfl|h
 · exact .inl (by rw[z3J])
 · exact .inr h
theorem zcE {s:ByteArray} {a:Nat} {b:Bool} (h:b=true∨s.size≤40):cBad s a b=true∨s.size≤40:=by
 rcases h with rfl|h
 · exact .inl (z5M s a)
 · exact .inr h
theorem z8q (s:ByteArray):∀(n:Nat) (S:List Int) (a:Nat) (b first:Bool),(b=true∨s.size≤40)→((z1i s n S a b first).2.2=true∨s.size≤40)
 |0,S,a,b,first,h=>h
 |n+1,S,a,b,first,h=>by
  rw[z1i];split
  · exact z8q s n _ _ _ _ (zcE h)
  · exact h
theorem zgL (n:Nat) (s:ByteArray) (a:Nat) (b:Bool):BelO n (pob s a b):=by
 intro x hx;simp only[List.mem_cons,List.not_mem_nil,or_false]at hx;rcases hx with rfl|rfl|rfl<;>exact .pl _
theorem z4x (n:Nat) (S:List Int):Bel n (.agg (S.map U)):=by
 refine .agg _ fun i hi=>?_
 have:∀y∈S.map U,Bel n y:=by
  intro y hy;simp only[List.mem_map]at hy;obtain⟨v,_,rfl⟩:=hy;exact .pl _
 exact this _ (List.getElem_mem hi)
theorem z51 {σ:St} {p:Nat} {s:ByteArray} {a:Nat} {b:Bool} (h:∀o∈σ.set p (pob s a b),BelO (σ.set p (pob s a b)).length o) (a':Nat) (b':Bool) :
  ∀o∈σ.set p (pob s a' b'),BelO (σ.set p (pob s a' b')).length o:=by
 have e:σ.set p (pob s a' b')=(σ.set p (pob s a b)).set p (pob s a' b'):=by rw[List.set_set]
 have el:(σ.set p (pob s a' b')).length=(σ.set p (pob s a b)).length:=by simp
 rw[el,e];exact z2c h (zgL _ _ _ _)
theorem z9C (s:ByteArray) (a:Nat) (b:Bool):cMeas s a b true<s.size+3:=by
 unfold cMeas;have h0:(if b=true then 0 else 1)≤1:=by split<;>omega
 have h1:(if(true:Bool)=true then 1 else 0)=1:=rfl
 rw[h1];omega
theorem z3f (S:List Int) (c:Nat):(S.map U).set (0+c/64) (U (orU (S.getD (c/64) 0) (bitU (c%64))))=(z2Q S c).map U:=by
 rw[Nat.zero_add,z2Q,List.map_set]
theorem z5N {S:List Int} (h:S.length=4) {c:Nat} (hc:c<256):(S.map U)[0+c/64]?=some (U (S.getD (c/64) 0)):=by
 have hk:c/64<S.length:=by omega
 rw[Nat.zero_add,List.getElem?_map,List.getElem?_eq_getElem hk];simp[List.getD,hk]
theorem wrap8 {n:Nat} (h:n<256):IntKind.u8.wrap (n:Int)=n:=by
 simp only[IntKind.wrap,IntKind.bits,IntKind.signed];simp;omega
theorem wrap64 {n:Nat} (h:n<100000):IntKind.i64.wrap (n:Int)=n:=by
 simp only[IntKind.wrap,IntKind.bits,IntKind.signed];simp;omega
theorem four {S:List Int} (h:S.length=4):∃a b c d,S=[a,b,c,d]:=by
 match S,h with
 |[a,b,c,d],_=>exact⟨a,b,c,d,rfl⟩
set_option maxHeartbeats 8000000 in
theorem zcF (σ:St) (p:Nat) (s:ByteArray) (a:Nat) (b:Bool) (hp:p<σ.length) (hs:b=true∨s.size≤40) :
  Ans Tryz.prog 209 [.ptr p 0] (σ.set p (pob s a b)) (.agg ((z2p s a b).1.map U)) (σ.set p (pob s (z2p s a b).2.1 (z2p s a b).2.2)):=by
 refine Ans.of_run' t209 (fun hbel _=>?_)
 have hlen:(σ.set p (pob s a b)).length=σ.length:=by simp
 simp -implicitDefEqProofs only[c209,r209,go_sem,List.append_assoc,List.length_append,List.length_set];refine CO.intro (z5l _ p s a b 94 hs (gA hp _ _)) ?_;simp -implicitDefEqProofs only[go_sem,sA hp];unfold z2p;have hcm:cMeas s (nextA s a b 94) b true<s.size+3:=z9C _ _ _;have hll:(z1i s (s.size+3) [0,0,0,0] (nextA s a b 94) b true).1.length=4:=z4S _ _ _ _ _ _;have hlh:=z8q s (s.size+3) [0,0,0,0] (nextA s a b 94) b true hs;generalize hres:z1i s (s.size+3) [0,0,0,0] (nextA s a b 94) b true=res at hll hlh⊢;generalize sees s a b 94=none
 refine L.intro (α:={ x:Nat×List Int×Nat×Bool×Bool // z1i s x.1 x.2.1 x.2.2.1 x.2.2.2.1 x.2.2.2.2=res∧cMeas s x.2.2.1 x.2.2.2.1 x.2.2.2.2<x.1∧x.2.1.length=4∧(x.2.2.2.1=true∨s.size≤40) })
  (fun x=>x.1.1)
  (fun x=>mkE 68 [(0,.ptr p 0),(2,.ptr σ.length 0),(3,.ptr (σ.length+1) 0),(4,Bo none),(5,Bo x.1.2.2.2.2)])
  (fun x=>σ.set p (pob s x.1.2.2.1 x.1.2.2.2.1)++[.box [U 0,U 0,U 0,U 0],.box (x.1.2.1.map U)])
  (fun x J hJ=>?_) ⟨(s.size+3,[0,0,0,0],nextA s a b 94,b,true),hres,hcm,rfl,hs⟩ ?_ ?_
 · obtain⟨⟨n,S,a1,b1,first⟩,h1,h2,h3,h4⟩:=x;simp only at h1 h2 h3 h4 hJ⊢
   cases n with
   |zero=>omega
   |succ n =>
   rw[z1i]at h1
   cases hgo:cGo s a1 b1 first with
   |false =>
    rw[hgo]at h1;simp only[Bool.false_eq_true,if_false]at h1;subst h1;have hf:first=false:=by cases first<;>simp[cGo]at hgo⊢
    subst hf;have hov:∀ex,Ans Tryz.prog 191 [.ptr p 0] (σ.set p (pob s a1 b1)++ex) (Bo (over s a1 b1)) (σ.set p (pob s a1 b1)++ex):=fun ex=>z4u _ p s a1 b1 (gA hp _ _)
    have hse:∀ex,Ans Tryz.prog 192 [.ptr p 0,B8 (93:Nat)] (σ.set p (pob s a1 b1)++ex) (Bo (sees s a1 b1 93)) (σ.set p (pob s a1 b1)++ex):=fun ex=>z5k _ p s a1 b1 93 (gA hp _ _)
    have hend:∀J:Prop,J→J:=fun _ h=>h
    obtain⟨x0,x1,x2,x3,rfl⟩:=four h3
    have hnx:∀(c:Nat),Ans Tryz.prog 182 [.ptr p 0,B8 c] (σ.set p (pob s a1 b1)++[.box [U 0,U 0,U 0,U 0],.box [U x0,U x1,U x2,U x3]]) (Bo (sees s a1 b1 c)) (σ.set p (pob s (nextA s a1 b1 c) b1)++[.box [U 0,U 0,U 0,U 0],.box [U x0,U x1,U x2,U x3]]):=fun c=>by
     have:=z5l (σ.set p (pob s a1 b1)++[.box [U 0,U 0,U 0,U 0],.box [U x0,U x1,U x2,U x3]]) p s a1 b1 c h4 (gA hp _ _)
     rwa [sA hp]at this
    cases ho:over s a1 b1 with
    |true =>
     have hs93:sees s a1 b1 93=false:=by simp[sees,ho]
     simp -implicitDefEqProofs only[mkE,go_sem];refine CO.intro (hov _) ?_;simp -implicitDefEqProofs only[go_sem,ho];refine CO.intro (hnx 93) ?_;cases none
     · simp -implicitDefEqProofs only[go_sem,hs93,sA hp,gA hp,gL0,sL0,gL1,sL1,nextA];refine Fini.trim2 (σ':=σ.set p (pob s a1 true)) (ex:=[.box [U x0,U x1,U x2,U x3],.box [U x0,U x1,U x2,U x3]]) ?_ rfl ?_ (z4x _ [x0,x1,x2,x3]) ?_
       · simp -implicitDefEqProofs only[go_sem,resA,z02,rvA,oneOf,gL0]
       · simp
       · exact z51 hbel _ _
     · simp -implicitDefEqProofs only[go_sem,hs93,sA hp,gA hp,gL0,sL0,gL1,sL1,nextA];refine CO.intro (z4R _ x0 x1 x2 x3) ?_;simp -implicitDefEqProofs only[go_sem,sA hp,gA hp,gL0,sL0,gL1,sL1,turnS];refine Fini.trim2 (σ':=σ.set p (pob s a1 true)) (ex:=[.box [U (notU x0),U (notU x1),U (notU x2),U (notU x3)],.box [U x0,U x1,U x2,U x3]]) ?_ rfl ?_ (z4x _ [notU x0,notU x1,notU x2,notU x3]) ?_
       · simp -implicitDefEqProofs only[go_sem,resA,z02,rvA,oneOf,gL0]
       · simp
       · exact z51 hbel _ _
    |false =>
     have hs93:sees s a1 b1 93=true:=by simpa[cGo,ho] using hgo
     simp -implicitDefEqProofs only[mkE,go_sem];refine CO.intro (hov _) ?_;simp -implicitDefEqProofs only[go_sem,ho];refine CO.intro (hse _) ?_;simp -implicitDefEqProofs only[go_sem,hs93];refine CO.intro (hnx 93) ?_;cases none
     · simp -implicitDefEqProofs only[go_sem,hs93,sA hp,gA hp,gL0,sL0,gL1,sL1,nextA];refine Fini.trim2 (σ':=σ.set p (pob s (a1+1) b1)) (ex:=[.box [U x0,U x1,U x2,U x3],.box [U x0,U x1,U x2,U x3]]) ?_ rfl ?_ (z4x _ [x0,x1,x2,x3]) ?_
       · simp -implicitDefEqProofs only[go_sem,resA,z02,rvA,oneOf,gL0]
       · simp
       · exact z51 hbel _ _
     · simp -implicitDefEqProofs only[go_sem,hs93,sA hp,gA hp,gL0,sL0,gL1,sL1,nextA];refine CO.intro (z4R _ x0 x1 x2 x3) ?_;simp -implicitDefEqProofs only[go_sem,sA hp,gA hp,gL0,sL0,gL1,sL1,turnS];refine Fini.trim2 (σ':=σ.set p (pob s (a1+1) b1)) (ex:=[.box [U (notU x0),U (notU x1),U (notU x2),U (notU x3)],.box [U x0,U x1,U x2,U x3]]) ?_ rfl ?_ (z4x _ [notU x0,notU x1,notU x2,notU x3]) ?_
       · simp -implicitDefEqProofs only[go_sem,resA,z02,rvA,oneOf,gL0]
       · simp
       · exact z51 hbel _ _
   |true =>
    rw[hgo,if_pos rfl]at h1;have h5:=zeE s a1 b1 first hgo;have hJm:cMeas s (cTo s a1 b1).2.1 (cBad s a1 b1) false<n:=by omega
    have hJl:(addR S (z06 s a1 b1).1 ((cTo s a1 b1).1+1-(z06 s a1 b1).1)).length=4:=by rw[z2R];exact h3
    have hJ':=hJ ⟨(n,addR S (z06 s a1 b1).1 ((cTo s a1 b1).1+1-(z06 s a1 b1).1),(cTo s a1 b1).2.1,cBad s a1 b1,false),h1,hJm,hJl,zcE h4⟩ (Nat.lt_succ_self n);simp only at hJ';have hm1:=z6J s a1 b1;have hm2:=zhZ s a1 b1;have hm3:=zbq (a:=a1) h4;clear hJ h1 h2 h5
    have hmem:∀ex,Ans Tryz.prog 221 [.ptr p 0] (σ.set p (pob s a1 b1)++ex) (B8 (z06 s a1 b1).1) (σ.set p (pob s (z06 s a1 b1).2.1 (z06 s a1 b1).2.2)++ex):=fun ex=>by
     have:=z6K (σ.set p (pob s a1 b1)++ex) p s a1 b1 h4 (gA hp _ _)
     rwa [sA hp]at this
    have hnext:∀(a:Nat) (b:Bool) (c:Nat) ex,(b=true∨s.size≤40)→Ans Tryz.prog 182 [.ptr p 0,B8 c] (σ.set p (pob s a b)++ex) (Bo (sees s a b c)) (σ.set p (pob s (nextA s a b c) b)++ex):=fun a b c ex h=>by
     have:=z5l (σ.set p (pob s a b)++ex) p s a b c h (gA hp _ _)
     rwa [sA hp]at this
    have hfin:∀(f t aT:Nat) (bT:Bool) (Q:Env→St→Prop),True:=fun _ _ _ _ _=>trivial
    cases first
    all_goals first
    |(simp -implicitDefEqProofs only[mkE,go_sem]
      refine CO.intro (hmem _) ?_
      simp -implicitDefEqProofs only[go_sem])
    |(have ho:over s a1 b1=false:=by simp[cGo]at hgo;exact hgo.1
      have hs93:sees s a1 b1 93=false:=by simp[cGo]at hgo;exact hgo.2
      simp -implicitDefEqProofs only[mkE,go_sem];refine CO.intro (z4u _ p s a1 b1 (gA hp _ _)) ?_;simp -implicitDefEqProofs only[go_sem,ho];refine CO.intro (z5k _ p s a1 b1 93 (gA hp _ _)) ?_;simp -implicitDefEqProofs only[go_sem,hs93];refine CO.intro (hmem _) ?_
      simp -implicitDefEqProofs only[go_sem])
    all_goals (
     clear hgo hmem;refine CO.intro (hnext _ _ 45 _ hm3) ?_;have hto:cTo s a1 b1=if sees s (z06 s a1 b1).2.1 (z06 s a1 b1).2.2 45 then z06 s ((z06 s a1 b1).2.1+1) (z06 s a1 b1).2.2 else z06 s a1 b1:=rfl
     have hbd:cBad s a1 b1=((cTo s a1 b1).2.2||decide ((cTo s a1 b1).1<(z06 s a1 b1).1)):=rfl;have hnx:nextA s (z06 s a1 b1).2.1 (z06 s a1 b1).2.2 45=if sees s (z06 s a1 b1).2.1 (z06 s a1 b1).2.2 45 then(z06 s a1 b1).2.1+1 else(z06 s a1 b1).2.1:=rfl
     rw[hnx];rw[hbd]at hJ';generalize z06 s a1 b1=m at *;obtain⟨f,am,bm⟩:=m;simp only at hm1 hm3 hto hJ'⊢
     have hmem2:∀ex,Ans Tryz.prog 221 [.ptr p 0] (σ.set p (pob s (am+1) bm)++ex) (B8 (z06 s (am+1) bm).1) (σ.set p (pob s (z06 s (am+1) bm).2.1 (z06 s (am+1) bm).2.2)++ex):=fun ex=>by
      have:=z6K (σ.set p (pob s (am+1) bm)++ex) p s (am+1) bm hm3 (gA hp _ _)
      rwa [sA hp]at this
     cases hsee:sees s am bm 45)
    all_goals (
     first
     |(rw[hsee,if_pos rfl]at hto
       simp -implicitDefEqProofs only[go_sem];refine CO.intro (hmem2 _) ?_;rw[←hto]
       simp -implicitDefEqProofs only[go_sem])
     |(rw[hsee,if_neg Bool.false_ne_true]at hto
       simp -implicitDefEqProofs only[go_sem]))
    all_goals (
     clear hmem2 hnx
     first|rw[←hto]|rw[show((f,am,bm):Nat×Nat×Bool)=cTo s a1 b1 from hto.symm]|skip)
    · rw[hto]at hm2 hJ';clear hto;simp only at hm2 hJ';have d1:decide ((f:Int)<(f:Int))=decide (f<f):=by rw[Bool.eq_iff_iff];simp
      have d2:IntKind.i64.wrap (f:Int)=(f:Int):=wrap64 (by omega)
      have d3:IntKind.i64.wrap (f:Int)=(f:Int):=wrap64 (by omega)
      cases bm
      all_goals (
       simp -implicitDefEqProofs only[go_sem,gA hp,sA hp,d1,d2,Bool.true_or,Bool.false_or]at hJ'⊢
       refine L.count (f+1-f) (fun i=>mkE 68 [(0,.ptr p 0),(2,.ptr σ.length 0),(3,.ptr (σ.length+1) 0),(4,Bo none),(7,B8 f),(8,I ((f+i:Nat):Int))])
        (fun i=>σ.set p (pob s am _)++[.box [U 0,U 0,U 0,U 0],.box ((addR S f i).map U)]) ?_ ?_ rfl rfl
       · intro i hi Q hQ;have c1:(((f+i:Nat):Int)≤(f:Int))=True:=by simp;omega
         have c2:IntKind.u8.wrap ((f+i:Nat):Int)=((f+i:Nat):Int):=wrap8 (by omega)
         have c3:IntKind.i64.wrap (((f+i:Nat):Int)+1)=((f+(i+1):Nat):Int):=by rw[wrapN (by omega) (by omega)];omega
         simp -implicitDefEqProofs only[mkE,go_sem,d3,c1,c2,c3];refine CO.intro (z4c _ (σ.length+1) 0 ((addR S f i).map U) (f+i) _ (gL1 _ _ _ _ _ _) (z5N (by rw[z2R];exact h3) (by omega)) (by omega)) ?_
         rw[sL1,z3f];simp -implicitDefEqProofs only[go_sem,c3];exact hQ
       · intro Q;have c1:(((f+(f+1-f):Nat):Int)≤(f:Int))=False:=by simp;omega
         simp -implicitDefEqProofs only[mkE,go_sem,d3,c1]
         exact hJ')
    · clear hto;generalize cTo s a1 b1=q at hm2 hJ' hJm hJl⊢;obtain⟨t,aT,bT⟩:=q;simp only at hm2 hJ'⊢;have d1:decide ((t:Int)<(f:Int))=decide (t<f):=by rw[Bool.eq_iff_iff];simp
      have d2:IntKind.i64.wrap (f:Int)=(f:Int):=wrap64 (by omega)
      have d3:IntKind.i64.wrap (t:Int)=(t:Int):=wrap64 (by omega)
      cases bT
      all_goals (
       simp -implicitDefEqProofs only[go_sem,gA hp,sA hp,d1,d2,Bool.true_or,Bool.false_or]at hJ'⊢
       refine L.count (t+1-f) (fun i=>mkE 68 [(0,.ptr p 0),(2,.ptr σ.length 0),(3,.ptr (σ.length+1) 0),(4,Bo none),(7,B8 t),(8,I ((f+i:Nat):Int))])
        (fun i=>σ.set p (pob s aT _)++[.box [U 0,U 0,U 0,U 0],.box ((addR S f i).map U)]) ?_ ?_ rfl rfl
       · intro i hi Q hQ;have c1:(((f+i:Nat):Int)≤(t:Int))=True:=by simp;omega
         have c2:IntKind.u8.wrap ((f+i:Nat):Int)=((f+i:Nat):Int):=wrap8 (by omega)
         have c3:IntKind.i64.wrap (((f+i:Nat):Int)+1)=((f+(i+1):Nat):Int):=by rw[wrapN (by omega) (by omega)];omega
         simp -implicitDefEqProofs only[mkE,go_sem,d3,c1,c2,c3];refine CO.intro (z4c _ (σ.length+1) 0 ((addR S f i).map U) (f+i) _ (gL1 _ _ _ _ _ _) (z5N (by rw[z2R];exact h3) (by omega)) (by omega)) ?_
         rw[sL1,z3f];simp -implicitDefEqProofs only[go_sem,c3];exact hQ
       · intro Q;have c1:(((f+(t+1-f):Nat):Int)≤(t:Int))=False:=by simp;omega
         simp -implicitDefEqProofs only[mkE,go_sem,d3,c1]
         exact hJ')
    · rw[hto]at hm2 hJ';clear hto;simp only at hm2 hJ';have d1:decide ((f:Int)<(f:Int))=decide (f<f):=by rw[Bool.eq_iff_iff];simp
      have d2:IntKind.i64.wrap (f:Int)=(f:Int):=wrap64 (by omega)
      have d3:IntKind.i64.wrap (f:Int)=(f:Int):=wrap64 (by omega)
      cases bm
      all_goals (
       simp -implicitDefEqProofs only[go_sem,gA hp,sA hp,d1,d2,Bool.true_or,Bool.false_or]at hJ'⊢
       refine L.count (f+1-f) (fun i=>mkE 68 [(0,.ptr p 0),(2,.ptr σ.length 0),(3,.ptr (σ.length+1) 0),(4,Bo none),(7,B8 f),(8,I ((f+i:Nat):Int))])
        (fun i=>σ.set p (pob s am _)++[.box [U 0,U 0,U 0,U 0],.box ((addR S f i).map U)]) ?_ ?_ rfl rfl
       · intro i hi Q hQ;have c1:(((f+i:Nat):Int)≤(f:Int))=True:=by simp;omega
         have c2:IntKind.u8.wrap ((f+i:Nat):Int)=((f+i:Nat):Int):=wrap8 (by omega)
         have c3:IntKind.i64.wrap (((f+i:Nat):Int)+1)=((f+(i+1):Nat):Int):=by rw[wrapN (by omega) (by omega)];omega
         simp -implicitDefEqProofs only[mkE,go_sem,d3,c1,c2,c3];refine CO.intro (z4c _ (σ.length+1) 0 ((addR S f i).map U) (f+i) _ (gL1 _ _ _ _ _ _) (z5N (by rw[z2R];exact h3) (by omega)) (by omega)) ?_
         rw[sL1,z3f];simp -implicitDefEqProofs only[go_sem,c3];exact hQ
       · intro Q;have c1:(((f+(f+1-f):Nat):Int)≤(f:Int))=False:=by simp;omega
         simp -implicitDefEqProofs only[mkE,go_sem,d3,c1]
         exact hJ')
    · clear hto;generalize cTo s a1 b1=q at hm2 hJ' hJm hJl⊢;obtain⟨t,aT,bT⟩:=q;simp only at hm2 hJ'⊢;have d1:decide ((t:Int)<(f:Int))=decide (t<f):=by rw[Bool.eq_iff_iff];simp
      have d2:IntKind.i64.wrap (f:Int)=(f:Int):=wrap64 (by omega)
      have d3:IntKind.i64.wrap (t:Int)=(t:Int):=wrap64 (by omega)
      cases bT
      all_goals (
       simp -implicitDefEqProofs only[go_sem,gA hp,sA hp,d1,d2,Bool.true_or,Bool.false_or]at hJ'⊢
       refine L.count (t+1-f) (fun i=>mkE 68 [(0,.ptr p 0),(2,.ptr σ.length 0),(3,.ptr (σ.length+1) 0),(4,Bo none),(7,B8 t),(8,I ((f+i:Nat):Int))])
        (fun i=>σ.set p (pob s aT _)++[.box [U 0,U 0,U 0,U 0],.box ((addR S f i).map U)]) ?_ ?_ rfl rfl
       · intro i hi Q hQ;have c1:(((f+i:Nat):Int)≤(t:Int))=True:=by simp;omega
         have c2:IntKind.u8.wrap ((f+i:Nat):Int)=((f+i:Nat):Int):=wrap8 (by omega)
         have c3:IntKind.i64.wrap (((f+i:Nat):Int)+1)=((f+(i+1):Nat):Int):=by rw[wrapN (by omega) (by omega)];omega
         simp -implicitDefEqProofs only[mkE,go_sem,d3,c1,c2,c3];refine CO.intro (z4c _ (σ.length+1) 0 ((addR S f i).map U) (f+i) _ (gL1 _ _ _ _ _ _) (z5N (by rw[z2R];exact h3) (by omega)) (by omega)) ?_
         rw[sL1,z3f];simp -implicitDefEqProofs only[go_sem,c3];exact hQ
       · intro Q;have c1:(((f+(t+1-f):Nat):Int)≤(t:Int))=False:=by simp;omega
         simp -implicitDefEqProofs only[mkE,go_sem,d3,c1]
         exact hJ')
 · simp[mkE]
 · simp
end Go.Proofs.YtmkmhhjkdaklbaaGreat
