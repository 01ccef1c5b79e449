/- The parser of patterns: an atom, and how often. No condition. -/
import Derived.Test.YteakobbdgehlgaaGreatDoorKXPPar5B
import Derived.Test.YteakobbdgehlgaaGreatDoorKXVi1B
import GoSem.Extern.BytealgCompare
import Derived.Laws.Strings
import Derived.Test.YteakobbdgehlgaaGreatDoorRows
import Derived.Test.YteakobbdgehlgaaGreatDoorAbArgB
set_option linter.unusedSimpArgs false
set_option linter.unusedVariables false
set_option linter.unusedSectionVars false
namespace Go.Proofs.YteakobbdgehlgaaGreatDoor
open Go Go.Ab
set_option maxRecDepth 100000
open Rex
def FAns (f:FuncId) (args:List AV) (s:ByteArray) (F:PF):Prop :=
 ∀(σ:St) (p a:Nat) (b:Bool),p<σ.length→(b=true∨s.size≤40) →
  Ans Tryz.prog f (.ptr p 0::args) (σ.set p (pob s a b)) (F a b).1.rv (σ.set p (pob s (F a b).2.1 (F a b).2.2))
section
variable {σ:St} {p:Nat} {s:ByteArray}
theorem FAns.ex {f:FuncId} {args:List AV} {F:PF} (h:FAns f args s F) (hp:p<σ.length) (a:Nat) (b:Bool) (hs:b=true∨s.size≤40) (ex:St) :
  Ans Tryz.prog f (.ptr p 0::args) (σ.set p (pob s a b)++ex) (F a b).1.rv (σ.set p (pob s (F a b).2.1 (F a b).2.2)++ex):=by
 have:=h (σ.set p (pob s a b)++ex) p a b (by simp;omega) hs
 rwa [sA hp,sA hp]at this
theorem z2F (hp:p<σ.length) (a:Nat) (b:Bool) (c:Nat) (hs:b=true∨s.size≤40) (ex:St) :
  Ans Tryz.prog 178 [.ptr p 0,B8 c] (σ.set p (pob s a b)++ex) (Bo (sees s a b c)) (σ.set p (pob s (nextA s a b c) b)++ex):=by
 have:=z3z (σ.set p (pob s a b)++ex) p s a b c hs (gA hp _ _)
 rwa [sA hp]at this
theorem zbd (hp:p<σ.length) (a:Nat) (b:Bool) (hs:b=true∨s.size≤40) (ex:St) :
  Ans Tryz.prog 191 [.ptr p 0] (σ.set p (pob s a b)++ex) (B8 (pbyte s a b).1) (σ.set p (pob s (pbyte s a b).2.1 (pbyte s a b).2.2)++ex):=by
 have:=z4R (σ.set p (pob s a b)++ex) p s a b hs (gA hp _ _)
 rwa [sA hp]at this
theorem zbe (hp:p<σ.length) (a:Nat) (b:Bool) (hs:b=true∨s.size≤40) (ex:St) :
  Ans Tryz.prog 195 [.ptr p 0] (σ.set p (pob s a b)++ex) (B8 (psign s a b).1) (σ.set p (pob s (psign s a b).2.1 (psign s a b).2.2)++ex):=by
 have:=z6U (σ.set p (pob s a b)++ex) p s a b hs (gA hp _ _)
 rwa [sA hp]at this
theorem z4U (hp:p<σ.length) (a:Nat) (b:Bool) (ex:St):Ans Tryz.prog 181 [.ptr p 0] (σ.set p (pob s a b)++ex) (Bo (over s a b)) (σ.set p (pob s a b)++ex) :=
 z2U _ p s a b (gA hp _ _)
theorem z42 (hp:p<σ.length) (a:Nat) (b:Bool) (c:Nat) (ex:St):Ans Tryz.prog 182 [.ptr p 0,B8 c] (σ.set p (pob s a b)++ex) (Bo (sees s a b c)) (σ.set p (pob s a b)++ex) :=
 z3y _ p s a b c (gA hp _ _)
theorem z9D (hp:p<σ.length) (a:Nat) (b:Bool) (hs:b=true∨s.size≤40) (ex:St) :
  Ans Tryz.prog 192 [.ptr p 0] (σ.set p (pob s a b)++ex) (.agg ((z1R s a b).1.map U)) (σ.set p (pob s (z1R s a b).2.1 (z1R s a b).2.2)++ex):=by
 have:=z8x (σ.set p (pob s a b)++ex) p s a b (by simp;omega) hs
 rwa [sA hp,sA hp]at this
end
theorem z7C (s:ByteArray) (a:Nat) (b:Bool):(z1R s a b).1.length=4:=by
 have h:=z3h s (s.size+3) [0,0,0,0] (nextA s a b 94) b true;unfold z1R;simp only;split
 · simp only[turnS,List.length_map];exact h
 · exact h
theorem z9E {s:ByteArray} {a:Nat} {b:Bool} (h:b=true∨s.size≤40):(pbyte s a b).2.2=true∨s.size≤40:=by
 rcases h with rfl|h
 · exact .inl (by rw[z2V])
 · exact .inr h
theorem add_get {c:Nat} (hc:c<256):([I 1,U 0,U 0,U 0,U 0,.nils]:List AV)[1+c/64]?=some (U 0):=by
 have h:c/64<4:=by omega
 generalize c/64=k at h
 match k,h with
 |0,_=>rfl
 |1,_=>rfl
 |2,_=>rfl
 |3,_=>rfl
theorem z43 {c:Nat} (hc:c<256):([I 1,U 0,U 0,U 0,U 0,.nils]:List AV).set (1+c/64) (U (orU 0 (bitU (c%64)))) =
  [I 1,U ((z24 z4 c).getD 0 0),U ((z24 z4 c).getD 1 0),U ((z24 z4 c).getD 2 0),U ((z24 z4 c).getD 3 0),.nils]:=by
 have h:c/64<4:=by omega
 unfold z24;generalize bitU (c%64)=w;generalize c/64=k at h
 match k,h with
 |0,_=>rfl
 |1,_=>rfl
 |2,_=>rfl
 |3,_=>rfl
theorem z9F (x:Rex):AV.cells x.rv=[I x.op,U x.a,U x.b,U x.c,U x.d,rvK x.ks]:=by rw[rv_eq];rfl
section
variable (s:ByteArray)
theorem z6X (F:PF) (d:Nat) (hd:d≤8) (hF:d<8→FAns 173 [I ((d+1:Nat):Int)] s F) (hfw:Fwd F):FAns 189 [I d] s (patom s F d):=by
 intro σ p a b hp hs;have hlen:∀o,(σ.set p o).length=σ.length:=fun o=>by simp
 refine Ans.of_run' t189 (fun hbel _=>?_)
 have hb2:=z3k hbel;simp -implicitDefEqProofs only[c189,r189,go_sem,List.append_assoc,List.length_append,List.length_set,gA hp,sA hp,gL0,sL0,gL1,sL1];refine CO.intro (zbd hp a b hs _) ?_;unfold patom;have hc:=z2m s a b;have hs':=z9E (a:=a) hs;have hst:=z8v _ hc;generalize pbyte s a b=q at hc hs' hst⊢;obtain⟨c,a',b'⟩:=q;simp only at hc hs' hst⊢;have k40:((c:Int)==40)=(c==40):=z1B c 40;have k8:((d:Int)==8)=(d==8):=z1B d 8;have k91:((c:Int)==91)=(c==91):=z1B c 91;have k46:((c:Int)==46)=(c==46):=z1B c 46;have k92:((c:Int)==92)=(c==92):=z1B c 92
 cases h40:c==40 with
 |true =>
  cases b' with
  |true =>
   simp -implicitDefEqProofs only[go_sem,k40,k91,k46,k92,h40,gA hp,sA hp,gL0,sL0,gL1,sL1,if_true,Bool.true_or,Bool.or_true];refine CO.intro (z2F hp _ _ 41 (.inl rfl) _) ?_;simp -implicitDefEqProofs only[go_sem,gA hp,sA hp,gL0,sL0,gL1,sL1,z5t,nextA];refine Fini.trim2 (ex:=[_,_]) ?_ rfl ?_ (z0u _ _) (hb2 _ _)
   · (simp -implicitDefEqProofs only[go_sem,resA,z03,rvA,oneOf,gL0];first|done|rfl|rw[rv_eq,hK]|(simp only[rv,rvK,rvL];rw[rv_eq,hK]))
   · simp
  |false =>
   cases hd8:d==8 with
   |true =>
    simp -implicitDefEqProofs only[go_sem,k40,k91,k46,k92,h40,gA hp,sA hp,gL0,sL0,gL1,sL1,if_true,k8,hd8,Bool.false_or,Bool.or_false,Bool.or_true,Bool.true_or];refine CO.intro (z2F hp _ _ 41 (.inl rfl) _) ?_;simp -implicitDefEqProofs only[go_sem,gA hp,sA hp,gL0,sL0,gL1,sL1,z5t,nextA];refine Fini.trim2 (ex:=[_,_]) ?_ rfl ?_ (z0u _ _) (hb2 _ _)
    · (simp -implicitDefEqProofs only[go_sem,resA,z03,rvA,oneOf,gL0];first|done|rfl|rw[rv_eq,hK]|(simp only[rv,rvK,rvL];rw[rv_eq,hK]))
    · simp
   |false =>
    have hd7:d<8:=by
     have:d≠8:=by simpa using hd8
     omega
    have e1:IntKind.i64.wrap ((d:Int)+1)=((d+1:Nat):Int):=by rw[wrapN (by omega) (by omega)];rfl
    simp -implicitDefEqProofs only[go_sem,k40,k91,k46,k92,h40,gA hp,sA hp,gL0,sL0,gL1,sL1,if_true,k8,hd8,Bool.false_or,Bool.or_false,Bool.or_true,Bool.true_or,e1];refine CO.intro ((hF hd7).ex hp _ _ hs' _) ?_;have hs2:(F a' false).2.2=true∨s.size≤40:=hfw.hs hs';generalize F a' false=w at hs2⊢;obtain⟨x,a1,b1⟩:=w;simp only at hs2⊢;have hbx:∀n,Bel n x.rv:=fun n=>z0u n x
    rw[rv_eq x]at hbx⊢;rcases rvK_cases x.ks with hK|⟨l,hK⟩
    all_goals rw[hK]at hbx⊢
    all_goals simp -implicitDefEqProofs only[go_sem,gA hp,sA hp,gL0,sL0,gL1,sL1]
    all_goals refine CO.intro (z2F hp _ _ 41 hs2 _) ?_
    all_goals cases hse:sees s a1 b1 41
    all_goals (
     first
     |(have hb1:=(z8z hse).2
       subst hb1)
     |skip
     simp -implicitDefEqProofs only[go_sem,gA hp,sA hp,gL0,sL0,gL1,sL1,hse,nextA,Bool.true_or,Bool.false_or];refine Fini.trim2 (ex:=[_,_]) ?_ rfl ?_ (hbx _) (hb2 _ _)
     · (simp -implicitDefEqProofs only[go_sem,resA,z03,rvA,oneOf,gL0];first|done|rfl|rw[rv_eq,hK]|(simp only[rv,rvK,rvL];rw[rv_eq,hK]))
     · simp)
 |false =>
  cases h91:c==91 with
  |true =>
   simp -implicitDefEqProofs only[go_sem,k40,k91,k46,k92,h40,h91,gA hp,sA hp,if_true,Bool.false_eq_true,if_false];refine CO.intro (z9D hp a' b' hs' _) ?_;have h4:=z7C s a' b';generalize z1R s a' b'=k at h4⊢;obtain⟨S,a1,b1⟩:=k;simp only at h4⊢;obtain⟨x0,x1,x2,x3,rfl⟩:=four h4;simp -implicitDefEqProofs only[go_sem,gA hp,sA hp,gL0,sL0,gL1,sL1,List.map_cons,List.map_nil];refine Fini.trim2 (ex:=[_,_]) ?_ rfl ?_ (z0u _ _) (hb2 _ _)
   · (simp -implicitDefEqProofs only[go_sem,resA,z03,rvA,oneOf,gL0];first|done|rfl|rw[rv_eq,hK]|(simp only[rv,rvK,rvL];rw[rv_eq,hK]))
   · simp
  |false =>
   cases h46:c==46 with
   |true =>
    simp -implicitDefEqProofs only[go_sem,k40,k91,k46,k92,h40,h91,h46,gA hp,sA hp,gL0,sL0,gL1,sL1,if_true,Bool.false_eq_true,if_false];refine CO.intro (turned_ans _ 0 0 0 0) ?_;simp -implicitDefEqProofs only[go_sem,gA hp,sA hp,gL0,sL0,gL1,sL1,List.map_cons,List.map_nil];refine Fini.trim2 (ex:=[_,_]) ?_ rfl ?_ (z0u _ _) (hb2 _ _)
    · (simp -implicitDefEqProofs only[go_sem,resA,z03,rvA,oneOf,gL0];first|done|rfl|rw[rv_eq,hK]|(simp only[rv,rvK,rvL];rw[rv_eq,hK]))
    · simp
   |false =>
    cases h92:c==92 with
    |true =>
     simp -implicitDefEqProofs only[go_sem,k40,k91,k46,k92,h40,h91,h46,h92,gA hp,sA hp,gL0,sL0,gL1,sL1,if_true,Bool.false_eq_true,if_false];refine CO.intro (zbe hp a' b' hs' _) ?_;have hk:(psign s a' b').1<256:=z2m s a' b';generalize psign s a' b'=k at hk⊢;obtain⟨x,a1,b1⟩:=k;simp only at hk⊢;simp -implicitDefEqProofs only[go_sem];refine CO.intro (z2E _ (σ.length+1) 1 _ x 0 (gL1 _ _ _ _ _ _) (add_get hk) hk) ?_;rw[sL1,z43 hk];simp -implicitDefEqProofs only[go_sem,gA hp,sA hp,gL0,sL0,gL1,sL1,List.map_cons,List.map_nil];refine Fini.trim2 (ex:=[_,_]) ?_ rfl ?_ (z0u _ _) (hb2 _ _)
     · (simp -implicitDefEqProofs only[go_sem,resA,z03,rvA,oneOf,gL0];first|done|rfl|rw[rv_eq,hK]|(simp only[rv,rvK,rvL];rw[rv_eq,hK]))
     · simp
    |false =>
     simp -implicitDefEqProofs only[go_sem,k40,k91,k46,k92,h40,h91,h46,h92,gA hp,sA hp,gL0,sL0,gL1,sL1,if_true,Bool.false_eq_true,if_false]
     cases b' with
     |true =>
      simp -implicitDefEqProofs only[go_sem,gA hp,sA hp,gL0,sL0,gL1,sL1];refine CO.intro (z2E _ (σ.length+1) 1 _ c 0 (gL1 _ _ _ _ _ _) (add_get hc) hc) ?_;rw[sL1,z43 hc];simp -implicitDefEqProofs only[go_sem,gA hp,sA hp,gL0,sL0,gL1,sL1];refine Fini.trim2 (ex:=[_,_]) ?_ rfl ?_ (z0u _ _) (hb2 _ _)
      · (simp -implicitDefEqProofs only[go_sem,resA,z03,rvA,oneOf,gL0];first|done|rfl|rw[rv_eq,hK]|(simp only[rv,rvK,rvL];rw[rv_eq,hK]))
      · simp
     |false =>
      simp -implicitDefEqProofs only[go_sem,gA hp,sA hp,gL0,sL0,gL1,sL1];refine CO.intro (z2D _ _ c) ?_;simp -implicitDefEqProofs only[go_sem,gA hp,sA hp,gL0,sL0,gL1,sL1];refine CO.intro (z2E _ (σ.length+1) 1 _ c 0 (gL1 _ _ _ _ _ _) (add_get hc) hc) ?_;rw[sL1,z43 hc];simp -implicitDefEqProofs only[go_sem,gA hp,sA hp,gL0,sL0,gL1,sL1];rw[hst];refine Fini.trim2 (ex:=[_,_]) ?_ rfl ?_ (z0u _ _) (hb2 _ _)
      · (simp -implicitDefEqProofs only[go_sem,resA,z03,rvA,oneOf,gL0];first|done|rfl|rw[rv_eq,hK]|(simp only[rv,rvK,rvL];rw[rv_eq,hK]))
      · simp
end
section
variable (s:ByteArray)
theorem z4u (F:PF) (d:Nat) (hF:FAns 189 [I d] s F) (hfw:Fwd F):FAns 183 [I d] s (z2c s F):=by
 intro σ p a b hp hs;refine Ans.of_run' t183 (fun hbel _=>?_)
 have hb2:=z3k hbel;simp -implicitDefEqProofs only[c183,r183,go_sem,List.append_assoc,List.length_append,List.length_set,gA hp,sA hp,gL0,sL0,gL1,sL1];refine CO.intro (hF.ex hp _ _ hs _) ?_;have hs2:(F a b).2.2=true∨s.size≤40:=hfw.hs hs;unfold z2c;generalize F a b=w at hs2⊢;obtain⟨x,a1,b1⟩:=w;simp only at hs2⊢
 have hn:∀(ex:St) (c:Nat),sees s a1 b1 c=false→Ans Tryz.prog 178 [.ptr p 0,B8 c] (σ.set p (pob s a1 b1)++ex) (Bo false) (σ.set p (pob s a1 b1)++ex):=fun ex c h=>by
  have:=z2F hp a1 b1 c hs2 ex
  rwa [nextA,h]at this
 have hy:∀(ex:St) (c:Nat),sees s a1 b1 c=true→Ans Tryz.prog 178 [.ptr p 0,B8 c] (σ.set p (pob s a1 b1)++ex) (Bo true) (σ.set p (pob s (a1+1) b1)++ex):=fun ex c h=>by
  have:=z2F hp a1 b1 c hs2 ex
  rwa [nextA,h]at this
 have hbx:∀n,Bel n x.rv:=fun n=>z0u n x
 rw[rv_eq x]at hbx⊢;rcases rvK_cases x.ks with hK|⟨l,hK⟩
 all_goals (
  rw[hK]at hbx⊢;simp -implicitDefEqProofs only[go_sem,gA hp,sA hp,gL0,sL0,gL1,sL1];cases h42:sees s a1 b1 42
  · refine CO.intro (hn _ 42 h42) ?_;simp -implicitDefEqProofs only[go_sem,gA hp,sA hp,gL0,sL0,gL1,sL1];cases h43:sees s a1 b1 43
    · refine CO.intro (hn _ 43 h43) ?_;simp -implicitDefEqProofs only[go_sem,gA hp,sA hp,gL0,sL0,gL1,sL1];cases h63:sees s a1 b1 63
      · refine CO.intro (hn _ 63 h63) ?_;simp -implicitDefEqProofs only[go_sem,gA hp,sA hp,gL0,sL0,gL1,sL1];refine Fini.trim2 (ex:=[_]) ?_ rfl ?_ (z0u _ _) (hb2 _ _)
        · (simp -implicitDefEqProofs only[go_sem,resA,z03,rvA,oneOf,gL0];first|done|rfl|rw[rv_eq,hK]|(simp only[rv,rvK,rvL];rw[rv_eq,hK]))
        · simp
      · refine CO.intro (hy _ 63 h63) ?_;simp -implicitDefEqProofs only[go_sem,gA hp,sA hp,gL0,sL0,gL1,sL1];refine Fini.trim2 (ex:=[_]) ?_ rfl ?_ (z0u _ _) (hb2 _ _)
        · (simp -implicitDefEqProofs only[go_sem,resA,z03,rvA,oneOf,gL0];first|done|rfl|rw[rv_eq,hK]|(simp only[rv,rvK,rvL];rw[rv_eq,hK]))
        · simp
    · refine CO.intro (hy _ 43 h43) ?_;simp -implicitDefEqProofs only[go_sem,gA hp,sA hp,gL0,sL0,gL1,sL1];refine Fini.trim2 (ex:=[_]) ?_ rfl ?_ (z0u _ _) (hb2 _ _)
      · (simp -implicitDefEqProofs only[go_sem,resA,z03,rvA,oneOf,gL0];first|done|rfl|rw[rv_eq,hK]|(simp only[rv,rvK,rvL];rw[rv_eq,hK]))
      · simp
  · refine CO.intro (hy _ 42 h42) ?_;simp -implicitDefEqProofs only[go_sem,gA hp,sA hp,gL0,sL0,gL1,sL1];refine Fini.trim2 (ex:=[_]) ?_ rfl ?_ (z0u _ _) (hb2 _ _)
    · (simp -implicitDefEqProofs only[go_sem,resA,z03,rvA,oneOf,gL0];first|done|rfl|rw[rv_eq,hK]|(simp only[rv,rvK,rvL];rw[rv_eq,hK]))
    · simp)
end
abbrev box0:Ob:=.box [I 0,U 0,U 0,U 0,U 0,.nils]
def exK (K:List Rex):St:=box0::(if K.isEmpty then[] else[.row 6 (K.map rv)])
def vK (l:Nat) (K:List Rex):AV:=if K.isEmpty then .nils else .osl (l+1) K.length
theorem z17 (x:Rex) (K:List Rex):exK (x::K)=[box0,.row 6 ((x::K).map rv)]:=rfl
theorem z1H (l:Nat) (x:Rex) (K:List Rex):vK l (x::K)=.osl (l+1) (K.length+1):=rfl
theorem z4V:exK []=[box0]:=rfl
theorem z6Y (l:Nat):vK l []=.nils:=rfl
theorem z6Z (K:List Rex) (x:Rex):exK (K++[x])=[box0,.row 6 (K.map rv++[x.rv])]:=by
 cases K with
 |nil=>rfl
 |cons y K=>simp[exK]
theorem z8C (l:Nat) (K:List Rex) (x:Rex):vK l (K++[x])=.osl (l+1) (K.length+1):=by
 cases K with
 |nil=>rfl
 |cons y K=>simp[vK]
theorem z2d (op:Int) (y z:Rex) (K:List Rex):(one op (y::z::K)).rv=.agg [I op,U 0,U 0,U 0,U 0,.sl 6 ((y::z::K).map rv)]:=by
 show Rex.rv (.mk op 0 0 0 0 (y::z::K))=_;rw[rv,z4T]
theorem z4W {n:Nat} {x:AV} (h:Bel n x) (b:Bool):Bel n (.tup [x,Bo b]):=by
 refine .tup _ fun i hi=>?_
 have:∀y∈[x,Bo b],Bel n y:=by
  intro y hy;simp only[List.mem_cons,List.not_mem_nil,or_false]at hy;rcases hy with rfl|rfl
  · exact h
  · exact .pl _
 exact this _ (List.getElem_mem hi)
section
variable (s:ByteArray)
theorem z8D (F:PF) (d:Nat) (hF:FAns 183 [I d] s F) (hfw:Fwd F) (he:Eats s F):FAns 177 [I d] s (pway s F):=by
 intro σ p a b hp hs;refine Ans.of_run' t177 (fun hbel _=>?_)
 have hb2:=z3k hbel;simp -implicitDefEqProofs only[c177,r177,go_sem,List.append_assoc,List.length_append,List.length_set];unfold pway;simp only;have hm:s.size-a<s.size+1:=by omega
 generalize hres:pwayL s F (s.size+1) [] a b=res
 refine L.intro (α:={ x:Nat×List Rex×Nat×Bool // pwayL s F x.1 x.2.1 x.2.2.1 x.2.2.2=res∧s.size-x.2.2.1<x.1∧(x.2.2.2=true∨s.size≤40)∧x.2.1.length≤x.2.2.1 })
  (fun x=>x.1.1)
  (fun x=>mkE 33 [(0,.ptr p 0),(1,I d),(4,.ptr σ.length 0),(5,vK σ.length x.1.2.1)])
  (fun x=>σ.set p (pob s x.1.2.2.1 x.1.2.2.2)++exK x.1.2.1)
  (fun x J hJ=>?_) ⟨(s.size+1,[],a,b),hres,hm,hs,Nat.zero_le _⟩ ?_ ?_
 · obtain⟨⟨n,K,a1,b1⟩,h1,h2,h3,h4⟩:=x;simp only at h1 h2 h3 h4 hJ⊢
   cases n with
   |zero=>omega
   |succ n =>
   rw[pwayL]at h1
   cases hgo:wGo s a1 b1 with
   |true =>
    rw[hgo,if_pos rfl]at h1;obtain⟨ha,hb⟩:=zc0 hgo;subst hb;have hov:over s a1 false=false:=by simp[wGo]at hgo;exact hgo.1
    have hs1:sees s a1 false 124=false:=by simp[wGo]at hgo;exact hgo.2.1
    have hs2:sees s a1 false 41=false:=by simp[wGo]at hgo;exact hgo.2.2
    have hsz:s.size≤40:=by
     rcases h3 with h|h
     · exact absurd h Bool.false_ne_true
     · exact h
    have hea:=he a1 false hov;have hJ':=hJ ⟨(n,K++[(F a1 false).1],(F a1 false).2.1,(F a1 false).2.2),h1,by simp only;omega,.inr hsz,by simp;omega⟩ (Nat.lt_succ_self n)
    simp only[z6Z,z8C]at hJ';clear hJ h1 hgo;simp -implicitDefEqProofs only[mkE,go_sem];refine CO.intro (z4U hp a1 false _) ?_;simp -implicitDefEqProofs only[go_sem,hov];refine CO.intro (z42 hp a1 false 124 _) ?_;simp -implicitDefEqProofs only[go_sem,hs1];refine CO.intro (z42 hp a1 false 41 _) ?_;simp -implicitDefEqProofs only[go_sem,hs2];refine CO.intro (hF.ex hp a1 false (.inr hsz) _) ?_;generalize F a1 false=w at hJ' hea⊢;obtain⟨x,a2,b2⟩:=w;simp only at hJ' hea⊢;rw[rv_eq x]at hJ'⊢;rcases K with _|⟨y,K⟩
    all_goals rcases rvK_cases x.ks with hK|⟨l,hK⟩
    all_goals rw[hK]at hJ'⊢
    all_goals first
    |(simp -implicitDefEqProofs only[go_sem,z4V,z6Y,gA hp,sA hp,gL0,sL0,gL1,sL1]at hJ'⊢
      simpa[mkE] using hJ')
    |(have g1:(K.length+1+1≤2^32)=True:=by simp at h4;simp;omega
      simp -implicitDefEqProofs only[go_sem,z17,z1H,gA hp,sA hp,gL0,sL0,gL1,sL1,List.length_map,g1]at hJ'⊢
      simpa[mkE] using hJ')
   |false =>
    rw[hgo,if_neg Bool.false_ne_true]at h1;subst h1;clear hJ h2
    have hex:over s a1 b1=true∨(over s a1 b1=false∧sees s a1 b1 124=true)∨(over s a1 b1=false∧sees s a1 b1 124=false∧sees s a1 b1 41=true):=by
     unfold wGo at hgo;cases h1:over s a1 b1<;>cases h2:sees s a1 b1 124<;>cases h3:sees s a1 b1 41<;>simp[h1,h2,h3]at hgo⊢
    rcases hex with ho|⟨ho,h5⟩|⟨ho,h5,h6⟩
    · simp -implicitDefEqProofs only[mkE,go_sem];refine CO.intro (z4U hp a1 b1 _) ?_;simp -implicitDefEqProofs only[go_sem,ho];rcases K with _|⟨y,_|⟨z,K⟩⟩
      · simp -implicitDefEqProofs only[go_sem,z4V,z6Y,gA hp,sA hp,gL0,sL0,gL1,sL1];refine Fini.trim2 (ex:=[_]) ?_ rfl ?_ (z0u _ _) (hb2 _ _)
        · ((try simp -implicitDefEqProofs only[go_sem,resA,z03,rvA,oneOf,gL0]);first|done|rfl|(rw[z2d];rfl)|rw[rv_eq,hK]|(simp only[rv,rvK,rvL];rw[rv_eq,hK]))
        · simp
      · have g3:(((1:Nat):Int)==1)=true:=rfl;have g4:((0:Int)<((1:Nat):Int))=True:=by simp
        have hbx:∀n,Bel n y.rv:=fun n=>z0u n y
        rw[z17,z1H,List.map_cons,List.map_nil,show(one 2 [y])=y from rfl]
        rw[rv_eq y]at hbx⊢;rcases rvK_cases y.ks with hK|⟨l,hK⟩
        all_goals rw[hK]at hbx⊢
        all_goals simp -implicitDefEqProofs only[go_sem,gA hp,sA hp,gL0,sL0,gL1,sL1,List.length_map,g3,g4,Int.toNat_zero]
        all_goals (
         refine Fini.trim2 (ex:=[_,_]) ?_ rfl ?_ (hbx _) (hb2 _ _)
         · ((try simp -implicitDefEqProofs only[go_sem,resA,z03,rvA,oneOf,gL0]);first|done|rfl|(rw[z2d];rfl)|rw[rv_eq,hK]|(simp only[rv,rvK,rvL];rw[rv_eq,hK]))
         · simp)
      · rw[z17,z1H];have g2:(((K.length+1+1:Nat):Int)==1)=false:=by simp;omega
        simp -implicitDefEqProofs only[go_sem,gA hp,sA hp,gL0,sL0,gL1,sL1,List.length_map,g2];refine Fini.trim2 (ex:=[_,_]) ?_ rfl ?_ (z0u _ _) (hb2 _ _)
        · ((try simp -implicitDefEqProofs only[go_sem,resA,z03,rvA,oneOf,gL0]);first|done|rfl|(rw[z2d];rfl)|rw[rv_eq,hK]|(simp only[rv,rvK,rvL];rw[rv_eq,hK]))
        · simp
    · simp -implicitDefEqProofs only[mkE,go_sem];refine CO.intro (z4U hp a1 b1 _) ?_;simp -implicitDefEqProofs only[go_sem,ho];refine CO.intro (z42 hp a1 b1 124 _) ?_;simp -implicitDefEqProofs only[go_sem,h5];rcases K with _|⟨y,_|⟨z,K⟩⟩
      · simp -implicitDefEqProofs only[go_sem,z4V,z6Y,gA hp,sA hp,gL0,sL0,gL1,sL1];refine Fini.trim2 (ex:=[_]) ?_ rfl ?_ (z0u _ _) (hb2 _ _)
        · ((try simp -implicitDefEqProofs only[go_sem,resA,z03,rvA,oneOf,gL0]);first|done|rfl|(rw[z2d];rfl)|rw[rv_eq,hK]|(simp only[rv,rvK,rvL];rw[rv_eq,hK]))
        · simp
      · have g3:(((1:Nat):Int)==1)=true:=rfl;have g4:((0:Int)<((1:Nat):Int))=True:=by simp
        have hbx:∀n,Bel n y.rv:=fun n=>z0u n y
        rw[z17,z1H,List.map_cons,List.map_nil,show(one 2 [y])=y from rfl]
        rw[rv_eq y]at hbx⊢;rcases rvK_cases y.ks with hK|⟨l,hK⟩
        all_goals rw[hK]at hbx⊢
        all_goals simp -implicitDefEqProofs only[go_sem,gA hp,sA hp,gL0,sL0,gL1,sL1,List.length_map,g3,g4,Int.toNat_zero]
        all_goals (
         refine Fini.trim2 (ex:=[_,_]) ?_ rfl ?_ (hbx _) (hb2 _ _)
         · ((try simp -implicitDefEqProofs only[go_sem,resA,z03,rvA,oneOf,gL0]);first|done|rfl|(rw[z2d];rfl)|rw[rv_eq,hK]|(simp only[rv,rvK,rvL];rw[rv_eq,hK]))
         · simp)
      · rw[z17,z1H];have g2:(((K.length+1+1:Nat):Int)==1)=false:=by simp;omega
        simp -implicitDefEqProofs only[go_sem,gA hp,sA hp,gL0,sL0,gL1,sL1,List.length_map,g2];refine Fini.trim2 (ex:=[_,_]) ?_ rfl ?_ (z0u _ _) (hb2 _ _)
        · ((try simp -implicitDefEqProofs only[go_sem,resA,z03,rvA,oneOf,gL0]);first|done|rfl|(rw[z2d];rfl)|rw[rv_eq,hK]|(simp only[rv,rvK,rvL];rw[rv_eq,hK]))
        · simp
    · simp -implicitDefEqProofs only[mkE,go_sem];refine CO.intro (z4U hp a1 b1 _) ?_;simp -implicitDefEqProofs only[go_sem,ho];refine CO.intro (z42 hp a1 b1 124 _) ?_;simp -implicitDefEqProofs only[go_sem,h5];refine CO.intro (z42 hp a1 b1 41 _) ?_;simp -implicitDefEqProofs only[go_sem,h6];rcases K with _|⟨y,_|⟨z,K⟩⟩
      · simp -implicitDefEqProofs only[go_sem,z4V,z6Y,gA hp,sA hp,gL0,sL0,gL1,sL1];refine Fini.trim2 (ex:=[_]) ?_ rfl ?_ (z0u _ _) (hb2 _ _)
        · ((try simp -implicitDefEqProofs only[go_sem,resA,z03,rvA,oneOf,gL0]);first|done|rfl|(rw[z2d];rfl)|rw[rv_eq,hK]|(simp only[rv,rvK,rvL];rw[rv_eq,hK]))
        · simp
      · have g3:(((1:Nat):Int)==1)=true:=rfl;have g4:((0:Int)<((1:Nat):Int))=True:=by simp
        have hbx:∀n,Bel n y.rv:=fun n=>z0u n y
        rw[z17,z1H,List.map_cons,List.map_nil,show(one 2 [y])=y from rfl]
        rw[rv_eq y]at hbx⊢;rcases rvK_cases y.ks with hK|⟨l,hK⟩
        all_goals rw[hK]at hbx⊢
        all_goals simp -implicitDefEqProofs only[go_sem,gA hp,sA hp,gL0,sL0,gL1,sL1,List.length_map,g3,g4,Int.toNat_zero]
        all_goals (
         refine Fini.trim2 (ex:=[_,_]) ?_ rfl ?_ (hbx _) (hb2 _ _)
         · ((try simp -implicitDefEqProofs only[go_sem,resA,z03,rvA,oneOf,gL0]);first|done|rfl|(rw[z2d];rfl)|rw[rv_eq,hK]|(simp only[rv,rvK,rvL];rw[rv_eq,hK]))
         · simp)
      · rw[z17,z1H];have g2:(((K.length+1+1:Nat):Int)==1)=false:=by simp;omega
        simp -implicitDefEqProofs only[go_sem,gA hp,sA hp,gL0,sL0,gL1,sL1,List.length_map,g2];refine Fini.trim2 (ex:=[_,_]) ?_ rfl ?_ (z0u _ _) (hb2 _ _)
        · ((try simp -implicitDefEqProofs only[go_sem,resA,z03,rvA,oneOf,gL0]);first|done|rfl|(rw[z2d];rfl)|rw[rv_eq,hK]|(simp only[rv,rvK,rvL];rw[rv_eq,hK]))
        · simp
 · simp[mkE,vK]
 · rfl
theorem z5x (F:PF) (d:Nat) (hF:FAns 177 [I d] s F) (hfw:Fwd F):FAns 173 [I d] s (pways s F):=by
 intro σ p a b hp hs;refine Ans.of_run' t173 (fun hbel _=>?_)
 have hb2:=z3k hbel;simp -implicitDefEqProofs only[c173,r173,go_sem,List.append_assoc,List.length_append,List.length_set];unfold pways;simp only;refine CO.intro (hF.ex hp a b hs _) ?_;have hs0:(F a b).2.2=true∨s.size≤40:=hfw.hs hs;generalize F a b=w0 at hs0⊢;obtain⟨x0,a0,b0⟩:=w0;simp only at hs0⊢;have hm:s.size-a0<s.size+1:=by omega
 generalize hres:z2X s F (s.size+1) [x0] a0 b0=res;rw[rv_eq x0];rcases rvK_cases x0.ks with hK0|⟨l0,hK0⟩
 all_goals rw[hK0]
 all_goals simp -implicitDefEqProofs only[go_sem,gA hp,sA hp,gL0,sL0,gL1,sL1,List.append_assoc,List.length_append,List.length_set]
 all_goals (
  refine L.intro (α:={ x:Nat×List Rex×Nat×Bool // z2X s F x.1 x.2.1 x.2.2.1 x.2.2.2=res∧s.size-x.2.2.1<x.1∧(x.2.2.2=true∨s.size≤40)∧x.2.1.length≤x.2.2.1+1∧x.2.1≠[] })
   (fun x=>x.1.1)
   (fun x=>mkE 26 [(0,.ptr p 0),(1,I d),(4,.ptr σ.length 0),(5,vK σ.length x.1.2.1)])
   (fun x=>σ.set p (pob s x.1.2.2.1 x.1.2.2.2)++exK x.1.2.1)
   (fun x J hJ=>?_) ⟨(s.size+1,[x0],a0,b0),hres,hm,hs0,by simp,by simp⟩ ?_ ?_)
 all_goals try (simp[mkE,vK];done)
 all_goals try (simp only[z17,List.map_cons,List.map_nil,rv_eq x0,hK0];done)
 all_goals (
  obtain⟨⟨n,K,a1,b1⟩,h1,h2,h3,h4,h5⟩:=x;simp only at h1 h2 h3 h4 h5 hJ⊢;rcases n with _|n
  · omega
  rw[z2X]at h1;cases hgo:sees s a1 b1 124
  · rw[hgo,if_neg Bool.false_ne_true]at h1;subst h1;clear hJ h2;have hn:=z2F (s:=s) hp a1 b1 124 h3;simp only[nextA,hgo,Bool.false_eq_true,if_false]at hn;simp -implicitDefEqProofs only[mkE,go_sem];refine CO.intro (hn _) ?_;simp -implicitDefEqProofs only[go_sem];rcases K with _|⟨y,_|⟨z,K⟩⟩
    · exact absurd rfl h5
    · have g3:(((1:Nat):Int)==1)=true:=rfl;have g4:((0:Int)<((1:Nat):Int))=True:=by simp
      have hbx:∀n,Bel n y.rv:=fun n=>z0u n y
      rw[z17,z1H,List.map_cons,List.map_nil,show(one 3 [y])=y from rfl]
      rw[rv_eq y]at hbx⊢;rcases rvK_cases y.ks with hK|⟨l,hK⟩
      all_goals rw[hK]at hbx⊢
      all_goals simp -implicitDefEqProofs only[go_sem,gA hp,sA hp,gL0,sL0,gL1,sL1,List.length_map,g3,g4,Int.toNat_zero]
      all_goals (
       refine Fini.trim2 (ex:=[_,_]) ?_ rfl ?_ (hbx _) (hb2 _ _)
       · ((try simp -implicitDefEqProofs only[go_sem,resA,z03,rvA,oneOf,gL0]);first|done|rfl|(rw[z2d];rfl)|rw[rv_eq,hK]|(simp only[rv,rvK,rvL];rw[rv_eq,hK]))
       · simp)
    · rw[z17,z1H];have g2:(((K.length+1+1:Nat):Int)==1)=false:=by simp;omega
      simp -implicitDefEqProofs only[go_sem,gA hp,sA hp,gL0,sL0,gL1,sL1,List.length_map,g2];refine Fini.trim2 (ex:=[_,_]) ?_ rfl ?_ (z0u _ _) (hb2 _ _)
      · ((try simp -implicitDefEqProofs only[go_sem,resA,z03,rvA,oneOf,gL0]);first|done|rfl|(rw[z2d];rfl)|rw[rv_eq,hK]|(simp only[rv,rvK,rvL];rw[rv_eq,hK]))
      · simp
  · rw[hgo,if_pos rfl]at h1;obtain⟨ha,hb⟩:=z8z hgo;subst hb
    have hsz:s.size≤40:=by
     rcases h3 with h|h
     · exact absurd h Bool.false_ne_true
     · exact h
    have hea:=(hfw (a1+1) false).1;have hJ':=hJ ⟨(n,K++[(F (a1+1) false).1],(F (a1+1) false).2.1,(F (a1+1) false).2.2),h1,by simp only;omega,.inr hsz,by simp;omega,by simp⟩ (Nat.lt_succ_self n)
    simp only[z6Z,z8C]at hJ';clear hJ h1;have hn:=z2F (s:=s) hp a1 false 124 h3;simp only[nextA,hgo,if_true]at hn;simp -implicitDefEqProofs only[mkE,go_sem];refine CO.intro (hn _) ?_;simp -implicitDefEqProofs only[go_sem];refine CO.intro (hF.ex hp (a1+1) false (.inr hsz) _) ?_;generalize F (a1+1) false=w at hJ' hea⊢;obtain⟨x,a2,b2⟩:=w;simp only at hJ' hea⊢;rw[rv_eq x]at hJ'⊢;rcases K with _|⟨y,K⟩
    · exact absurd rfl h5
    have g1:(K.length+1+1≤2^32)=True:=by simp at h4;simp;omega
    rcases rvK_cases x.ks with hK|⟨l,hK⟩
    all_goals rw[hK]at hJ'⊢
    all_goals (
     simp -implicitDefEqProofs only[go_sem,z17,z1H,gA hp,sA hp,gL0,sL0,gL1,sL1,List.length_map,g1]at hJ'⊢
     simpa[mkE] using hJ'))
theorem zas:∀k,k≤8→FAns 173 [I ((8-k:Nat):Int)] s (PW s k)
 |0,_=>z5x s _ 8 (z8D s _ 8 (z4u s _ 8 (z6X s _ 8 (Nat.le_refl _) (fun h=>absurd h (Nat.lt_irrefl _)) (fun a b=>⟨Nat.le_refl _,id⟩)) (z1Z s (fun a b=>⟨Nat.le_refl _,id⟩) 8))
  (z1S s (z1Z s (fun a b=>⟨Nat.le_refl _,id⟩) 8)) (z41 s (z5v s (fun a b=>⟨Nat.le_refl _,id⟩) 8)))
  (z6k s (z1S s (z1Z s (fun a b=>⟨Nat.le_refl _,id⟩) 8)))
 |k+1,h=>by
  have ih:=zas k (by omega)
  have hf:=z8B s k;have e:8-(k+1)=7-k:=by omega
  have e2:8-k=7-k+1:=by omega
  rw[e2]at ih;rw[e]
  exact z5x s _ (7-k) (z8D s _ (7-k) (z4u s _ (7-k) (z6X s _ (7-k) (by omega) (fun _=>ih) hf) (z1Z s hf _))
   (z1S s (z1Z s hf _)) (z41 s (z5v s hf _)))
   (z6k s (z1S s (z1Z s hf _)))
def z2Y:Rex×Bool :=
 let w:=PW s 8 0 (decide (40<s.size))
 if w.2.2||decide (w.2.1<s.size) then(.mk 0 0 0 0 0 [],false) else(w.1,true)
theorem z8E (σ:St):Ans Tryz.prog 166 [Sx s] σ (.tup [(z2Y s).1.rv,Bo (z2Y s).2]) σ:=by
 have hw:∀b:Bool,(b=true∨s.size≤40)→Ans Tryz.prog 173 [.ptr (σ.length+1) 0,I 0] (σ++[box0,pob s 0 b]) (PW s 8 0 b).1.rv (σ++[box0,pob s (PW s 8 0 b).2.1 (PW s 8 0 b).2.2]):=by
  intro b hs;have:=zas s 8 (Nat.le_refl _) (σ++[box0,pob s 0 b]) (σ.length+1) 0 b (by simp) hs
  have e:∀o,(σ++[box0,pob s 0 b]).set (σ.length+1) o=σ++[box0,o]:=fun o=>by rw[List.set_append_right _ _ (by omega)];simp
  rwa [e,e]at this
 have hs:(decide (40<s.size))=true∨s.size≤40:=by
  rcases Nat.lt_or_ge 40 s.size with h|h
  · exact .inl (by simpa using h)
  · exact .inr h
 have e40:decide ((40:Int)<(s.size:Int))=decide (40<s.size):=by rw[Bool.eq_iff_iff];simp;omega
 have k0:∀(x y:Ob) (ex:St),(σ++x::y::ex)[σ.length]?=some x:=fun x y ex=>by rw[List.getElem?_append_right (by simp)];simp
 have k1:∀(x y:Ob) (ex:St),(σ++x::y::ex)[σ.length+1]?=some y:=fun x y ex=>by rw[List.getElem?_append_right (by simp)];simp
 have k2:∀(x y z:Ob),(σ++[x,y,z])[σ.length+2]?=some z:=fun x y z=>by rw[List.getElem?_append_right (by simp)];simp
 have s0:∀(x z:Ob) (ex:St),(σ++x::ex).set σ.length z=σ++z::ex:=fun x z ex=>by rw[List.set_append_right _ _ (by simp)];simp
 refine Ans.of_run' t166 (fun hbel _=>?_)
 simp -implicitDefEqProofs only[c166,r166,go_sem,List.append_assoc,List.length_append,e40];refine CO.intro (hw _ hs) ?_;unfold z2Y;generalize PW s 8 0 (decide (40<s.size))=w;obtain⟨x,a,b⟩:=w;simp only;have eL:decide ((a:Int)<(s.size:Int))=decide (a<s.size):=by rw[Bool.eq_iff_iff];simp
 have hbx:∀n,Bel n x.rv:=fun n=>z0u n x
 rw[rv_eq x];have hrx:=rv_eq x;rcases rvK_cases x.ks with hK|⟨l,hK⟩
 all_goals (
  rw[hK]at hrx⊢;cases b
  · cases hlt:decide (a<s.size)
    · simp -implicitDefEqProofs only[go_sem,k0,k1,k2,s0,List.append_assoc,List.length_append,eL,hlt,Bool.or_self,hrx];rw[hrx]at hbx;refine Fini.trim2 (σ':=σ) (ex:=[_,_]) ?_ rfl (Nat.le_refl _) ?_ hbel
      · simp -implicitDefEqProofs only[go_sem,resA,z03,rvA,oneOf,k0]
      · exact z4W (hbx _) _
    · simp -implicitDefEqProofs only[go_sem,k0,k1,k2,s0,List.append_assoc,List.length_append,eL,hlt,Bool.or_true];refine Fini.trim2 (σ':=σ) (ex:=[_,_]) ?_ rfl (Nat.le_refl _) ?_ hbel
      · simp -implicitDefEqProofs only[go_sem,resA,z03,rvA,oneOf,k0];rfl
      · exact z4W (z0u _ (.mk 0 0 0 0 0 [])) _
  · simp -implicitDefEqProofs only[go_sem,k0,k1,k2,s0,List.append_assoc,List.length_append,Bool.true_or];refine Fini.trim2 (σ':=σ) (ex:=[_,_]) ?_ rfl (Nat.le_refl _) ?_ hbel
    · simp -implicitDefEqProofs only[go_sem,resA,z03,rvA,oneOf,k0];rfl
    · exact z4W (z0u _ (.mk 0 0 0 0 0 [])) _)
end
theorem zc1 {M:Nat→Prop} {R:Ref→Value→Prop} {w:World}:∀(n:Nat) (x:Rex),SizeOf.sizeOf x≤n→∀v,Rep M R w (rvK x.ks) v→Rep M R w (.sl 6 (x.ks.map av)) v:=by
 intro n
 induction n with
 |zero=>intro x h;cases x;simp at h
 |succ n ih =>
  intro x hx v h;have hlt:∀y∈x.ks,SizeOf.sizeOf y<SizeOf.sizeOf x:=fun y hy=>z8p hy
  generalize x.ks=L at h hlt;rcases L with _|⟨y,L⟩
  · cases h;exact .sl0 6 _ _
  · rw[z4T]at h;generalize hM:y::L=M' at h hlt
    have hget:∀i (hi:i<(M'.map rv).length),(M'.map rv)[i].cells=[I (M'[i]'(by simpa using hi)).op,U (M'[i]'(by simpa using hi)).a,U (M'[i]'(by simpa using hi)).b,U (M'[i]'(by simpa using hi)).c,U (M'[i]'(by simpa using hi)).d,rvK (M'[i]'(by simpa using hi)).ks]:=fun i hi=>by
     rw[List.getElem_map,z9F]
    have hget2:∀i (hi:i<(M'.map av).length),(M'.map av)[i].cells=[I (M'[i]'(by simpa using hi)).op,U (M'[i]'(by simpa using hi)).a,U (M'[i]'(by simpa using hi)).b,U (M'[i]'(by simpa using hi)).c,U (M'[i]'(by simpa using hi)).d,.sl 6 ((M'[i]'(by simpa using hi)).ks.map av)]:=fun i hi=>by
     rw[List.getElem_map,av_eq];rfl
    generalize hN:M'.map rv=N at h
    cases h with
    |sl0 => 
     have:M'=[]:=by simpa using hN
     rw[this]at hM;cases hM
    |sl _ _ b o cap f hcap hc hr =>
     subst hN;have e:(M'.map rv).length=(M'.map av).length:=by simp
     rw[e];refine Rep.sl 6 (M'.map av) b o cap f (by rw[←e];exact hcap) ?_ ?_
     · intro i j hi hj;have hi':i<(M'.map rv).length:=by rw[e];exact hi
       refine hc i j hi' ?_;rw[hget2 i hi]at hj;rw[hget i hi'];exact hj
     · intro i j hi hj;have hi':i<(M'.map rv).length:=by rw[e];exact hi
       have hj6:j<6:=by rw[hget2 i hi]at hj;exact hj
       have hj':j<((M'.map rv)[i].cells).length:=by rw[hget i hi'];exact hj6
       have h2:=hr i j hi' hj';simp only[hget i hi']at h2;simp only[hget2 i hi];have hmem:M'[i]'(by simpa using hi)∈M':=List.getElem_mem _
       have ih2:=ih (M'[i]'(by simpa using hi)) (by have:=hlt _ hmem;omega)
       have h6:j=0∨j=1∨j=2∨j=3∨j=4∨j=5:=by omega
       rcases h6 with rfl|rfl|rfl|rfl|rfl|rfl
       · exact h2
       · exact h2
       · exact h2
       · exact h2
       · exact h2
       · exact ih2 _ h2
theorem zc2 {M:Nat→Prop} {R:Ref→Value→Prop} {w:World} (x:Rex) (v:Value) (h:Rep M R w x.rv v):Rep M R w x.av v:=by
 have hk:=zc1 (M:=M) (R:=R) (w:=w) (SizeOf.sizeOf x) x (Nat.le_refl _);rw[rv_eq]at h;rw[av_eq]
 cases h with
 |agg _ vs hl hr =>
  refine .agg _ vs hl fun j hj hj'=>?_
  have h2:=hr j hj hj';have hj6:j<6:=hj;have h6:j=0∨j=1∨j=2∨j=3∨j=4∨j=5:=by omega
  rcases h6 with rfl|rfl|rfl|rfl|rfl|rfl
  · exact h2
  · exact h2
  · exact h2
  · exact h2
  · exact h2
  · exact hk _ h2
theorem Ans.sub {P:Program} {f:FuncId} {x:Rex} {σ σ':St} {r:AV} (h:Ans P f [x.av] σ r σ'):Ans P f [x.rv] σ r σ':=by
 intro M ν w vs hg hr;refine h M ν w vs hg ⟨hr.1,fun j hj hj'=>?_⟩
 have h2:=hr.2 j hj hj';have:j=0:=by simp at hj;exact hj
 subst this;exact zc2 x _ h2
section
variable (s:ByteArray)
end
end Go.Proofs.YteakobbdgehlgaaGreatDoor
namespace Go.Proofs.YteakobbdgehlgaaGreatDoor
open Go Go.Ab
set_option maxRecDepth 100000
def z2e (c:Nat):Bool:=decide (97≤c)&&decide (c≤122)||decide (65≤c)&&decide (c≤90)||c==95
def z70 (c:Nat):Bool:=decide (48≤c)&&decide (c≤57)
def nameB (s:ByteArray):Bool:=decide (1≤s.size)&&decide (s.size≤12)&&z2e (byteAt s 0)&&(List.range s.size).all fun i=>z2e (byteAt s i)||z70 (byteAt s i)
theorem z5y (a b:Nat):decide ((a:Int)≤(b:Int))=decide (a≤b):=by
 rw[Bool.eq_iff_iff];simp only[decide_eq_true_eq];omega
theorem z4v (σ:St) (c:Nat):Ans Tryz.prog 170 [.pl (.int .u8 c)] σ (Bo (z2e c)) σ:=by
 have e1:decide ((97:Int)≤c)=decide (97≤c):=z5y 97 c;have e2:decide ((c:Int)≤122)=decide (c≤122):=z5y c 122;have e3:decide ((65:Int)≤c)=decide (65≤c):=z5y 65 c;have e4:decide ((c:Int)≤90)=decide (c≤90):=z5y c 90;have e5:((c:Int)==95)=(c==95):=z1B c 95
 have hg:(if(if decide (97≤c) then decide (c≤122) else false) then true else if(if decide (65≤c) then decide (c≤90) else false) then true else(c==95))=z2e c:=by
  unfold z2e;cases decide (97≤c)<;>cases decide (c≤122)<;>cases decide (65≤c)<;>cases decide (c≤90)<;>cases(c==95)<;>rfl
 rw[←hg];refine Ans.of_run t170 ?_;cases h1:decide (97≤c)<;>cases h2:decide (c≤122)<;>cases h3:decide (65≤c)<;>cases h4:decide (c≤90)<;>rw[h1]at e1<;>rw[h2]at e2<;>rw[h3]at e3<;>rw[h4]at e4
 all_goals (simp -implicitDefEqProofs only[c170,r170,go_sem,e1,e2,e3,e4,e5];exact Fini.ret rfl)
theorem decN (a b:Nat):decide ((a:Int)<(b:Int))=decide (a<b):=by
 rw[Bool.eq_iff_iff];simp only[decide_eq_true_eq];omega
theorem z44 (σ:St) (s:ByteArray):Ans Tryz.prog 157 [Sx s] σ (Bo (nameB s)) σ:=by
 refine Ans.of_run t157 ?_;have d1:decide ((s.size:Int)<1)=decide (s.size<1):=decN s.size 1;have d2:decide ((12:Int)<s.size)=decide (12<s.size):=decN 12 s.size;by_cases h1:s.size<1
 · have e1:decide (s.size<1)=true:=by simpa using h1
   rw[e1]at d1;simp -implicitDefEqProofs only[c157,r157,go_sem,d1];refine Fini.ret' rfl (z1k ?_);rw[nameB,show decide (1≤s.size)=false from decide_eq_false (by omega)];rfl
 have e1:decide (s.size<1)=false:=by simpa using h1
 rw[e1]at d1;by_cases h2:12<s.size
 · have e2:decide (12<s.size)=true:=by simpa using h2
   rw[e2]at d2;simp -implicitDefEqProofs only[c157,r157,go_sem,d1,d2];refine Fini.ret' rfl (z1k ?_);rw[nameB,show decide (s.size≤12)=false from decide_eq_false (by omega),Bool.and_false];rfl
 have e2:decide (12<s.size)=false:=by simpa using h2
 rw[e2]at d2;have z1:((0:Int)<s.size)=True:=by simp;omega
 have n1:decide (1≤s.size)=true:=by simp;omega
 have n2:decide (s.size≤12)=true:=by simp;omega
 simp -implicitDefEqProofs only[c157,r157,go_sem,d1,d2,z1,z0R,Int.toNat_zero];refine CO.intro (z4v _ _) ?_
 cases hl:z2e (byteAt s 0) with
 |false =>
  simp -implicitDefEqProofs only[go_sem,Int.toNat_zero,hl];refine Fini.ret' rfl (z1k ?_);rw[nameB,hl,Bool.and_false];rfl
 |true =>
 simp -implicitDefEqProofs only[go_sem,Int.toNat_zero,hl];refine Go.Ab.L.scan s.size (fun i=>z2e (byteAt s i)||z70 (byteAt s i)) (fun i=>mkE 41 [(0,Sx s),(19,I s.size),(20,I i)]) (fun _=>σ) ?_ ?_ ?_ rfl
 · intro i hi hp J hJ;have hlt:((i:Int)<s.size)=True:=by simp;omega
   have hin:=z3x (n:=i) (by omega)
   have f1:decide ((byteAt s i:Int)<48)=decide (byteAt s i<48):=decN _ 48;have f2:decide ((57:Int)<byteAt s i)=decide (57<byteAt s i):=decN 57 _;simp -implicitDefEqProofs only[mkE,go_sem,hlt,z0R];refine CO.intro (z4v _ _) ?_
   have hd:z70 (byteAt s i)= !(decide (byteAt s i<48)||decide (57<byteAt s i)):=by
    unfold z70;rw[Bool.eq_iff_iff];simp
   rw[hd]at hJ
   cases h3:z2e (byteAt s i) with
   |true =>
    rw[h3]at hJ;simp -implicitDefEqProofs only[go_sem,hin];exact hJ rfl
   |false =>
    rw[h3]at hJ;simp -implicitDefEqProofs only[go_sem,hlt,z0R];cases h4:decide (byteAt s i<48)<;>rw[h4]at f1 hJ
    · cases h5:decide (57<byteAt s i)<;>rw[h5]at f2 hJ
      · simp -implicitDefEqProofs only[go_sem,f1,f2,hlt,z0R,hin];exact hJ rfl
      · simp -implicitDefEqProofs only[go_sem,f1,f2,hlt,z0R];refine Fini.ret' rfl (z1k ?_);rw[nameB,List.all_eq_false.2 ⟨i,List.mem_range.2 hi,by simp[h3,hd,h4,h5]⟩,Bool.and_false]
    · simp -implicitDefEqProofs only[go_sem,f1,hlt,z0R];refine Fini.ret' rfl (z1k ?_);rw[nameB,List.all_eq_false.2 ⟨i,List.mem_range.2 hi,by simp[h3,hd,h4]⟩,Bool.and_false]
 · intro hp J;have hlt:((s.size:Int)<s.size)=False:=by simp
   simp -implicitDefEqProofs only[mkE,go_sem,hlt];refine Fini.ret' rfl (z1k ?_);rw[nameB,n1,n2,hl,List.all_eq_true.2 fun i hi=>hp i (List.mem_range.1 hi)];rfl
 · rfl
def likeB (k:Int):Bool:=k==3||k==4
def isB (k:Int) (nm v:ByteArray):Bool:=nameB nm&&(if likeB k then(z2Y v).2 else(k==1||k==2)&&decide (v.size≤24))
theorem z9G (σ:St) (k:Int) (nm v:ByteArray):Ans Tryz.prog 165 [mat k nm v] σ (Bo (likeB k)) σ:=by
 refine Ans.of_run t165 ?_;simp -implicitDefEqProofs only[c165,r165,go_sem];unfold likeB;cases h:k==3
 · simp -implicitDefEqProofs only[go_sem];exact Fini.ret rfl
 · simp -implicitDefEqProofs only[go_sem];exact Fini.ret rfl
theorem zc3 (σ:St) (k:Int) (nm v:ByteArray):Ans Tryz.prog 155 [mat k nm v] σ (Bo (isB k nm v)) σ:=by
 refine Ans.of_run t155 ?_;unfold isB;simp -implicitDefEqProofs only[c155,r155,go_sem];refine CO.intro (z44 σ nm) ?_
 cases hn:nameB nm with
 |false =>
  simp -implicitDefEqProofs only[go_sem];exact Fini.ret rfl
 |true =>
 simp -implicitDefEqProofs only[go_sem];refine CO.intro (z9G σ k nm v) ?_
 cases hk:likeB k with
 |true =>
  simp -implicitDefEqProofs only[go_sem];refine CO.intro (z8E v σ) ?_;have hrv:=Rex.rv_eq (z2Y v).1;generalize (z2Y v).1=x at hrv⊢;generalize (z2Y v).2=b;rw[hrv];rcases Rex.rvK_cases x.ks with e|⟨l,e⟩<;>rw[e]
  all_goals (simp -implicitDefEqProofs only[go_sem];exact Fini.ret rfl)
 |false =>
  have d:decide ((v.size:Int)≤24)=decide (v.size≤24):=z5y v.size 24;simp -implicitDefEqProofs only[go_sem]
  cases h1:k==1 with
  |true =>
   simp -implicitDefEqProofs only[go_sem,d];exact Fini.ret rfl
  |false =>
   simp -implicitDefEqProofs only[go_sem]
   cases h2:k==2 with
   |true =>
    simp -implicitDefEqProofs only[go_sem,d];exact Fini.ret rfl
   |false =>
    simp -implicitDefEqProofs only[go_sem];exact Fini.ret rfl
abbrev Mtr:=Int×ByteArray×ByteArray
def mv3 (x:Mtr):AV:=mat x.1 x.2.1 x.2.2
def mvs3 (L:List Mtr):List AV:=L.map mv3
def cmpL:List UInt8→List UInt8→Int
 |[],[]=>0
 |[],_::_=>-1
 |_::_,[]=>1
 |a::x,b::y=>if a != b then(if a<b then -1 else 1) else cmpL x y
def cmpI2 (x y:List UInt8):Int:=match(List.range (min x.length y.length)).find? fun i=>x.getD i 0 != y.getD i 0 with
 |some i=>if x.getD i 0<y.getD i 0 then -1 else 1
 |none=>if x.length<y.length then -1 else if x.length>y.length then 1 else 0
theorem z71:∀x y:List UInt8,cmpI2 x y=cmpL x y
 |[],[]=>rfl
 |[],b::y=>by simp[cmpI2,cmpL]
 |a::x,[]=>by simp[cmpI2,cmpL]
 |a::x,b::y=>by
  rw[cmpL,←z71 x y];unfold cmpI2;rw[List.length_cons,List.length_cons,Nat.succ_min_succ,List.range_succ_eq_map,List.find?_cons];simp only[List.getD_cons_zero]
  cases h:(a != b) with
  |true=>simp
  |false =>
   simp only[Bool.false_eq_true,if_false];rw[List.find?_map];simp only[Function.comp_def,List.getD_cons_succ]
   cases(List.range (min x.length y.length)).find? fun i=>x.getD i 0 != y.getD i 0 with
   |none=>simp
   |some i=>simp
theorem z5z:∀x y:List UInt8,cmpL x y=if x==y then 0 else if Op.bytesLess x y then -1 else 1
 |[],[]=>rfl
 |[],b::y=>by simp[cmpL,Op.bytesLess]
 |a::x,[]=>by simp[cmpL,Op.bytesLess]
 |a::x,b::y=>by
  rw[cmpL,z5z x y,Op.bytesLess];by_cases h:a=b
  · subst h;have:¬a<a:=by simp
    simp[this]
  · by_cases hl:a<b
    · simp[h,hl]
    · simp[h,hl]
theorem z9H (a b:ByteArray):Extern.BytealgCompare.cmp a b=cmpL a.data.toList b.data.toList:=by
 rw[←z71];unfold Extern.BytealgCompare.cmp cmpI2
 have hg:∀(a:ByteArray) (i:Nat),a[i]! =a.data.toList.getD i 0:=fun a i=>by
  rw[List.getD_eq_getElem?_getD,Array.getElem?_toList,getElem!_def];by_cases h:i<a.size
  · have h1:a[i]?=some a[i]:=by rw[getElem?_pos]
    have h2:a.data[i]?=some a[i]:=Array.getElem?_eq_getElem h;rw[h1,h2];rfl
  · have h1:a[i]?=none:=by rw[getElem?_neg];exact h
    have h2:a.data[i]?=none:=Array.getElem?_eq_none (by simpa using h)
    rw[h1,h2];rfl
 simp only[hg];rfl
def cmpS (a b:ByteArray):Int:=Extern.BytealgCompare.cmp a b
def cmpI (a b:Int):Int:=if a<b then -1 else if b<a then 1 else 0
def or3 (a b c:Int):Int:=if a != 0 then a else if b != 0 then b else c
def cmp3 (x y:Mtr):Int:=or3 (cmpS x.2.1 y.2.1) (cmpI x.1 y.1) (cmpS x.2.2 y.2.2)
section
variable (σ:St)
theorem z4w (a b:ByteArray):Ans Tryz.prog 168 [Sx a,Sx b] σ (I (cmpS a b)) σ:=by
 have h139:Ans Tryz.prog 179 [Sx a,Sx b] σ (I (cmpS a b)) σ:=zbX _ _ _ _ rfl
 have h123:Ans Tryz.prog 174 [Sx a,Sx b] σ (I (cmpS a b)) σ:=by
  refine Ans.of_run t174 ?_;simp -implicitDefEqProofs only[c174,r174,go_sem];refine CO.intro h139 ?_;simp -implicitDefEqProofs only[go_sem];exact Fini.ret rfl
 refine Ans.of_run t168 ?_;simp -implicitDefEqProofs only[c168,r168,go_sem];refine CO.intro h123 ?_;simp -implicitDefEqProofs only[go_sem];exact Fini.ret rfl
theorem z8F (a:Int):Ans Tryz.prog 175 [I a] σ (Bo false) σ:=by
 have h:(a != a)=false:=by simp
 refine Ans.of_run t175 ?_;simp -implicitDefEqProofs only[c175,r175,go_sem,h];exact Fini.ret rfl
theorem z7D (a b:Int):Ans Tryz.prog 169 [I a,I b] σ (I (cmpI a b)) σ:=by
 unfold cmpI;refine Ans.of_run t169 ?_;simp -implicitDefEqProofs only[c169,r169,go_sem];refine CO.intro (z8F σ a) ?_;simp -implicitDefEqProofs only[go_sem];refine CO.intro (z8F σ b) ?_;simp -implicitDefEqProofs only[go_sem];by_cases h1:a<b
 · have h1':decide (a<b)=true:=by simpa using h1
   simp -implicitDefEqProofs only[go_sem,h1'];rw[if_pos h1];exact Fini.ret rfl
 · have h1':decide (a<b)=false:=by simpa using h1
   simp -implicitDefEqProofs only[go_sem,h1'];rw[if_neg h1];by_cases h2:b<a
   · have h2':decide (b<a)=true:=by simpa using h2
     simp -implicitDefEqProofs only[go_sem,h2'];rw[if_pos h2];exact Fini.ret rfl
   · have h2':decide (b<a)=false:=by simpa using h2
     simp -implicitDefEqProofs only[go_sem,h2'];rw[if_neg h2];exact Fini.ret rfl
def orF (a b c:Int):Nat→Int
 |0=>or3 a b c
 |1=>if b != 0 then b else c
 |2=>c
 |_=>0
theorem zc4 (a b c:Int):Ans Tryz.prog 167 [.sl 1 [I a,I b,I c]] σ (I (or3 a b c)) σ:=by
 refine Ans.of_run t167 ?_;simp -implicitDefEqProofs only[c167,r167,go_sem];generalize hres:or3 a b c=res
 refine Go.Ab.L.intro (α:={ i:Nat // i≤3∧orF a b c i=res }) (fun x=>3-x.1)
  (fun x=>mkE 18 [(3,I 0),(6,.sl 1 [I a,I b,I c]),(7,I ((3:Nat):Int)),(8,I x.1)]) (fun _=>σ) (fun x J hJ=>?_) ⟨0,Nat.zero_le _,hres⟩ rfl rfl
 obtain⟨i,hi,hg⟩:=x;simp only at hJ⊢;have i4:i=0∨i=1∨i=2∨i=3:=by omega
 have w0:IntKind.i64.wrap (((0:Nat):Int)+1)=((1:Nat):Int):=by decide
 have w1:IntKind.i64.wrap (((1:Nat):Int)+1)=((2:Nat):Int):=by decide
 have w2:IntKind.i64.wrap (((2:Nat):Int)+1)=((3:Nat):Int):=by decide
 rcases i4 with rfl|rfl|rfl|rfl
 · have d1:decide (((0:Nat):Int)<((3:Nat):Int))=true:=by decide
   have d2:(((0:Nat):Int)<((3:Nat):Int))=True:=by simp
   simp only[orF,or3]at hg;simp -implicitDefEqProofs only[mkE,go_sem,d1,d2];cases h:a != 0
   · rw[h,if_neg Bool.false_ne_true]at hg;have hJ':=hJ ⟨1,by omega,hg⟩ (by simp only;omega)
     simp only at hJ';simp -implicitDefEqProofs only[go_sem,w0];exact hJ'
   · rw[h,if_pos rfl]at hg;simp -implicitDefEqProofs only[go_sem];rw[←hg];exact Fini.ret rfl
 · have d1:decide (((1:Nat):Int)<((3:Nat):Int))=true:=by decide
   have d2:(((1:Nat):Int)<((3:Nat):Int))=True:=by simp
   simp only[orF]at hg;simp -implicitDefEqProofs only[mkE,go_sem,d1,d2];cases h:b != 0
   · rw[h,if_neg Bool.false_ne_true]at hg;have hJ':=hJ ⟨2,by omega,hg⟩ (by simp only;omega)
     simp only at hJ';simp -implicitDefEqProofs only[go_sem,w1];exact hJ'
   · rw[h,if_pos rfl]at hg;simp -implicitDefEqProofs only[go_sem];rw[←hg];exact Fini.ret rfl
 · have d1:decide (((2:Nat):Int)<((3:Nat):Int))=true:=by decide
   have d2:(((2:Nat):Int)<((3:Nat):Int))=True:=by simp
   simp only[orF]at hg;simp -implicitDefEqProofs only[mkE,go_sem,d1,d2];cases h:c != 0
   · have hc:c=0:=by simpa using h
     have hJ':=hJ ⟨3,by omega,by rw[←hg,hc];rfl⟩ (by simp only;omega)
     simp only at hJ';simp -implicitDefEqProofs only[go_sem,w2];exact hJ'
   · simp -implicitDefEqProofs only[go_sem];rw[←hg];exact Fini.ret rfl
 · have d1:decide (((3:Nat):Int)<((3:Nat):Int))=false:=by decide
   have d2:(((3:Nat):Int)<((3:Nat):Int))=False:=by simp
   simp only[orF]at hg;simp -implicitDefEqProofs only[mkE,go_sem,d1,d2];rw[←hg];exact Fini.ret rfl
theorem z6l (x y:Mtr):Ans Tryz.prog 156 [mv3 x,mv3 y] σ (I (cmp3 x y)) σ:=by
 have h1:=fun s=>z4w s x.2.1 y.2.1
 have h2:=fun s=>z7D s x.1 y.1
 have h3:=fun s=>z4w s x.2.2 y.2.2
 have h4:=fun s=>zc4 s (cmpS x.2.1 y.2.1) (cmpI x.1 y.1) (cmpS x.2.2 y.2.2)
 unfold cmp3;refine Ans.of_run t156 ?_;simp -implicitDefEqProofs only[c156,r156,go_sem,z0g,mv3]
 first|refine CD.intro (h1 _) ?_|refine CS.intro h1 ?_
 simp -implicitDefEqProofs only[go_sem,z0g]
 first|refine CD.intro (h2 _) ?_|refine CS.intro h2 ?_
 simp -implicitDefEqProofs only[go_sem,z0g]
 first|refine CD.intro (h3 _) ?_|refine CS.intro h3 ?_
 simp -implicitDefEqProofs only[go_sem,z0g]
 first|refine CD.intro (h4 _) ?_|refine CS.intro h4 ?_
 simp -implicitDefEqProofs only[go_sem];exact Fini.ret rfl
end
theorem z8G (a b:ByteArray):cmpS a b=(if a.toList==b.toList then 0 else if Op.bytesLess a.toList b.toList then -1 else 1):=by
 rw[cmpS,z9H,z5z,ByteArray.toList_eq,ByteArray.toList_eq]
def z5A (x y:Mtr):Bool :=
 if !(x.2.1.toList==y.2.1.toList) then Op.bytesLess x.2.1.toList y.2.1.toList
 else if !(x.1==y.1) then decide (x.1<y.1)
 else Op.bytesLess x.2.2.toList y.2.2.toList
theorem z45:∀x:List UInt8,Op.bytesLess x x=false
 |[]=>rfl
 |a::x=>by rw[Op.bytesLess,z45 x];simp
theorem z6m (x y:Mtr):decide (0≤cmp3 x y)= !z5A x y:=by
 unfold cmp3 or3 z5A;rw[z8G,z8G]
 cases h1:(x.2.1.toList==y.2.1.toList) with
 |false =>
  cases h2:Op.bytesLess x.2.1.toList y.2.1.toList<;>simp
 |true =>
  simp only[Bool.not_true,Bool.false_eq_true,if_false,if_true];unfold cmpI;by_cases h3:x.1<y.1
  · have:(x.1==y.1)=false:=by simp;omega
    simp[h3,this]
  · by_cases h4:y.1<x.1
    · have:(x.1==y.1)=false:=by simp;omega
      simp[h3,h4,this]
    · have h5:(x.1==y.1)=true:=by simp;omega
      simp only[h3,h4,h5,if_false,Bool.not_true,Bool.false_eq_true]
      cases h6:(x.2.2.toList==y.2.2.toList) with
      |true =>
       have:x.2.2.toList=y.2.2.toList:=by simpa using h6
       rw[this,z45];rfl
      |false=>cases h7:Op.bytesLess x.2.2.toList y.2.2.toList<;>simp
def epsTo (ys:List Stp) (p q:Nat):Prop:=∃s,ys[p]?=some s∧((s.op=2∧(q=s.x.toNat∨q=s.y.toNat))∨(s.op=3∧q=s.x.toNat))
inductive Eps (ys:List Stp):Nat→Nat→Prop where
 |refl (p:Nat):Eps ys p p
 |step {p q r:Nat}:epsTo ys p q→Eps ys q r→Eps ys p r
theorem z4X {ys:List Stp} {p:Nat} {s:Stp} (h:ys[p]?=some s):stpAt ys p=s:=by
 rw[stpAt,List.getD_eq_getElem?_getD,h];rfl
theorem Eps.snoc {ys:List Stp} {p q r:Nat} (h:Eps ys p q) (h':epsTo ys q r):Eps ys p r:=by
 induction h with
 |refl p=>exact .step h' (.refl _)
 |step h1 _ ih=>exact .step h1 (ih h')
section
variable {ys:List Stp} (hc:zbW ys=true)
include hc
end
inductive Reach (ys:List Stp) (s:ByteArray):Nat→Nat→Prop where
 |zero:Reach ys s 0 0
 |eps {p q i:Nat}:Reach ys s p i→epsTo ys p q→Reach ys s q i
 |byte {p i:Nat}:Reach ys s p i→p<ys.length→i<s.size→z3Y (stpAt ys p) (byteAt s i)=true→Reach ys s (p+1) (i+1)
theorem Reach.last {ys:List Stp} {s:ByteArray} {q i:Nat} (h:Reach ys s q i):(i=0∧Eps ys 0 q)∨∃j p,i=j+1∧j<s.size∧p<ys.length∧Reach ys s p j∧z3Y (stpAt ys p) (byteAt s j)=true∧Eps ys (p+1) q:=by
 induction h with
 |zero=>exact .inl ⟨rfl,.refl _⟩
 |eps _ h1 ih =>
  rcases ih with⟨h,h'⟩|⟨j,p,h⟩
  · exact .inl ⟨h,h'.snoc h1⟩
  · exact .inr ⟨j,p,h.1,h.2.1,h.2.2.1,h.2.2.2.1,h.2.2.2.2.1,h.2.2.2.2.2.snoc h1⟩
 |byte h hp hi ht _=>exact .inr ⟨_,_,rfl,hi,hp,h,ht,.refl _⟩
end Go.Proofs.YteakobbdgehlgaaGreatDoor
namespace Go.Proofs.YteakobbdgehlgaaGreatDoor
open Go Go.Ab
set_option maxRecDepth 100000
inductive Star (R:Nat→Nat→Prop):Nat→Nat→Prop where
 |refl (i:Nat):Star R i i
 |step {i m j:Nat}:R i m→Star R m j→Star R i j
section
variable (s:ByteArray)
mutual
def Mt:Rex→Nat→Nat→Prop
 |.mk op a b c d ks=>fun i j =>
  if op==1 then i<s.size∧j=i+1∧z3Y ⟨1,a,b,c,d,0,0⟩ (byteAt s i)=true
  else if op==2 then MtL ks i j
  else if op==3 then MtA ks i j
  else if op==4 then Star (MtH ks) i j
  else if op==5 then ∃m,MtH ks i m∧Star (MtH ks) m j
  else if op==6 then i=j∨MtH ks i j
  else False
def MtL:List Rex→Nat→Nat→Prop
 |[]=>fun i j=>i=j
 |x::xs=>fun i j=>∃m,Mt x i m∧MtL xs m j
def MtA:List Rex→Nat→Nat→Prop
 |[]=>fun _ _=>False
 |x::xs=>fun i j=>Mt x i j∨MtA xs i j
def MtH:List Rex→Nat→Nat→Prop
 |[]=>fun _ _=>False
 |x::_=>fun i j=>Mt x i j
end
inductive Ed (ys:List Stp):Nat×Nat→Nat×Nat→Prop where
 |eps {p q i:Nat}:epsTo ys p q→Ed ys (p,i) (q,i)
 |byte {p i:Nat}:p<ys.length→i<s.size→z3Y (stpAt ys p) (byteAt s i)=true→Ed ys (p,i) (p+1,i+1)
def Run (ys:List Stp) (lo hi:Nat):Nat→Nat×Nat→Nat×Nat→Prop
 |0,c,d=>c=d∧¬(lo≤c.1∧c.1<hi)
 |k+1,c,d=>(lo≤c.1∧c.1<hi)∧∃e,Ed s ys c e∧Run ys lo hi k e d
def Path (ys:List Stp):Nat→Nat×Nat→Nat×Nat→Prop
 |0,c,d=>c=d
 |k+1,c,d=>∃e,Ed s ys c e∧Path ys k e d
variable {s} {ys:List Stp}
theorem Run.split {lo hi lo' hi':Nat} (h1:lo≤lo') (h2:hi'≤hi):∀(k:Nat) (c d:Nat×Nat),Run s ys lo hi k c d→∃k1 k2 m,k1+k2=k∧Run s ys lo' hi' k1 c m∧Run s ys lo hi k2 m d
 |0,c,d,h=>⟨0,0,c,rfl,⟨rfl,fun hc=>h.2 ⟨by omega,by omega⟩⟩,h⟩
 |k+1,c,d,h=>by
  by_cases hc:lo'≤c.1∧c.1<hi'
  · obtain⟨_,e,he,hr⟩:=h;obtain⟨k1,k2,m,hk,h3,h4⟩:=Run.split h1 h2 k e d hr;exact⟨k1+1,k2,m,by omega,⟨hc,e,he,h3⟩,h4⟩
  · exact⟨0,k+1,c,by omega,⟨rfl,hc⟩,h⟩
theorem Path.run {lo hi:Nat}:∀(k:Nat) (c d:Nat×Nat),Path s ys k c d→¬(lo≤d.1∧d.1<hi)→∃k1 k2 m,Run s ys lo hi k1 c m∧Path s ys k2 m d
 |0,c,d,h,hd=>⟨0,0,c,⟨rfl,by rw[show c=d from h];exact hd⟩,h⟩
 |k+1,c,d,h,hd=>by
  by_cases hc:lo≤c.1∧c.1<hi
  · obtain⟨e,he,hr⟩:=h;obtain⟨k1,k2,m,h3,h4⟩:=Path.run k e d hr hd;exact⟨k1+1,k2,m,⟨hc,e,he,h3⟩,h4⟩
  · exact⟨0,k+1,c,⟨rfl,hc⟩,h⟩
theorem Path.snoc:∀(k:Nat) (c d e:Nat×Nat),Path s ys k c d→Ed s ys d e→Path s ys (k+1) c e
 |0,c,d,e,h,he=>by rw[show c=d from h];exact⟨e,he,rfl⟩
 |k+1,c,d,e,h,he=>by
  obtain⟨f,hf,hr⟩:=h;exact⟨f,hf,Path.snoc k f d e hr he⟩
theorem Run.out {lo hi k:Nat} {c d:Nat×Nat} (h:Run s ys lo hi k c d) (hc:¬(lo≤c.1∧c.1<hi)):k=0∧c=d:=by
 cases k with
 |zero=>exact⟨rfl,h.1⟩
 |succ k=>exact absurd h.1 hc
theorem Run.move {lo hi k:Nat} {c d:Nat×Nat} (h:Run s ys lo hi k c d) (hc:lo≤c.1∧c.1<hi):∃k' e,k=k'+1∧Ed s ys c e∧Run s ys lo hi k' e d:=by
 cases k with
 |zero=>exact absurd hc h.2
 |succ k=>obtain⟨_,e,h1,h2⟩:=h;exact⟨k,e,rfl,h1,h2⟩
theorem Ed.two {p i:Nat} {e:Nat×Nat} {st:Stp} (h:Ed s ys (p,i) e) (hs:ys[p]?=some st) (ho:st.op=2):e=(st.x.toNat,i)∨e=(st.y.toNat,i):=by
 cases h with
 |eps h =>
  obtain⟨s',h1,h2⟩:=h;rw[hs]at h1;cases h1;rcases h2 with⟨_,rfl|rfl⟩|⟨h3,_⟩
  · exact .inl rfl
  · exact .inr rfl
  · omega
 |byte h1 h2 h3 =>
  rw[z4X hs]at h3;simp[z3Y,ho]at h3
theorem Ed.one {p i:Nat} {e:Nat×Nat} {st:Stp} (h:Ed s ys (p,i) e) (hs:ys[p]?=some st) (ho:st.op=1):e=(p+1,i+1)∧i<s.size∧z3Y st (byteAt s i)=true:=by
 cases h with
 |eps h =>
  obtain⟨s',h1,h2⟩:=h;rw[hs]at h1;cases h1;rcases h2 with⟨h3,_⟩|⟨h3,_⟩<;>omega
 |byte h1 h2 h3 =>
  rw[z4X hs]at h3;exact⟨rfl,h2,h3⟩
theorem Ed.four {p i:Nat} {e:Nat×Nat} {st:Stp} (h:Ed s ys (p,i) e) (hs:ys[p]?=some st) (ho:st.op=4):False:=by
 cases h with
 |eps h =>
  obtain⟨s',h1,h2⟩:=h;rw[hs]at h1;cases h1;rcases h2 with⟨h3,_⟩|⟨h3,_⟩<;>omega
 |byte h1 h2 h3 =>
  rw[z4X hs]at h3;simp[z3Y,ho]at h3
def Frag (ys:List Stp) (n:Nat) (l:List Stp):Prop:=∀k,k<l.length→ys[n+k]?=l[k]?
theorem Frag.left {n:Nat} {a b:List Stp} (h:Frag ys n (a++b)):Frag ys n a:=fun k hk=>by
 rw[h k (by simp;omega),List.getElem?_append_left hk]
theorem Frag.right {n:Nat} {a b:List Stp} (h:Frag ys n (a++b)):Frag ys (n+a.length) b:=fun k hk=>by
 rw[show n+a.length+k=n+(a.length+k) by omega,h _ (by simp;omega),List.getElem?_append_right (by omega)]
 congr 1;omega
theorem Frag.head {n:Nat} {a:Stp} {b:List Stp} (h:Frag ys n (a::b)):ys[n]?=some a:=by
 have:=h 0 (by simp);simpa using this
theorem Frag.tail {n:Nat} {a:Stp} {b:List Stp} (h:Frag ys n (a::b)):Frag ys (n+1) b:=fun k hk=>by
 have:=h (k+1) (by simp;omega)
 rw[show n+1+k=n+(k+1) by omega,this];simp
end
end Go.Proofs.YteakobbdgehlgaaGreatDoor
namespace Go.Proofs.YteakobbdgehlgaaGreatDoor
open Go Go.Ab Rex
set_option maxRecDepth 100000
section
variable (s:ByteArray)
end
theorem Star.one {R:Nat→Nat→Prop} {i m j:Nat} (h:R i m) (h':Star R m j):Star R i j:=.step h h'
section
variable {s:ByteArray} {ys:List Stp}
def Comp (s:ByteArray) (ys:List Stp) (x:Rex):Prop:=∀n i j,Frag ys n (lay n x)→Mt s x i j→Reach ys s n i→Reach ys s (n+(lay n x).length) j
theorem compL (l:List Rex):∀n i j,(∀k∈l,Comp s ys k)→Frag ys n (layL n l)→MtL s l i j→Reach ys s n i→Reach ys s (n+(layL n l).length) j:=by
 induction l with
 |nil=>intro n i j _ _ h hr;rw[show i=j from h]at hr;exact hr
 |cons x xs ih =>
  intro n i j hk hf h hr;rw[layL]at hf⊢;obtain⟨m,h1,h2⟩:=h;have a1:=hk x List.mem_cons_self n i m hf.left h1 hr;have a2:=ih _ m j (fun k hk'=>hk k (List.mem_cons_of_mem _ hk')) hf.right h2 a1
  rw[List.length_append,←Nat.add_assoc];exact a2
end
abbrev dob (s:ByteArray) (a d:Nat) (b:Bool):Ob:=.box [Sx s,I a,I d,Bo b]
section
variable (σ:St) (p:Nat) (s:ByteArray) (a d:Nat)
end
abbrev DF:=Nat→Rex×Nat×Nat×Bool
def DAns (f:FuncId) (g:Bool) (s:ByteArray) (d:Nat) (F:DF):Prop :=
 ∀(σ:St) (p a:Nat),p<σ.length→s.size≤40→(g=true→a<s.size) →
  Ans Tryz.prog f [.ptr p 0] (σ.set p (dob s a d false)) (F a).1.rv (σ.set p (dob s (F a).2.1 (F a).2.2.1 (F a).2.2.2))
section
variable {σ:St} {p:Nat} {s:ByteArray}
theorem DAns.ex {f:FuncId} {g:Bool} {d:Nat} {F:DF} (h:DAns f g s d F) (hp:p<σ.length) (a:Nat) (hs:s.size≤40) (hg:g=true→a<s.size) (ex:St) :
  Ans Tryz.prog f [.ptr p 0] (σ.set p (dob s a d false)++ex) (F a).1.rv (σ.set p (dob s (F a).2.1 (F a).2.2.1 (F a).2.2.2)++ex):=by
 have:=h (σ.set p (dob s a d false)++ex) p a (by simp;omega) hs hg
 rwa [sA hp,sA hp]at this
end
section
variable (s:ByteArray)
end
end Go.Proofs.YteakobbdgehlgaaGreatDoor
namespace Go.Proofs.YteakobbdgehlgaaGreatDoor
open Go Go.Ab
set_option maxRecDepth 100000
theorem z9I (M:List Mtr) (i:Nat) (h:i<M.length):(mvs3 M)[i]?=some (mv3 M[i]):=by simp[mvs3,h]
theorem z0F (M:List Mtr):(mvs3 M).length=M.length:=List.length_map ..
abbrev noM3:Mtr:=(0,⟨#[]⟩,⟨#[]⟩)
def isM (x:Mtr):Bool:=isB x.1 x.2.1 x.2.2
def okL (M:List Mtr) (i:Nat):Bool:=isM (M.getD i noM3)&&(i==0||z5A (M.getD (i-1) noM3) (M.getD i noM3))
def listB (M:List Mtr):Bool:=decide (M.length≤5)&&(List.range M.length).all (okL M)
theorem zat (M:List Mtr) (i:Nat) (h:i<M.length):(mvs3 M)[i]?=some (mv3 (M.getD i noM3)):=by
 rw[z9I M i h,List.getD_eq_getElem?_getD,List.getElem?_eq_getElem h];rfl
theorem z0K (n:Nat) (M:List Mtr):Bel n (.sl 3 (mvs3 M)):=by
 refine .sl 3 _ fun i hi=>?_
 have:∀y∈mvs3 M,Bel n y:=by
  intro y hy;simp only[mvs3,List.mem_map]at hy;obtain⟨x,_,rfl⟩:=hy;refine .agg _ fun i hi=>?_
  have:∀y∈([I x.1,Sx x.2.1,Sx x.2.2]:List AV),Bel n y:=by
   intro y hy;simp only[List.mem_cons,List.not_mem_nil,or_false]at hy;rcases hy with rfl|rfl|rfl<;>exact .pl _
  exact this _ (List.getElem_mem hi)
 exact this _ (List.getElem_mem hi)
theorem zau (n:Nat) (M:List Mtr):Bel n (.sl 3 (mvs3 M))=True:=eq_true (z0K n M)
theorem memM (n:Nat) (k:Int) (a b:ByteArray):∀y∈([I k,Sx a,Sx b]:List AV),Bel n y:=by
 intro y hy;simp only[List.mem_cons,List.not_mem_nil,or_false]at hy;rcases hy with rfl|rfl|rfl<;>exact .pl _
theorem zav (n:Nat) (k:Int) (a b:ByteArray):Bel n (.agg [I k,Sx a,Sx b])=True:=eq_true (.agg _ fun i hi=>memM n k a b _ (List.getElem_mem hi))
theorem BL_rp (n:Nat) (k:Int) (a b:ByteArray):Bel n (.rp [I k,Sx a,Sx b])=True:=eq_true (.rp _ fun i hi=>memM n k a b _ (List.getElem_mem hi))
theorem z0W (σ:St) (M:List Mtr):Ans Tryz.prog 143 [.sl 3 (mvs3 M)] σ (Bo (listB M)) σ:=by
 refine Ans.of_run' t143 (fun hbel _=>?_)
 have d5:decide ((5:Int)<M.length)=decide (5<M.length):=decN 5 _;have hb0:(∀o∈σ,BelO σ.length o)=True:=eq_true hbel;unfold listB;simp -implicitDefEqProofs only[c143,r143,go_sem,z0F,d5];by_cases hl:M.length≤5
 · rw[decide_eq_true hl,Bool.true_and];have h5:decide (5<M.length)=false:=decide_eq_false (by omega)
   simp -implicitDefEqProofs only[go_sem,h5,z0F];refine Go.Ab.L.scan M.length (okL M) (fun i=>mkE 33 [(0,.sl 3 (mvs3 M)),(8,.sl 3 (mvs3 M)),(9,I M.length),(10,I i)]) (fun _=>σ) ?_ ?_ rfl rfl
   · intro i hi hp J hJ;have htk:∀x:Ob,(σ++[x]).take σ.length=σ:=fun x=>List.take_left' rfl
     have hF:okL M i=false→(List.range M.length).all (okL M)=false:=fun h=>List.all_eq_false.2 ⟨i,List.mem_range.2 hi,by simp[h]⟩
     have hx:=zat M i hi;have hin:=z3x (n:=i) (by omega)
     have hI:=fun σ=>zc3 σ (M.getD i noM3).1 (M.getD i noM3).2.1 (M.getD i noM3).2.2
     have hO:okL M i=(isB (M.getD i noM3).1 (M.getD i noM3).2.1 (M.getD i noM3).2.2&&(i==0||z5A (M.getD (i-1) noM3) (M.getD i noM3))):=rfl;have d0:decide ((0:Int)<i)=decide (0<i):=decN 0 i;rw[hO]at hJ hF;simp -implicitDefEqProofs only[mkE,go_sem,z0F,z1i hi,dec_lt hi,hx,mv3,z0g,g0,s0,List.drop_nil]
     first|refine CD.intro (hI _) ?_|refine CS.intro hI ?_
     generalize isB (M.getD i noM3).1 (M.getD i noM3).2.1 (M.getD i noM3).2.2=b1 at hJ hF
     cases b1 with
     |false =>
      simp -implicitDefEqProofs only[go_sem,z0g,g0,s0];rw[hF rfl];exact Fini.trim2 (σ':=σ) rfl rfl (Nat.le_refl _) (.pl _) hbel
     |true =>
      by_cases hz:i=0
      · subst hz;have hgo:=hJ rfl;simp -implicitDefEqProofs only[go_sem,hin,z0g,g0,s0,Int.natCast_zero,B_pl,B_any,z4o,B_tup,B_osl,B_ptr,B_sl0,zau,zav,BL_rp,htk,Nat.add_zero,hb0,List.length_append];exact⟨by omega,hgo⟩
      · have hpos:decide (0<i)=true:=by simp;omega
        have hx1:=zat M (i-1) (by omega)
        have hB:=fun σ=>z6l σ (M.getD (i-1) noM3) (M.getD i noM3)
        have hc:=z6m (M.getD (i-1) noM3) (M.getD i noM3);have w1:IntKind.i64.wrap ((i:Int)-1)=((i-1:Nat):Int):=by rw[wrapN (by omega) (by omega)];omega
        have hlt1:(((i-1:Nat):Int)<M.length)=True:=by simp;omega
        have hz':(i==0)=false:=by simpa using hz
        rw[hz']at hJ hF;simp -implicitDefEqProofs only[go_sem,d0,hpos,w1,z0F,z1i hi,dec_lt hi,hlt1,hx,hx1,z0g,mv3,g0,s0]
        first|refine CD.intro (hB _) ?_|refine CS.intro hB ?_
        generalize z5A (M.getD (i-1) noM3) (M.getD i noM3)=b2 at hJ hF hc;generalize cmp3 (M.getD (i-1) noM3) (M.getD i noM3)=cc at hc
        cases b2 with
        |true =>
         have hgo:=hJ rfl;simp -implicitDefEqProofs only[go_sem,hc,hin,g0,s0,B_pl,B_any,z4o,B_tup,B_osl,B_ptr,B_sl0,zau,zav,BL_rp,htk,Nat.add_zero,hb0,List.length_append,Bool.not_true];exact⟨by omega,hgo⟩
        |false =>
         simp -implicitDefEqProofs only[go_sem,hc,Bool.not_false,g0,s0];rw[hF rfl];exact Fini.trim2 (σ':=σ) rfl rfl (Nat.le_refl _) (.pl _) hbel
   · intro hp J;have hd:decide ((M.length:Int)<M.length)=false:=by simp
     simp -implicitDefEqProofs only[mkE,go_sem,z0F,hd];refine Fini.ret' rfl (z1k ?_);exact(List.all_eq_true.2 fun i hi=>hp i (List.mem_range.1 hi)).symm
 · rw[decide_eq_false hl,Bool.false_and];have h5:decide (5<M.length)=true:=decide_eq_true (by omega)
   simp -implicitDefEqProofs only[go_sem,h5];exact Fini.ret rfl
end Go.Proofs.YteakobbdgehlgaaGreatDoor
namespace Go.Proofs.YteakobbdgehlgaaGreatDoor
open Go Go.Ab Go.Cod
set_option maxRecDepth 100000
abbrev Fl (n:Nat):AV:=.pl (.float .f64 n)
structure RuM where
 src:List Mtr
 tgt:List Mtr
 any:Bool
 lo:Nat
 hi:Nat
 eq:List ByteArray
def txs (l:List ByteArray):List AV:=l.map fun s=>Sx s
def ruV (r:RuM):AV:=.agg [.sl 3 (mvs3 r.src),.sl 3 (mvs3 r.tgt),Bo r.any,Fl r.lo,Fl r.hi,.sl 1 (txs r.eq)]
theorem z1I (l:List ByteArray):(txs l).length=l.length:=List.length_map ..
theorem zbf (l:List ByteArray) (i:Nat) (h:i<l.length):(txs l)[i]?=some (Sx l[i]):=by simp[txs,h]
theorem txs_D (l:List ByteArray) (i:Nat) (h:i<l.length):(txs l)[i]?=some (Sx (l.getD i ⟨#[]⟩)):=by
 rw[zbf l i h,List.getD_eq_getElem?_getD,List.getElem?_eq_getElem h];rfl
def leF (a b:Nat):Bool:=FloatKind.f64.format.order a b==some .lt||FloatKind.f64.format.order a b==some .eq
theorem zbg (a b:Nat):(FloatKind.f64.format.order a b==some .lt||FloatKind.f64.format.order a b==some .eq)=leF a b:=rfl
def nanF (a:Nat):Bool:=FloatKind.f64.format.order a a != some .eq
theorem z9K (a:Nat):(FloatKind.f64.format.order a a != some .eq)=nanF a:=rfl
def bitsF (a:Nat):Nat:=if nanF a then 9221120237041090561 else a
def mayB (any:Bool) (lo hi:Nat):Bool:=if any then(((bitsF lo:Nat):Int)==0)&&(((bitsF hi:Nat):Int)==0) else leF lo hi
def eqOk (e:List ByteArray) (i:Nat):Bool:=nameB (e.getD i ⟨#[]⟩)&& !(decide (0<i)&&leS (e.getD i ⟨#[]⟩) (e.getD (i-1) ⟨#[]⟩))
def eqB (e:List ByteArray):Bool:=decide (e.length≤4)&&(List.range e.length).all (eqOk e)
def ruIs (r:RuM):Bool:=!(((r.src.length:Nat):Int)==0)&&(!(((r.tgt.length:Nat):Int)==0)&&(listB r.src&&(listB r.tgt&&(mayB r.any r.lo r.hi&&eqB r.eq))))
section
variable (σ:St)
theorem zc5 (a:Nat):Ans Tryz.prog 159 [Fl a] σ (Bo (nanF a)) σ:=by
 refine Ans.of_run t159 ?_;simp -implicitDefEqProofs only[c159,r159,go_sem,z9K];exact Fini.ret rfl
theorem z6n (a:Nat):Ans Tryz.prog 111 [Fl a] σ (UN a) σ:=ext_bits.ok _ _ _ _ rfl
theorem z3C (a:Nat):Ans Tryz.prog 149 [Fl a] σ (UN (bitsF a)) σ:=by
 refine Ans.of_run t149 ?_;simp -implicitDefEqProofs only[c149,r149,go_sem];refine CO.intro (zc5 σ a) ?_;unfold bitsF
 cases nanF a with
 |true =>
  simp -implicitDefEqProofs only[go_sem];exact Fini.ret rfl
 |false =>
  simp -implicitDefEqProofs only[go_sem];refine CO.intro (z6n σ a) ?_;simp -implicitDefEqProofs only[go_sem];exact Fini.ret rfl
theorem z1b (any:Bool) (lo hi:Nat):Ans Tryz.prog 145 [.agg [Bo any,Fl lo,Fl hi]] σ (Bo (mayB any lo hi)) σ:=by
 refine Ans.of_run t145 ?_;unfold mayB
 cases any with
 |true =>
  simp -implicitDefEqProofs only[c145,r145,go_sem];refine CO.intro (z3C σ lo) ?_
  cases h:(((bitsF lo:Nat):Int)==0) with
  |false =>
   simp -implicitDefEqProofs only[go_sem,h];exact Fini.ret rfl
  |true =>
   simp -implicitDefEqProofs only[go_sem,h];refine CO.intro (z3C σ hi) ?_;simp -implicitDefEqProofs only[go_sem,h];exact Fini.ret rfl
 |false =>
  simp -implicitDefEqProofs only[c145,r145,go_sem,zbg];exact Fini.ret rfl
theorem z1e (r:RuM):Ans Tryz.prog 146 [ruV r] σ (Bo (ruIs r)) σ:=by
 obtain⟨src,tgt,any,lo,hi,eq⟩:=r;have d4:decide ((4:Int)<eq.length)=decide (4<eq.length):=decNN 4 _;refine Ans.of_run t146 ?_;unfold ruIs ruV;simp only
 cases h1:(((src.length:Nat):Int)==0) with
 |true =>
  simp -implicitDefEqProofs only[c146,r146,go_sem,z0F,h1];exact Fini.ret rfl
 |false =>
 cases h2:(((tgt.length:Nat):Int)==0) with
 |true =>
  simp -implicitDefEqProofs only[c146,r146,go_sem,z0F,h1,h2];exact Fini.ret rfl
 |false =>
 simp -implicitDefEqProofs only[c146,r146,go_sem,z0F,h1,h2];refine CO.intro (z0W σ src) ?_
 cases h3:listB src with
 |false =>
  simp -implicitDefEqProofs only[go_sem];exact Fini.ret rfl
 |true =>
 simp -implicitDefEqProofs only[go_sem];refine CO.intro (z0W σ tgt) ?_
 cases h4:listB tgt with
 |false =>
  simp -implicitDefEqProofs only[go_sem];exact Fini.ret rfl
 |true =>
 simp -implicitDefEqProofs only[go_sem];refine CO.intro (z1b σ any lo hi) ?_
 cases h5:mayB any lo hi with
 |false =>
  simp -implicitDefEqProofs only[go_sem];exact Fini.ret rfl
 |true =>
 unfold eqB;by_cases h6:eq.length≤4
 · have x4:decide (4<eq.length)=false:=decide_eq_false (by omega)
   rw[decide_eq_true h6];simp -implicitDefEqProofs only[go_sem,z1I,d4,x4];refine Go.Ab.L.scan eq.length (eqOk eq) (fun i=>mkE 65 [(1,.rp [.sl 3 (mvs3 src),.sl 3 (mvs3 tgt),Bo any,Fl lo,Fl hi,.sl 1 (txs eq)]),(40,.sl 1 (txs eq)),(41,I eq.length),(42,I i)]) (fun _=>σ) ?_ ?_ rfl rfl
   · intro i hi hp J hJ;have hx:=txs_D eq i hi;have hF:eqOk eq i=false→(List.range eq.length).all (eqOk eq)=false:=fun h=>List.all_eq_false.2 ⟨i,List.mem_range.2 hi,by rw[h];decide⟩
     have hin:=wrap_succ (i:=i) (by omega)
     have d0:decide ((0:Int)<i)=decide (0<i):=by rw[Bool.eq_iff_iff];simp
     have hO:eqOk eq i=(nameB (eq.getD i ⟨#[]⟩)&& !(decide (0<i)&&leS (eq.getD i ⟨#[]⟩) (eq.getD (i-1) ⟨#[]⟩))):=rfl;rw[hO]at hJ hF;simp -implicitDefEqProofs only[mkE,go_sem,z1I,z1i hi,dec_lt hi,hx];refine CO.intro (z44 σ _) ?_;generalize eq.getD i ⟨#[]⟩=s at hJ hF hx
     cases hb:nameB s with
     |false =>
      rw[hb]at hF;rw[hF rfl];simp -implicitDefEqProofs only[go_sem];exact Fini.ret rfl
     |true =>
      rw[hb]at hJ hF;by_cases hz:i=0
      · subst hz;have hgo:=hJ rfl;simp -implicitDefEqProofs only[go_sem,d0,hin];exact hgo
      · have hpos:decide (0<i)=true:=decide_eq_true (by omega)
        have hx1:=txs_D eq (i-1) (by omega)
        have w1:IntKind.i64.wrap ((i:Int)-1)=((i-1:Nat):Int):=by rw[wrapN (by omega) (by omega)];omega
        have hlt1:(((i-1:Nat):Int)<eq.length)=True:=by simp;omega
        rw[hpos]at hJ hF;generalize eq.getD (i-1) ⟨#[]⟩=s1 at hJ hF hx1;have hle:(Op.bytesLess s.toList s1.toList||s.toList==s1.toList)=leS s s1:=rfl;simp -implicitDefEqProofs only[go_sem,d0,hpos,w1,z1I,hlt1,hx1,hle]
        cases h7:leS s s1 with
        |true =>
         rw[h7]at hF;rw[hF rfl];simp -implicitDefEqProofs only[go_sem];exact Fini.ret rfl
        |false =>
         rw[h7]at hJ;have hgo:=hJ rfl;simp -implicitDefEqProofs only[go_sem,hin];exact hgo
   · intro hp J;have hd:decide ((eq.length:Int)<eq.length)=false:=by simp
     simp -implicitDefEqProofs only[mkE,go_sem,z1I,hd];refine Fini.ret' rfl (z1k ?_);exact(List.all_eq_true.2 fun i hi=>hp i (List.mem_range.1 hi)).symm
 · have x4:decide (4<eq.length)=true:=decide_eq_true (by omega)
   rw[decide_eq_false h6];simp -implicitDefEqProofs only[go_sem,z1I,d4,x4];exact Fini.ret rfl
end
def mkM (x:UInt8×ByteArray×ByteArray):Mtr:=((x.1.toNat:Int),x.2.1,x.2.2)
def mtrR:Rd Mtr:=z15 (seqR byteR (seqR (textR 12) (textR 40))) mkM
def listR:Rd (List Mtr):=onlyR (rowR 5 mtrR) listB
def putM (x:Mtr):Byt:=x.1.toNat.toUInt8::(txtB x.2.1++txtB x.2.2)
def putL (M:List Mtr):Byt:=z3f putM M
theorem z74:EndsR mtrR:=z0Q (z16 ends_byte (z16 (z1P 12) (z1P 40))) _
theorem ends_list:EndsR listR:=z5p (z9x z74 5) _
theorem z9L:Fits mtrR putM (fun x=>0≤x.1∧x.1<256∧x.2.1.size≤12∧x.2.2.size≤40):=by
 refine dress_fits (z1y byte_fits (z1y (z1N (by decide)) (z1N (by decide)))) (g:=fun x=>(x.1.toNat.toUInt8,x.2.1,x.2.2)) ?_ ?_
 · rintro⟨c,n,v⟩ ⟨_,h1,h2⟩;have:=c.toNat_lt;refine⟨⟨by simp only[mkM];omega,by simp only[mkM];omega,h1,h2⟩,?_⟩
   simp only[putM,mkM,Int.toNat_natCast,toUInt8_toNat];rfl
 · rintro⟨k,n,v⟩ ⟨h0,h1,h2,h3⟩;refine⟨⟨trivial,h2,h3⟩,?_⟩;simp only at h0 h1;have:(k.toNat.toUInt8.toNat:Int)=k:=by rw[toNat_toUInt8 (by omega)];omega
   simp only[mkM,this]
theorem z6o {s:ByteArray} (h:(z2Y s).2=true):s.size≤40:=by
 unfold z2Y at h;rcases Nat.lt_or_ge 40 s.size with h40|h40
 · exfalso
   have:=(z8B s 8 0 true).2 rfl;simp[h40,this]at h
 · exact h40
theorem z9M {k:Int} {nm v:ByteArray} (h:isB k nm v=true):(1≤k∧k≤4)∧nm.size≤12∧v.size≤40:=by
 unfold isB nameB at h;simp only[Bool.and_eq_true,decide_eq_true_eq]at h;obtain⟨⟨⟨⟨_,hn⟩,_⟩,_⟩,h2⟩:=h;split at h2
 · rename_i hl;unfold likeB at hl;simp only[Bool.or_eq_true,beq_iff_eq]at hl;exact⟨by omega,hn,z6o h2⟩
 · simp only[Bool.and_eq_true,Bool.or_eq_true,beq_iff_eq,decide_eq_true_eq]at h2;exact⟨by omega,hn,by omega⟩
theorem z4x:Fits listR putL (fun M=>listB M=true):=by
 refine(z28 (z4N (by decide) z9L) listB).weaken fun M=>⟨fun h=>h.2,fun h=>⟨?_,h⟩⟩
 unfold listB at h;simp only[Bool.and_eq_true,decide_eq_true_eq]at h;refine⟨h.1,fun x hx=>?_⟩
 obtain⟨i,hi,rfl⟩:=List.getElem_of_mem hx;have h2:=List.all_eq_true.1 h.2 i (List.mem_range.2 hi);unfold okL isM at h2;simp only[Bool.and_eq_true]at h2;have e:M.getD i noM3=M[i]:=by rw[List.getD_eq_getElem?_getD,List.getElem?_eq_getElem hi];rfl
 rw[e]at h2;have:=z9M h2.1;omega
def mtrS (b:Byt) (q:Nat×Bool):Mtr×(Nat×Bool):=z1a (seqSt (runR byteR 0 b) (seqSt (runR (textR 12) ⟨#[]⟩ b) (runR (textR 40) ⟨#[]⟩ b))) mkM q
theorem z47 (b:Byt):StepsR b mtrR (mtrS b):=z0x (z0m (z0c b byteR 0) (z0m (z0c b _ _) (z0c b _ _) (z1P 12)) ends_byte) _
def listS (b:Byt):Nat×Bool→List Mtr×(Nat×Bool):=z0o (rowSt 5 b (mtrS b)) listB
theorem z7E (b:Byt):StepsR b listR (listS b):=z0D (z3V (z47 b) z74 5) _
def readV {α:Type} (r:Option (α×Byt)) (b:Byt) (enc:α→AV) (none_:AV):AV:=match r with
 |some p=>.tup [enc p.1,I (b.length-p.2.length:Nat),Bo true]
 |none=>.tup [none_,I 0,Bo false]
theorem z1J {most:Nat} (b:Byt) (q:Nat×Bool):(runR (numR most) 0 b q).1≤most:=by
 unfold runR;split
 · exact Nat.zero_le _
 · split
   · exact Nat.zero_le _
   · rename_i p h;simp only[numR]at h
     cases hg:getN 0 (b.drop q.1) with
     |none=>simp[hg]at h
     |some x =>
      simp only[hg,Option.bind_some]at h;split at h
      · simp only[Option.some.injEq]at h;rw[←h];assumption
      · cases h
theorem z8H (M:List Mtr) (x:Mtr):mvs3 M++[mv3 x]=mvs3 (M++[x]):=by simp[mvs3]
theorem z0L {n:Nat} {x:AV} {i:Int} {c:Bool} (h:Bel n x):Bel n (.tup [x,I i,Bo c]):=.tup _ fun j hj=>by
 have:∀y∈([x,I i,Bo c]:List AV),Bel n y:=by
  intro y hy;simp only[List.mem_cons,List.not_mem_nil,or_false]at hy;rcases hy with rfl|rfl|rfl
  · exact h
  · exact .pl _
  · exact .pl _
 exact this _ (List.getElem_mem hj)
theorem z7F (σ:St) (b:Byt) (hb:b.length≤50000):Ans Tryz.prog 122 [.sl 1 (byv b)] σ (readV (listR b) b (fun M=>.sl 3 (mvs3 M)) .nils) σ:=by
 have hS:=(z7E b).top;refine Ans.of_run' t122 (fun hbel _=>?_)
 simp -implicitDefEqProofs only[c122,r122,go_sem];refine CO.intro (new_ans σ b) ?_;simp -implicitDefEqProofs only[go_sem,List.append_assoc,List.length_append];generalize hq1:runR (numR 5) 0 b (0,false)=q1;have hin0:Inb b (0,false):=Nat.zero_le _;have hn:=z1G (σ++[rob b (0,false),.row 3 []]) σ.length b (0,false) 5 (by decide) (g0 _ _ _) hin0 hb
 rw[hq1,s0]at hn;refine CO.intro hn ?_;have hn5:q1.1≤5:=by rw[←hq1];exact z1J b _
 have hin1:Inb b q1.2:=by rw[←hq1];exact z08 _ _ _ _ hin0
 simp -implicitDefEqProofs only[go_sem];refine Go.Ab.L.count q1.1 (fun i=>mkE 40 [(5,.ptr σ.length 0),(6,.osl (σ.length+1) i),(12,UN q1.1),(13,UN i)]) (fun i=>σ++[rob b (itSt (mtrS b) q1.2 i).2,.row 3 (mvs3 (itSt (mtrS b) q1.2 i).1)]) ?_ ?_ rfl rfl
 · intro i hi J hJ;have hitI:=z1l (z47 b).inb q1.2 hin1 i;have hlen:=z1Y (mtrS b) q1.2 i;simp only[itSt]at hJ;generalize itSt (mtrS b) q1.2 i=c at hJ hitI hlen⊢;obtain⟨l,q⟩:=c;simp only at hJ hitI hlen⊢;have d0:decide ((i:Int)<q1.1)=true:=dec_lt hi;have w0:=z1r (n:=i+1) (by omega)
   have e0:((i:Int)+1)=((i+1:Nat):Int):=rfl;unfold mtrS z1a seqSt at hJ;simp only at hJ;simp -implicitDefEqProofs only[mkE,go_sem,d0];have h1:=z0G (σ++[rob b q,.row 3 (mvs3 l)]) σ.length b q (g0 _ _ _) hitI hb;have hi2:=z08 byteR 0 b q hitI;generalize runR byteR 0 b q=r1 at h1 hi2 hJ;rw[s0]at h1;refine CO.intro h1 ?_;have h2:=z2l (σ++[rob b r1.2,.row 3 (mvs3 l)]) σ.length b r1.2 12 (by decide) (g0 _ _ _) hi2 hb
   have hi3:=z08 (textR 12) ⟨#[]⟩ b r1.2 hi2;generalize runR (textR 12) ⟨#[]⟩ b r1.2=r2 at h2 hi3 hJ;rw[s0]at h2;simp -implicitDefEqProofs only[go_sem,bc];refine CO.intro h2 ?_;have h3:=z2l (σ++[rob b r2.2,.row 3 (mvs3 l)]) σ.length b r2.2 40 (by decide) (g0 _ _ _) hi3 hb
   generalize runR (textR 40) ⟨#[]⟩ b r2.2=r3 at h3 hJ;rw[s0]at h3;simp -implicitDefEqProofs only[go_sem];refine CO.intro h3 ?_;have hl:(mvs3 l).length=i:=by rw[z0F,hlen]
   have hw:IntKind.i64.wrap (r1.1.toNat:Int)=(r1.1.toNat:Int):=wrapI (by have:=r1.1.toNat_lt;omega)
   have hle:i+1≤4294967296:=by omega
   have hsn:=z8H l (mkM (r1.1,r2.1,r3.1));simp -implicitDefEqProofs only[go_sem,hw,g1,s1,hl,hle,List.length_singleton,e0,w0];rw[←hsn]at hJ;exact hJ
 · intro J;have hitI:=z1l (z47 b).inb q1.2 hin1 q1.1;have hlen:=z1Y (mtrS b) q1.2 q1.1
   have hL:listS b (0,false)=((itSt (mtrS b) q1.2 q1.1).1,took (itSt (mtrS b) q1.2 q1.1).2 0 (listB (itSt (mtrS b) q1.2 q1.1).1)):=by
    unfold listS z0o rowSt;rw[hq1]
   rw[hL]at hS;generalize itSt (mtrS b) q1.2 q1.1=c at hS hitI hlen⊢;obtain⟨l,q⟩:=c;simp only at hS hitI hlen⊢;have hl:(mvs3 l).length=q1.1:=by rw[z0F,hlen]
   have d0:decide ((q1.1:Int)<q1.1)=false:=by simp
   simp -implicitDefEqProofs only[mkE,go_sem,d0,g1,s1,hl];refine CO.intro (z0W _ l) ?_;have h2:=z06 (σ++[rob b q,.dead]) σ.length b q (listB l) (g0 _ _ _) hitI hb;rw[s0]at h2;simp -implicitDefEqProofs only[go_sem];refine CO.intro h2 ?_;have h3:=z2a (σ++[rob b (took q 0 (listB l)),.dead]) σ.length b (took q 0 (listB l)) (g0 _ _ _);simp -implicitDefEqProofs only[go_sem];refine CO.intro h3 ?_;have hbm:Bel σ.length (.sl 3 (mvs3 l)):=z0K _ _
   cases hr:listR b with
   |none =>
    have hb2:=hS.2 hr;rw[hb2];simp -implicitDefEqProofs only[go_sem];exact Fini.trim2 (σ':=σ) rfl rfl (Nat.le_refl _) (by unfold readV;exact z0L .nils) hbel
   |some p =>
    obtain⟨M,t⟩:=p;have hb2:=hS.1 M t hr;simp only[Prod.mk.injEq]at hb2;obtain⟨rfl,hb2⟩:=hb2;rw[hb2];simp -implicitDefEqProofs only[go_sem];refine Fini.trim2 (σ':=σ) rfl rfl (Nat.le_refl _) ?_ hbel;unfold readV;exact z0L hbm
theorem z5B (σ:St) (b:Byt) (hb:b.length≤50000):Ans Tryz.prog 122 [.sl 1 (byv b)] σ (readV (listR b) b (fun M=>.sl 3 (mvs3 M)) (.sl 3 [])) σ:=by
 refine(z7F σ b hb).subR ?_;unfold readV
 cases listR b with
 |none=>exact .tup (.cons (.nils 3) (.refl _))
 |some p=>exact .refl _
theorem z75 (s:ByteArray) (h:s.size≤1000000):(txtB s).length≤10+s.size:=by
 have h10:=z0P (n:=s.size) (by omega)
 rw[txtB,List.length_append,z27];omega
section
variable (σ:St)
end
end Go.Proofs.YteakobbdgehlgaaGreatDoor
