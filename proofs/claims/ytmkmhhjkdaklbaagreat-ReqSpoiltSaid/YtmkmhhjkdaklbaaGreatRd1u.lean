/- Requests read whole, by the program: with a token, and without. No condition. -/
import Derived.Test.YtmkmhhjkdaklbaaGreatRq5du
import Derived.Test.YtmkmhhjkdaklbaaGreatXRu8u
import Derived.Test.YtmkmhhjkdaklbaaGreatProg
import Derived.Test.YtmkmhhjkdaklbaaGreatAbStepu
import Derived.Test.YtmkmhhjkdaklbaaGreatRq2au
set_option linter.unusedSimpArgs false
set_option linter.unusedVariables false
set_option linter.unusedSectionVars false
namespace Go.Proofs.YtmkmhhjkdaklbaaGreat
open Go Go.Ab Go.Cod
set_option maxRecDepth 100000
theorem zfo (A:Nat×Bool→St) (n p:Nat) (b:Byt) (hn:∀q,(A q).length=n) (hg:∀q,(A q)[p]?=some (rob b q)) (hs:∀q q',(A q).set p (rob b q')=A q') (hb:b.length≤50000) (q:Nat×Bool) (hq:Inb b q) :
  Ans Tryz.prog 103 [.ptr p 0] (A q) (reV (bodyS b q).1) (A (bodyS b q).2):=by
 cases hc:runR byteR 0 b q with
 |mk c q1 =>
 have hm:=z6p (c.toNat:Int)
 cases hf:fOf (c.toNat:Int) with
 |mk f ok =>
 rw[hf]at hm;simp only[List.mem_cons,List.not_mem_nil,or_false]at hm;rcases hm with rfl|rfl|rfl|rfl|rfl|rfl|rfl|rfl|rfl
 · exact zir A n p b hn hg hs hb q hq c q1 hc ok hf
 · exact zis A n p b hn hg hs hb q hq c q1 hc ok hf
 · exact zit A n p b hn hg hs hb q hq c q1 hc ok hf
 · exact zfk A n p b hn hg hs hb q hq c q1 hc ok hf
 · exact zfl A n p b hn hg hs hb q hq c q1 hc ok hf
 · exact ziu A n p b hn hg hs hb q hq c q1 hc ok hf
 · exact zfm A n p b hn hg hs hb q hq c q1 hc ok hf
 · exact zfn A n p b hn hg hs hb q hq c q1 hc ok hf
 · exact zhl A n p b hn hg hs hb q hq c q1 hc ok hf
def wholeO {α:Type} (o:Option (α×Byt)):Option α:=match o with
 |some (x,[])=>some x
 |_=>none
theorem z8Z {α:Type} {b:Byt} {rd:Rd α} {st:Nat×Bool→α×(Nat×Bool)} (h:StepsR b rd st) (he:EndsR rd) :
  wholeO (rd b)=if !(st (0,false)).2.2&&decide ((st (0,false)).2.1=b.length) then some (st (0,false)).1 else none:=by
 cases hr:rd b with
 |none=>rw[h.top.2 hr];rfl
 |some p =>
  obtain⟨x,t⟩:=p;rw[h.top.1 x t hr];obtain⟨w,hw⟩:=he _ _ _ hr;have hl:b.length=w.length+t.length:=by rw[hw,List.length_append]
  cases t with
  |nil=>simp[wholeO]
  |cons c t =>
   have:¬(b.length-(c::t).length=b.length):=by simp only[List.length_cons]at hl⊢;omega
   simp only[wholeO,Bool.not_false,Bool.true_and,decide_eq_false this,Bool.false_eq_true,if_false]
abbrev noRe:ReM:=x0 0
def noReV:AV:=.agg [Sx ⟨#[]⟩,I 0,I 0,Sx ⟨#[]⟩,UN 0,UN 0,I 0,.nils,Bo false,Fl 0,Fl 0,.nils,.nils,Bo false,Fl 0,Fl 0,.nils,.nils,Fl 0]
theorem zaT:Sub noReV (reV noRe):=.agg (.cons (.refl _) (.cons (.refl _) (.cons (.refl _) (.cons (.refl _) (.cons (.refl _) (.cons (.refl _) (.cons (.refl _) (.cons (.nils 3) (.cons (.refl _) (.cons (.refl _) (.cons (.refl _) (.cons (.nils 3) (.cons (.nils 3) (.cons (.refl _) (.cons (.refl _) (.cons (.refl _) (.cons (.nils 1) (.cons (.nils 2) (.cons (.refl _) .nil)))))))))))))))))))
theorem z6q (n:Nat):Bel n noReV:=.agg _ fun i hi=>by
 have:∀y∈([Sx ⟨#[]⟩,I 0,I 0,Sx ⟨#[]⟩,UN 0,UN 0,I 0,.nils,Bo false,Fl 0,Fl 0,.nils,.nils,Bo false,Fl 0,Fl 0,.nils,.nils,Fl 0]:List AV),Bel n y:=by
  intro y hy;simp only[List.mem_cons,List.not_mem_nil,or_false]at hy;rcases hy with rfl|rfl|rfl|rfl|rfl|rfl|rfl|rfl|rfl|rfl|rfl|rfl|rfl|rfl|rfl|rfl|rfl|rfl|rfl
  all_goals first|exact .pl _|exact .nils
 exact this _ (List.getElem_mem hi)
theorem z7M (n:Nat) (r:ReM):Bel n (reV r):=.agg _ fun i hi=>by
 have:∀y∈reC r,Bel n y:=by
  intro y hy;unfold reC at hy;simp only[List.mem_cons,List.not_mem_nil,or_false]at hy;rcases hy with rfl|rfl|rfl|rfl|rfl|rfl|rfl|rfl|rfl|rfl|rfl|rfl|rfl|rfl|rfl|rfl|rfl|rfl|rfl
  all_goals first|exact .pl _|exact z09 _ _|exact z0u _ _|exact z0g _ _
 exact this _ (List.getElem_mem hi)
def z0N (o:Option ReM):AV:=match o with
 |some x=>.tup [reV x,Bo true]
 |none=>.tup [reV noRe,Bo false]
def zdA (o:Option ReM):AV:=match o with
 |some x=>.tup [reV x,Bo true]
 |none=>.tup [noReV,Bo false]
theorem zdB (o:Option ReM):Sub (zdA o) (z0N o):=by
 unfold zdA z0N
 cases o with
 |none=>exact .tup (.cons zaT (.refl _))
 |some x=>exact .refl _
theorem z1P {n:Nat} {x:AV} {c:Bool} (h:Bel n x):Bel n (.tup [x,Bo c]):=.tup _ fun j hj=>by
 have:∀y∈([x,Bo c]:List AV),Bel n y:=by
  intro y hy;simp only[List.mem_cons,List.not_mem_nil,or_false]at hy;rcases hy with rfl|rfl
  · exact h
  · exact .pl _
 exact this _ (List.getElem_mem hj)
def fitQ (b:Byt) (q:Nat×Bool) (x:ReM):Option ReM:=if !q.2&&decide (q.1=b.length) then some x else none
theorem zbM (n:Nat) (o:Option ReM):Bel n (z0N o):=by
 unfold z0N
 cases o with
 |none=>exact z1P (z7M _ _)
 |some x=>exact z1P (z7M _ _)
section
variable (σ:St)
theorem zdC (p:Nat) (b:Byt) (q:Nat×Bool) (x:ReM) (h:σ[p]?=some (rob b q)):Ans Tryz.prog 104 [reV x,.ptr p 0,.sl 1 (byv b)] σ (z0N (fitQ b q x)) σ:=by
 refine Ans.subR ?_ (zdB _);have hp:p<σ.length:=(List.getElem?_eq_some_iff.1 h).1;have hz:∀ob,(σ++[ob])[p]?=some (rob b q):=fun ob=>by rw[List.getElem?_append_left hp];exact h
 have h1:=z3P (σ++[B19]) p b q (hz _);have hbx:=z7M σ.length x;obtain⟨a,bad⟩:=q;refine Ans.of_run' t104 (fun hbel _=>?_)
 unfold zdA fitQ;unfold reV reC at hbx⊢
 cases bad with
 |true =>
  simp -implicitDefEqProofs only[c104,r104,go_sem,g0,s0];refine CO.intro h1 ?_;simp -implicitDefEqProofs only[go_sem,g0,s0];exact tr_ (σ':=σ) (ex:=[_]) rfl (z1P (z6q _)) hbel
 |false =>
  have e1:(((a:Nat):Int) != (b.length:Nat))= !decide (a=b.length):=by
   rw[bne];congr 1
   rw[Bool.eq_iff_iff];simp only[beq_iff_eq,decide_eq_true_eq];omega
  by_cases he:a=b.length
  · have e2:(((a:Nat):Int) != (b.length:Nat))=false:=by rw[e1,decide_eq_true he];rfl
    have e3:(!(a,false).2&&decide ((a,false).1=b.length))=true:=by simp[he]
    rw[if_pos e3];simp -implicitDefEqProofs only[c104,r104,go_sem,g0,s0];refine CO.intro h1 ?_;simp -implicitDefEqProofs only[go_sem,z03,e2,g0,s0];exact tr_ (σ':=σ) (ex:=[_]) rfl (z1P hbx) hbel
  · have e2:(((a:Nat):Int) != (b.length:Nat))=true:=by rw[e1,decide_eq_false he];rfl
    have e3:¬(!(a,false).2&&decide ((a,false).1=b.length))=true:=by simp[he]
    rw[if_neg e3];simp -implicitDefEqProofs only[c104,r104,go_sem,g0,s0];refine CO.intro h1 ?_;simp -implicitDefEqProofs only[go_sem,z03,e2,g0,s0];exact tr_ (σ':=σ) (ex:=[_]) rfl (z1P (z6q _)) hbel
def reqR:Rd ReM:=z0Y (seqR (onlyR (textR 16) tokB) bodyR) fun p=>{ p.2 with tok:=p.1 }
def reqS (b:Byt):Nat×Bool→ReM×(Nat×Bool):=z25 (seqSt (z0M (runR (textR 16) ⟨#[]⟩ b) tokB) (bodyS b)) fun p=>{ p.2 with tok:=p.1 }
theorem zfp:EndsR reqR:=z1s (z1X (z4C (z0T 16) tokB) zdy) _
theorem zdD (b:Byt):StepsR b reqR (reqS b):=z15 (z0G (z18 (z0q b (textR 16) _) tokB) (zbL b) (z4C (z0T 16) tokB)) _
theorem z4j (b:Byt) (hb:b.length≤50000):Ans Tryz.prog 43 [.sl 1 (byv b)] σ (z0N (wholeO (reqR b))) σ:=by
 rw[z8Z (zdD b) zfp];have hS:reqS b (0,false)=({ (bodyS b (took (runR (textR 16) ⟨#[]⟩ b (0,false)).2 0 (tokB (runR (textR 16) ⟨#[]⟩ b (0,false)).1))).1 with tok:=(runR (textR 16) ⟨#[]⟩ b (0,false)).1 },(bodyS b (took (runR (textR 16) ⟨#[]⟩ b (0,false)).2 0 (tokB (runR (textR 16) ⟨#[]⟩ b (0,false)).1))).2):=rfl
 rw[hS];have k1:=z3w (σ++[B19,rob b (0,false)]) (σ.length+1) b (0,false) 16 (by decide) (g1 _ _ _ _) (Inb0 b) hb
 rw[s1]at k1;have i1:=z0l (textR 16) ⟨#[]⟩ b (0,false) (Inb0 b);generalize runR (textR 16) ⟨#[]⟩ b (0,false)=w at k1 i1⊢;obtain⟨s,q1⟩:=w;simp only at k1 i1⊢;have k2:=z2L (σ++[B19,rob b q1]) s;have k3:=z0a (σ++[B19,rob b q1]) (σ.length+1) b q1 (tokB s) (g1 _ _ _ _) i1 hb;rw[s1]at k3;have i2:=z1n b q1 (tokB s) i1;generalize took q1 0 (tokB s)=q2 at k3 i2⊢;have h1:=zfo (fun q=>σ++[B19,rob b q]) (σ.length+2) (σ.length+1) b (fun q=>by simp) (fun q=>g1 _ _ _ _) (fun q q'=>s1 _ _ _ _ _) hb q2 i2
 generalize bodyS b q2=w at h1⊢;obtain⟨x,q⟩:=w;simp only at h1⊢;have h2:=zdC (σ++[B19,rob b q,.box (reC { x with tok:=s })]) (σ.length+1) b q { x with tok:=s } (g1 _ _ _ _)
 unfold fitQ at h2;generalize (if(!q.2&&decide (q.1=b.length))=true then some ({ x with tok:=s }:ReM) else none)=o at h2⊢
 have hbo:=zbM σ.length o
 have key:∃(y:ReM) (c:Bool),z0N o=.tup [reV y,Bo c]:=by
  unfold z0N
  cases o with
  |none=>exact⟨_,_,rfl⟩
  |some y=>exact⟨_,_,rfl⟩
 obtain⟨y,c,hy⟩:=key;rw[hy]at h2 hbo⊢;refine Ans.of_run' t43 (fun hbel _=>?_)
 unfold reV reC at *;simp only at h2;simp -implicitDefEqProofs only[c43,r43,go_sem];refine CO.intro (z6a _ b) ?_;simp -implicitDefEqProofs only[go_sem,List.append_assoc,List.length_append];refine CO.intro k1 ?_;simp -implicitDefEqProofs only[go_sem];refine CO.intro k2 ?_;simp -implicitDefEqProofs only[go_sem];refine CO.intro k3 ?_;simp -implicitDefEqProofs only[go_sem];refine CO.intro h1 ?_;simp -implicitDefEqProofs only[go_sem,List.append_assoc,List.length_append,List.cons_append,List.nil_append,g0,g1,g2,s0,s1,s2];refine CO.intro h2 ?_;simp -implicitDefEqProofs only[go_sem,g0,s0];exact tr_ (σ':=σ) (ex:=[_,_,_]) rfl hbo hbel
end
section
variable (σ:St)
set_option maxHeartbeats 4000000 in
theorem act_1 (a:AcM) (e:opA a=1):Ans Tryz.prog 41 [acV a] σ (reV (z07 a)) σ:=by
 have h1:=fun s=>z0j s a.who 0 6 (by decide) (by decide) (by decide)
 have h2:=fun s=>z0E s (inD a.who 0 6)
 have h3:∀s,Ans Tryz.prog 99 [I a.what,I 1,I 17] s (I 1) s:=fun s=>by
  have:=z0j s a.what 1 17 (by decide) (by decide) (by decide)
  have e:inD a.what 1 17=1:=e;rw[e]at this;exact this
 have hD:z07 a=baseR a:=by
  unfold z07;simp[e]
 rw[hD];unfold baseR;rw[e];generalize tokOf (inD a.who 0 6)=tk at h2⊢;generalize inD a.who 0 6=w at h1 h2;refine Ans.subR (r:=.agg [Sx tk,I 1,I 0,Sx ⟨#[]⟩,UN 0,UN 0,I 0,.nils,Bo false,Fl 0,Fl 0,.nils,.nils,Bo false,Fl 0,Fl 0,.nils,.nils,Fl 0]) ?_ (.agg (.cons (.refl _) <| .cons (.refl _) <| .cons (.refl _) <| .cons (.refl _) <| .cons (.refl _) <| .cons (.refl _) <| .cons (.refl _) <| .cons (.nils 3) <| .cons (.refl _) <| .cons (.refl _) <| .cons (.refl _) <| .cons (.nils 3) <| .cons (.nils 3) <| .cons (.refl _) <| .cons (.refl _) <| .cons (.refl _) <| .cons (.nils 1) <| .cons (.nils 2) <| .cons (.refl _) <| .nil))
 have hbl:Bel σ.length (.agg [Sx tk,I 1,I 0,Sx ⟨#[]⟩,UN 0,UN 0,I 0,.nils,Bo false,Fl 0,Fl 0,.nils,.nils,Bo false,Fl 0,Fl 0,.nils,.nils,Fl 0]):=.agg _ (fun i hi=>by
  have:∀y∈([Sx tk,I 1,I 0,Sx ⟨#[]⟩,UN 0,UN 0,I 0,.nils,Bo false,Fl 0,Fl 0,.nils,.nils,Bo false,Fl 0,Fl 0,.nils,.nils,Fl 0]:List AV),Bel σ.length y:=by
   intro y hy;simp only[List.mem_cons,List.not_mem_nil,or_false]at hy;rcases hy with rfl|rfl|rfl|rfl|rfl|rfl|rfl|rfl|rfl|rfl|rfl|rfl|rfl|rfl|rfl|rfl|rfl|rfl|rfl
   all_goals first|exact .pl _|exact .nils|exact z09 _ _|exact z0u _ _|exact z0g _ _
  exact this _ (List.getElem_mem hi))
 refine Ans.of_run' t41 (fun hbel _=>?_)
 unfold acV acC;simp -implicitDefEqProofs only[c41,r41,go_sem,z00];refine CS.intro h1 ?_;simp -implicitDefEqProofs only[go_sem,z00];refine CS.intro h2 ?_;simp -implicitDefEqProofs only[go_sem,z00];refine CS.intro h3 ?_;simp -implicitDefEqProofs only[go_sem,z00,List.append_assoc,List.length_append,g0,g1,s0,s1];exact tr_ (σ':=σ) (ex:=[_,_]) rfl hbl hbel
set_option maxHeartbeats 4000000 in
theorem act_2 (a:AcM) (e:opA a=2):Ans Tryz.prog 41 [acV a] σ (reV (z07 a)) σ:=by
 have h1:=fun s=>z0j s a.who 0 6 (by decide) (by decide) (by decide)
 have h2:=fun s=>z0E s (inD a.who 0 6)
 have h3:∀s,Ans Tryz.prog 99 [I a.what,I 1,I 17] s (I 2) s:=fun s=>by
  have:=z0j s a.what 1 17 (by decide) (by decide) (by decide)
  have e:inD a.what 1 17=2:=e;rw[e]at this;exact this
 have hD:z07 a={ baseR a with id:=inD a.id 0 20 }:=by
  unfold z07;simp[e]
 rw[hD];unfold baseR;rw[e];generalize tokOf (inD a.who 0 6)=tk at h2⊢;generalize inD a.who 0 6=w at h1 h2;have k1:=fun s=>z0j s a.id 0 20 (by decide) (by decide) (by decide)
 generalize inD a.id 0 20=v1 at k1⊢;refine Ans.subR (r:=.agg [Sx tk,I 2,I v1,Sx ⟨#[]⟩,UN 0,UN 0,I 0,.nils,Bo false,Fl 0,Fl 0,.nils,.nils,Bo false,Fl 0,Fl 0,.nils,.nils,Fl 0]) ?_ (.agg (.cons (.refl _) <| .cons (.refl _) <| .cons (.refl _) <| .cons (.refl _) <| .cons (.refl _) <| .cons (.refl _) <| .cons (.refl _) <| .cons (.nils 3) <| .cons (.refl _) <| .cons (.refl _) <| .cons (.refl _) <| .cons (.nils 3) <| .cons (.nils 3) <| .cons (.refl _) <| .cons (.refl _) <| .cons (.refl _) <| .cons (.nils 1) <| .cons (.nils 2) <| .cons (.refl _) <| .nil))
 have hbl:Bel σ.length (.agg [Sx tk,I 2,I v1,Sx ⟨#[]⟩,UN 0,UN 0,I 0,.nils,Bo false,Fl 0,Fl 0,.nils,.nils,Bo false,Fl 0,Fl 0,.nils,.nils,Fl 0]):=.agg _ (fun i hi=>by
  have:∀y∈([Sx tk,I 2,I v1,Sx ⟨#[]⟩,UN 0,UN 0,I 0,.nils,Bo false,Fl 0,Fl 0,.nils,.nils,Bo false,Fl 0,Fl 0,.nils,.nils,Fl 0]:List AV),Bel σ.length y:=by
   intro y hy;simp only[List.mem_cons,List.not_mem_nil,or_false]at hy;rcases hy with rfl|rfl|rfl|rfl|rfl|rfl|rfl|rfl|rfl|rfl|rfl|rfl|rfl|rfl|rfl|rfl|rfl|rfl|rfl
   all_goals first|exact .pl _|exact .nils|exact z09 _ _|exact z0u _ _|exact z0g _ _
  exact this _ (List.getElem_mem hi))
 refine Ans.of_run' t41 (fun hbel _=>?_)
 unfold acV acC;simp -implicitDefEqProofs only[c41,r41,go_sem,z00];refine CS.intro h1 ?_;simp -implicitDefEqProofs only[go_sem,z00];refine CS.intro h2 ?_;simp -implicitDefEqProofs only[go_sem,z00];refine CS.intro h3 ?_;simp -implicitDefEqProofs only[go_sem,z00,List.append_assoc,List.length_append,g0,g1,s0,s1];refine CO.intro (k1 _) ?_;simp -implicitDefEqProofs only[go_sem,g0,g1,s0,s1];exact tr_ (σ':=σ) (ex:=[_,_]) rfl hbl hbel
set_option maxHeartbeats 4000000 in
theorem act_3 (a:AcM) (e:opA a=3):Ans Tryz.prog 41 [acV a] σ (reV (z07 a)) σ:=by
 have h1:=fun s=>z0j s a.who 0 6 (by decide) (by decide) (by decide)
 have h2:=fun s=>z0E s (inD a.who 0 6)
 have h3:∀s,Ans Tryz.prog 99 [I a.what,I 1,I 17] s (I 3) s:=fun s=>by
  have:=z0j s a.what 1 17 (by decide) (by decide) (by decide)
  have e:inD a.what 1 17=3:=e;rw[e]at this;exact this
 have hD:z07 a={ baseR a with id:=inD a.id 0 7,txt:=tokOf (emodW a.sta 0 6) }:=by
  unfold z07;simp[e]
 rw[hD];unfold baseR;rw[e];generalize tokOf (inD a.who 0 6)=tk at h2⊢;generalize inD a.who 0 6=w at h1 h2;have k1:=fun s=>z0j s a.id 0 7 (by decide) (by decide) (by decide)
 have k2:=fun s=>z3d s a.sta 0 6 (by decide) (by decide) (by decide)
 have k3:=fun s=>z0E s (emodW a.sta 0 6)
 generalize inD a.id 0 7=v1 at k1⊢;generalize tokOf (emodW a.sta 0 6)=v2 at k3⊢;generalize emodW a.sta 0 6=v3 at k2 k3;refine Ans.subR (r:=.agg [Sx tk,I 3,I v1,Sx v2,UN 0,UN 0,I 0,.nils,Bo false,Fl 0,Fl 0,.nils,.nils,Bo false,Fl 0,Fl 0,.nils,.nils,Fl 0]) ?_ (.agg (.cons (.refl _) <| .cons (.refl _) <| .cons (.refl _) <| .cons (.refl _) <| .cons (.refl _) <| .cons (.refl _) <| .cons (.refl _) <| .cons (.nils 3) <| .cons (.refl _) <| .cons (.refl _) <| .cons (.refl _) <| .cons (.nils 3) <| .cons (.nils 3) <| .cons (.refl _) <| .cons (.refl _) <| .cons (.refl _) <| .cons (.nils 1) <| .cons (.nils 2) <| .cons (.refl _) <| .nil))
 have hbl:Bel σ.length (.agg [Sx tk,I 3,I v1,Sx v2,UN 0,UN 0,I 0,.nils,Bo false,Fl 0,Fl 0,.nils,.nils,Bo false,Fl 0,Fl 0,.nils,.nils,Fl 0]):=.agg _ (fun i hi=>by
  have:∀y∈([Sx tk,I 3,I v1,Sx v2,UN 0,UN 0,I 0,.nils,Bo false,Fl 0,Fl 0,.nils,.nils,Bo false,Fl 0,Fl 0,.nils,.nils,Fl 0]:List AV),Bel σ.length y:=by
   intro y hy;simp only[List.mem_cons,List.not_mem_nil,or_false]at hy;rcases hy with rfl|rfl|rfl|rfl|rfl|rfl|rfl|rfl|rfl|rfl|rfl|rfl|rfl|rfl|rfl|rfl|rfl|rfl|rfl
   all_goals first|exact .pl _|exact .nils|exact z09 _ _|exact z0u _ _|exact z0g _ _
  exact this _ (List.getElem_mem hi))
 refine Ans.of_run' t41 (fun hbel _=>?_)
 unfold acV acC;simp -implicitDefEqProofs only[c41,r41,go_sem,z00];refine CS.intro h1 ?_;simp -implicitDefEqProofs only[go_sem,z00];refine CS.intro h2 ?_;simp -implicitDefEqProofs only[go_sem,z00];refine CS.intro h3 ?_;simp -implicitDefEqProofs only[go_sem,z00,List.append_assoc,List.length_append,g0,g1,s0,s1];refine CD.intro (k1 _) ?_;simp -implicitDefEqProofs only[go_sem,g0,g1,s0,s1];refine CD.intro (k2 _) ?_;simp -implicitDefEqProofs only[go_sem,g0,g1,s0,s1];refine CD.intro (k3 _) ?_;simp -implicitDefEqProofs only[go_sem,g0,g1,s0,s1];exact tr_ (σ':=σ) (ex:=[_,_]) rfl hbl hbel
set_option maxHeartbeats 4000000 in
theorem act_4 (a:AcM) (e:opA a=4):Ans Tryz.prog 41 [acV a] σ (reV (z07 a)) σ:=by
 have h1:=fun s=>z0j s a.who 0 6 (by decide) (by decide) (by decide)
 have h2:=fun s=>z0E s (inD a.who 0 6)
 have h3:∀s,Ans Tryz.prog 99 [I a.what,I 1,I 17] s (I 4) s:=fun s=>by
  have:=z0j s a.what 1 17 (by decide) (by decide) (by decide)
  have e:inD a.what 1 17=4:=e;rw[e]at this;exact this
 have hD:z07 a={ baseR a with id:=inD a.id 0 7,txt:=tokOf (emodW a.sta 0 6) }:=by
  unfold z07;simp[e]
 rw[hD];unfold baseR;rw[e];generalize tokOf (inD a.who 0 6)=tk at h2⊢;generalize inD a.who 0 6=w at h1 h2;have k1:=fun s=>z0j s a.id 0 7 (by decide) (by decide) (by decide)
 have k2:=fun s=>z3d s a.sta 0 6 (by decide) (by decide) (by decide)
 have k3:=fun s=>z0E s (emodW a.sta 0 6)
 generalize inD a.id 0 7=v1 at k1⊢;generalize tokOf (emodW a.sta 0 6)=v2 at k3⊢;generalize emodW a.sta 0 6=v3 at k2 k3;refine Ans.subR (r:=.agg [Sx tk,I 4,I v1,Sx v2,UN 0,UN 0,I 0,.nils,Bo false,Fl 0,Fl 0,.nils,.nils,Bo false,Fl 0,Fl 0,.nils,.nils,Fl 0]) ?_ (.agg (.cons (.refl _) <| .cons (.refl _) <| .cons (.refl _) <| .cons (.refl _) <| .cons (.refl _) <| .cons (.refl _) <| .cons (.refl _) <| .cons (.nils 3) <| .cons (.refl _) <| .cons (.refl _) <| .cons (.refl _) <| .cons (.nils 3) <| .cons (.nils 3) <| .cons (.refl _) <| .cons (.refl _) <| .cons (.refl _) <| .cons (.nils 1) <| .cons (.nils 2) <| .cons (.refl _) <| .nil))
 have hbl:Bel σ.length (.agg [Sx tk,I 4,I v1,Sx v2,UN 0,UN 0,I 0,.nils,Bo false,Fl 0,Fl 0,.nils,.nils,Bo false,Fl 0,Fl 0,.nils,.nils,Fl 0]):=.agg _ (fun i hi=>by
  have:∀y∈([Sx tk,I 4,I v1,Sx v2,UN 0,UN 0,I 0,.nils,Bo false,Fl 0,Fl 0,.nils,.nils,Bo false,Fl 0,Fl 0,.nils,.nils,Fl 0]:List AV),Bel σ.length y:=by
   intro y hy;simp only[List.mem_cons,List.not_mem_nil,or_false]at hy;rcases hy with rfl|rfl|rfl|rfl|rfl|rfl|rfl|rfl|rfl|rfl|rfl|rfl|rfl|rfl|rfl|rfl|rfl|rfl|rfl
   all_goals first|exact .pl _|exact .nils|exact z09 _ _|exact z0u _ _|exact z0g _ _
  exact this _ (List.getElem_mem hi))
 refine Ans.of_run' t41 (fun hbel _=>?_)
 unfold acV acC;simp -implicitDefEqProofs only[c41,r41,go_sem,z00];refine CS.intro h1 ?_;simp -implicitDefEqProofs only[go_sem,z00];refine CS.intro h2 ?_;simp -implicitDefEqProofs only[go_sem,z00];refine CS.intro h3 ?_;simp -implicitDefEqProofs only[go_sem,z00,List.append_assoc,List.length_append,g0,g1,s0,s1];refine CD.intro (k1 _) ?_;simp -implicitDefEqProofs only[go_sem,g0,g1,s0,s1];refine CD.intro (k2 _) ?_;simp -implicitDefEqProofs only[go_sem,g0,g1,s0,s1];refine CD.intro (k3 _) ?_;simp -implicitDefEqProofs only[go_sem,g0,g1,s0,s1];exact tr_ (σ':=σ) (ex:=[_,_]) rfl hbl hbel
end
section
variable (σ:St)
set_option maxHeartbeats 4000000 in
theorem act_5 (a:AcM) (e:opA a=5):Ans Tryz.prog 41 [acV a] σ (reV (z07 a)) σ:=by
 have h1:=fun s=>z0j s a.who 0 6 (by decide) (by decide) (by decide)
 have h2:=fun s=>z0E s (inD a.who 0 6)
 have h3:∀s,Ans Tryz.prog 99 [I a.what,I 1,I 17] s (I 5) s:=fun s=>by
  have:=z0j s a.what 1 17 (by decide) (by decide) (by decide)
  have e:inD a.what 1 17=5:=e;rw[e]at this;exact this
 have hD:z07 a=silR a (baseR a):=by
  unfold z07;simp[e]
 rw[hD];unfold baseR silR;rw[e];generalize tokOf (inD a.who 0 6)=tk at h2⊢;generalize inD a.who 0 6=w at h1 h2;have k4:∀s,Ans Tryz.prog 79 [.sl 3 (a.ds.map dv),Bo true] s (.sl 3 (mvs3 (mustL true (z0w a.ds [])))) s:=fun s=>z3O s true a.ds a.hd
 have k5:=fun s=>z7A s a.sel a.lo a.hi
 unfold z4Z;generalize mustL true (z0w a.ds [])=M at k4⊢;generalize z0H a.sel a.lo a.hi=bd at k5⊢;obtain⟨ba,bl,bh⟩:=bd;unfold bandV at k5;simp only at k5⊢;have hz1:((a.st:Int)).tmod 60=((a.st%60:Nat):Int):=rfl;have hz2:((a.en:Int)).tmod 90=((a.en%90:Nat):Int):=rfl;refine Ans.subR (r:=.agg [Sx tk,I 5,I 0,Sx ⟨#[]⟩,UN (a.st%60),UN (a.en%90),I 0,mlV M,Bo ba,Fl bl,Fl bh,.nils,.nils,Bo false,Fl 0,Fl 0,.nils,.nils,Fl 0]) ?_ (.agg (.cons (.refl _) <| .cons (.refl _) <| .cons (.refl _) <| .cons (.refl _) <| .cons (.refl _) <| .cons (.refl _) <| .cons (.refl _) <| .cons (.refl _) <| .cons (.refl _) <| .cons (.refl _) <| .cons (.refl _) <| .cons (.nils 3) <| .cons (.nils 3) <| .cons (.refl _) <| .cons (.refl _) <| .cons (.refl _) <| .cons (.nils 1) <| .cons (.nils 2) <| .cons (.refl _) <| .nil))
 have hbl:Bel σ.length (.agg [Sx tk,I 5,I 0,Sx ⟨#[]⟩,UN (a.st%60),UN (a.en%90),I 0,mlV M,Bo ba,Fl bl,Fl bh,.nils,.nils,Bo false,Fl 0,Fl 0,.nils,.nils,Fl 0]):=.agg _ (fun i hi=>by
  have:∀y∈([Sx tk,I 5,I 0,Sx ⟨#[]⟩,UN (a.st%60),UN (a.en%90),I 0,mlV M,Bo ba,Fl bl,Fl bh,.nils,.nils,Bo false,Fl 0,Fl 0,.nils,.nils,Fl 0]:List AV),Bel σ.length y:=by
   intro y hy;simp only[List.mem_cons,List.not_mem_nil,or_false]at hy;rcases hy with rfl|rfl|rfl|rfl|rfl|rfl|rfl|rfl|rfl|rfl|rfl|rfl|rfl|rfl|rfl|rfl|rfl|rfl|rfl
   all_goals first|exact .pl _|exact .nils|exact z09 _ _|exact z0u _ _|exact z0g _ _
  exact this _ (List.getElem_mem hi))
 refine Ans.of_run' t41 (fun hbel _=>?_)
 unfold acV acC;simp -implicitDefEqProofs only[c41,r41,go_sem,z00];refine CS.intro h1 ?_;simp -implicitDefEqProofs only[go_sem,z00];refine CS.intro h2 ?_;simp -implicitDefEqProofs only[go_sem,z00];refine CS.intro h3 ?_;simp -implicitDefEqProofs only[go_sem,z00,List.append_assoc,List.length_append,g0,g1,s0,s1,hz1,hz2];refine CD.intro (k4 _) ?_;simp -implicitDefEqProofs only[go_sem,g0,g1,s0,s1,hz1,hz2];refine CD.intro (k5 _) ?_;simp -implicitDefEqProofs only[go_sem,g0,g1,s0,s1,hz1,hz2];exact tr_ (σ':=σ) (ex:=[_,_]) rfl hbl hbel
set_option maxHeartbeats 4000000 in
theorem act_6 (a:AcM) (e:opA a=6):Ans Tryz.prog 41 [acV a] σ (reV (z07 a)) σ:=by
 have h1:=fun s=>z0j s a.who 0 6 (by decide) (by decide) (by decide)
 have h2:=fun s=>z0E s (inD a.who 0 6)
 have h3:∀s,Ans Tryz.prog 99 [I a.what,I 1,I 17] s (I 6) s:=fun s=>by
  have:=z0j s a.what 1 17 (by decide) (by decide) (by decide)
  have e:inD a.what 1 17=6:=e;rw[e]at this;exact this
 have hD:z07 a=silR a { baseR a with id:=inD a.id 0 13 }:=by
  unfold z07;simp[e]
 rw[hD];unfold baseR silR;rw[e];generalize tokOf (inD a.who 0 6)=tk at h2⊢;generalize inD a.who 0 6=w at h1 h2;have k1:=fun s=>z0j s a.id 0 13 (by decide) (by decide) (by decide)
 generalize inD a.id 0 13=v1 at k1⊢;have k4:∀s,Ans Tryz.prog 79 [.sl 3 (a.ds.map dv),Bo true] s (.sl 3 (mvs3 (mustL true (z0w a.ds [])))) s:=fun s=>z3O s true a.ds a.hd
 have k5:=fun s=>z7A s a.sel a.lo a.hi
 unfold z4Z;generalize mustL true (z0w a.ds [])=M at k4⊢;generalize z0H a.sel a.lo a.hi=bd at k5⊢;obtain⟨ba,bl,bh⟩:=bd;unfold bandV at k5;simp only at k5⊢;have hz1:((a.st:Int)).tmod 60=((a.st%60:Nat):Int):=rfl;have hz2:((a.en:Int)).tmod 90=((a.en%90:Nat):Int):=rfl;refine Ans.subR (r:=.agg [Sx tk,I 6,I v1,Sx ⟨#[]⟩,UN (a.st%60),UN (a.en%90),I 0,mlV M,Bo ba,Fl bl,Fl bh,.nils,.nils,Bo false,Fl 0,Fl 0,.nils,.nils,Fl 0]) ?_ (.agg (.cons (.refl _) <| .cons (.refl _) <| .cons (.refl _) <| .cons (.refl _) <| .cons (.refl _) <| .cons (.refl _) <| .cons (.refl _) <| .cons (.refl _) <| .cons (.refl _) <| .cons (.refl _) <| .cons (.refl _) <| .cons (.nils 3) <| .cons (.nils 3) <| .cons (.refl _) <| .cons (.refl _) <| .cons (.refl _) <| .cons (.nils 1) <| .cons (.nils 2) <| .cons (.refl _) <| .nil))
 have hbl:Bel σ.length (.agg [Sx tk,I 6,I v1,Sx ⟨#[]⟩,UN (a.st%60),UN (a.en%90),I 0,mlV M,Bo ba,Fl bl,Fl bh,.nils,.nils,Bo false,Fl 0,Fl 0,.nils,.nils,Fl 0]):=.agg _ (fun i hi=>by
  have:∀y∈([Sx tk,I 6,I v1,Sx ⟨#[]⟩,UN (a.st%60),UN (a.en%90),I 0,mlV M,Bo ba,Fl bl,Fl bh,.nils,.nils,Bo false,Fl 0,Fl 0,.nils,.nils,Fl 0]:List AV),Bel σ.length y:=by
   intro y hy;simp only[List.mem_cons,List.not_mem_nil,or_false]at hy;rcases hy with rfl|rfl|rfl|rfl|rfl|rfl|rfl|rfl|rfl|rfl|rfl|rfl|rfl|rfl|rfl|rfl|rfl|rfl|rfl
   all_goals first|exact .pl _|exact .nils|exact z09 _ _|exact z0u _ _|exact z0g _ _
  exact this _ (List.getElem_mem hi))
 refine Ans.of_run' t41 (fun hbel _=>?_)
 unfold acV acC;simp -implicitDefEqProofs only[c41,r41,go_sem,z00];refine CS.intro h1 ?_;simp -implicitDefEqProofs only[go_sem,z00];refine CS.intro h2 ?_;simp -implicitDefEqProofs only[go_sem,z00];refine CS.intro h3 ?_;simp -implicitDefEqProofs only[go_sem,z00,List.append_assoc,List.length_append,g0,g1,s0,s1,hz1,hz2];refine CO.intro (k1 _) ?_;simp -implicitDefEqProofs only[go_sem,g0,g1,s0,s1,hz1,hz2];refine CD.intro (k4 _) ?_;simp -implicitDefEqProofs only[go_sem,g0,g1,s0,s1,hz1,hz2];refine CD.intro (k5 _) ?_;simp -implicitDefEqProofs only[go_sem,g0,g1,s0,s1,hz1,hz2];exact tr_ (σ':=σ) (ex:=[_,_]) rfl hbl hbel
set_option maxHeartbeats 4000000 in
theorem act_7 (a:AcM) (e:opA a=7):Ans Tryz.prog 41 [acV a] σ (reV (z07 a)) σ:=by
 have h1:=fun s=>z0j s a.who 0 6 (by decide) (by decide) (by decide)
 have h2:=fun s=>z0E s (inD a.who 0 6)
 have h3:∀s,Ans Tryz.prog 99 [I a.what,I 1,I 17] s (I 7) s:=fun s=>by
  have:=z0j s a.what 1 17 (by decide) (by decide) (by decide)
  have e:inD a.what 1 17=7:=e;rw[e]at this;exact this
 have hD:z07 a={ baseR a with id:=inD a.id 0 20 }:=by
  unfold z07;simp[e]
 rw[hD];unfold baseR;rw[e];generalize tokOf (inD a.who 0 6)=tk at h2⊢;generalize inD a.who 0 6=w at h1 h2;have k1:=fun s=>z0j s a.id 0 20 (by decide) (by decide) (by decide)
 generalize inD a.id 0 20=v1 at k1⊢;refine Ans.subR (r:=.agg [Sx tk,I 7,I v1,Sx ⟨#[]⟩,UN 0,UN 0,I 0,.nils,Bo false,Fl 0,Fl 0,.nils,.nils,Bo false,Fl 0,Fl 0,.nils,.nils,Fl 0]) ?_ (.agg (.cons (.refl _) <| .cons (.refl _) <| .cons (.refl _) <| .cons (.refl _) <| .cons (.refl _) <| .cons (.refl _) <| .cons (.refl _) <| .cons (.nils 3) <| .cons (.refl _) <| .cons (.refl _) <| .cons (.refl _) <| .cons (.nils 3) <| .cons (.nils 3) <| .cons (.refl _) <| .cons (.refl _) <| .cons (.refl _) <| .cons (.nils 1) <| .cons (.nils 2) <| .cons (.refl _) <| .nil))
 have hbl:Bel σ.length (.agg [Sx tk,I 7,I v1,Sx ⟨#[]⟩,UN 0,UN 0,I 0,.nils,Bo false,Fl 0,Fl 0,.nils,.nils,Bo false,Fl 0,Fl 0,.nils,.nils,Fl 0]):=.agg _ (fun i hi=>by
  have:∀y∈([Sx tk,I 7,I v1,Sx ⟨#[]⟩,UN 0,UN 0,I 0,.nils,Bo false,Fl 0,Fl 0,.nils,.nils,Bo false,Fl 0,Fl 0,.nils,.nils,Fl 0]:List AV),Bel σ.length y:=by
   intro y hy;simp only[List.mem_cons,List.not_mem_nil,or_false]at hy;rcases hy with rfl|rfl|rfl|rfl|rfl|rfl|rfl|rfl|rfl|rfl|rfl|rfl|rfl|rfl|rfl|rfl|rfl|rfl|rfl
   all_goals first|exact .pl _|exact .nils|exact z09 _ _|exact z0u _ _|exact z0g _ _
  exact this _ (List.getElem_mem hi))
 refine Ans.of_run' t41 (fun hbel _=>?_)
 unfold acV acC;simp -implicitDefEqProofs only[c41,r41,go_sem,z00];refine CS.intro h1 ?_;simp -implicitDefEqProofs only[go_sem,z00];refine CS.intro h2 ?_;simp -implicitDefEqProofs only[go_sem,z00];refine CS.intro h3 ?_;simp -implicitDefEqProofs only[go_sem,z00,List.append_assoc,List.length_append,g0,g1,s0,s1];refine CO.intro (k1 _) ?_;simp -implicitDefEqProofs only[go_sem,g0,g1,s0,s1];exact tr_ (σ':=σ) (ex:=[_,_]) rfl hbl hbel
set_option maxHeartbeats 4000000 in
theorem act_8 (a:AcM) (e:opA a=8):Ans Tryz.prog 41 [acV a] σ (reV (z07 a)) σ:=by
 have h1:=fun s=>z0j s a.who 0 6 (by decide) (by decide) (by decide)
 have h2:=fun s=>z0E s (inD a.who 0 6)
 have h3:∀s,Ans Tryz.prog 99 [I a.what,I 1,I 17] s (I 8) s:=fun s=>by
  have:=z0j s a.what 1 17 (by decide) (by decide) (by decide)
  have e:inD a.what 1 17=8:=e;rw[e]at this;exact this
 have hD:z07 a={ baseR a with sta:=inD a.sta 0 3 }:=by
  unfold z07;simp[e]
 rw[hD];unfold baseR;rw[e];generalize tokOf (inD a.who 0 6)=tk at h2⊢;generalize inD a.who 0 6=w at h1 h2;have k1:=fun s=>z0j s a.sta 0 3 (by decide) (by decide) (by decide)
 generalize inD a.sta 0 3=v1 at k1⊢;refine Ans.subR (r:=.agg [Sx tk,I 8,I 0,Sx ⟨#[]⟩,UN 0,UN 0,I v1,.nils,Bo false,Fl 0,Fl 0,.nils,.nils,Bo false,Fl 0,Fl 0,.nils,.nils,Fl 0]) ?_ (.agg (.cons (.refl _) <| .cons (.refl _) <| .cons (.refl _) <| .cons (.refl _) <| .cons (.refl _) <| .cons (.refl _) <| .cons (.refl _) <| .cons (.nils 3) <| .cons (.refl _) <| .cons (.refl _) <| .cons (.refl _) <| .cons (.nils 3) <| .cons (.nils 3) <| .cons (.refl _) <| .cons (.refl _) <| .cons (.refl _) <| .cons (.nils 1) <| .cons (.nils 2) <| .cons (.refl _) <| .nil))
 have hbl:Bel σ.length (.agg [Sx tk,I 8,I 0,Sx ⟨#[]⟩,UN 0,UN 0,I v1,.nils,Bo false,Fl 0,Fl 0,.nils,.nils,Bo false,Fl 0,Fl 0,.nils,.nils,Fl 0]):=.agg _ (fun i hi=>by
  have:∀y∈([Sx tk,I 8,I 0,Sx ⟨#[]⟩,UN 0,UN 0,I v1,.nils,Bo false,Fl 0,Fl 0,.nils,.nils,Bo false,Fl 0,Fl 0,.nils,.nils,Fl 0]:List AV),Bel σ.length y:=by
   intro y hy;simp only[List.mem_cons,List.not_mem_nil,or_false]at hy;rcases hy with rfl|rfl|rfl|rfl|rfl|rfl|rfl|rfl|rfl|rfl|rfl|rfl|rfl|rfl|rfl|rfl|rfl|rfl|rfl
   all_goals first|exact .pl _|exact .nils|exact z09 _ _|exact z0u _ _|exact z0g _ _
  exact this _ (List.getElem_mem hi))
 refine Ans.of_run' t41 (fun hbel _=>?_)
 unfold acV acC;simp -implicitDefEqProofs only[c41,r41,go_sem,z00];refine CS.intro h1 ?_;simp -implicitDefEqProofs only[go_sem,z00];refine CS.intro h2 ?_;simp -implicitDefEqProofs only[go_sem,z00];refine CS.intro h3 ?_;simp -implicitDefEqProofs only[go_sem,z00,List.append_assoc,List.length_append,g0,g1,s0,s1];refine CO.intro (k1 _) ?_;simp -implicitDefEqProofs only[go_sem,g0,g1,s0,s1];exact tr_ (σ':=σ) (ex:=[_,_]) rfl hbl hbel
end
section
variable (σ:St)
set_option maxHeartbeats 4000000 in
theorem act_9 (a:AcM) (e:opA a=9):Ans Tryz.prog 41 [acV a] σ (reV (z07 a)) σ:=by
 have h1:=fun s=>z0j s a.who 0 6 (by decide) (by decide) (by decide)
 have h2:=fun s=>z0E s (inD a.who 0 6)
 have h3:∀s,Ans Tryz.prog 99 [I a.what,I 1,I 17] s (I 9) s:=fun s=>by
  have:=z0j s a.what 1 17 (by decide) (by decide) (by decide)
  have e:inD a.what 1 17=9:=e;rw[e]at this;exact this
 have hD:z07 a={ baseR a with ru:=z38 a.ru }:=by
  unfold z07;simp[e]
 rw[hD];unfold baseR;rw[e];generalize tokOf (inD a.who 0 6)=tk at h2⊢;generalize inD a.who 0 6=w at h1 h2;have k1:=fun s=>zf7 s a.ru
 unfold duV duC at k1;generalize z38 a.ru=ru at k1⊢;obtain⟨rs,rt,ra,rl,rh,re⟩:=ru;unfold ruV at k1;simp only at k1⊢;refine Ans.subR (r:=.agg [Sx tk,I 9,I 0,Sx ⟨#[]⟩,UN 0,UN 0,I 0,.nils,Bo false,Fl 0,Fl 0,mlV rs,mlV rt,Bo ra,Fl rl,Fl rh,.sl 1 (txs re),.nils,Fl 0]) ?_ (.agg (.cons (.refl _) <| .cons (.refl _) <| .cons (.refl _) <| .cons (.refl _) <| .cons (.refl _) <| .cons (.refl _) <| .cons (.refl _) <| .cons (.nils 3) <| .cons (.refl _) <| .cons (.refl _) <| .cons (.refl _) <| .cons (.refl _) <| .cons (.refl _) <| .cons (.refl _) <| .cons (.refl _) <| .cons (.refl _) <| .cons (.refl _) <| .cons (.nils 2) <| .cons (.refl _) <| .nil))
 have hbl:Bel σ.length (.agg [Sx tk,I 9,I 0,Sx ⟨#[]⟩,UN 0,UN 0,I 0,.nils,Bo false,Fl 0,Fl 0,mlV rs,mlV rt,Bo ra,Fl rl,Fl rh,.sl 1 (txs re),.nils,Fl 0]):=.agg _ (fun i hi=>by
  have:∀y∈([Sx tk,I 9,I 0,Sx ⟨#[]⟩,UN 0,UN 0,I 0,.nils,Bo false,Fl 0,Fl 0,mlV rs,mlV rt,Bo ra,Fl rl,Fl rh,.sl 1 (txs re),.nils,Fl 0]:List AV),Bel σ.length y:=by
   intro y hy;simp only[List.mem_cons,List.not_mem_nil,or_false]at hy;rcases hy with rfl|rfl|rfl|rfl|rfl|rfl|rfl|rfl|rfl|rfl|rfl|rfl|rfl|rfl|rfl|rfl|rfl|rfl|rfl
   all_goals first|exact .pl _|exact .nils|exact z09 _ _|exact z0u _ _|exact z0g _ _
  exact this _ (List.getElem_mem hi))
 refine Ans.of_run' t41 (fun hbel _=>?_)
 unfold acV acC;simp -implicitDefEqProofs only[c41,r41,go_sem,z00];refine CS.intro h1 ?_;simp -implicitDefEqProofs only[go_sem,z00];refine CS.intro h2 ?_;simp -implicitDefEqProofs only[go_sem,z00];refine CS.intro h3 ?_;simp -implicitDefEqProofs only[go_sem,z00,List.append_assoc,List.length_append,g0,g1,s0,s1];refine CO.intro (k1 _) ?_;simp -implicitDefEqProofs only[go_sem,g0,g1,s0,s1];exact tr_ (σ':=σ) (ex:=[_,_]) rfl hbl hbel
set_option maxHeartbeats 4000000 in
theorem ziv (a:AcM) (e:opA a=10):Ans Tryz.prog 41 [acV a] σ (reV (z07 a)) σ:=by
 have h1:=fun s=>z0j s a.who 0 6 (by decide) (by decide) (by decide)
 have h2:=fun s=>z0E s (inD a.who 0 6)
 have h3:∀s,Ans Tryz.prog 99 [I a.what,I 1,I 17] s (I 10) s:=fun s=>by
  have:=z0j s a.what 1 17 (by decide) (by decide) (by decide)
  have e:inD a.what 1 17=10:=e;rw[e]at this;exact this
 have hD:z07 a={ baseR a with id:=inD a.id 0 20 }:=by
  unfold z07;simp[e]
 rw[hD];unfold baseR;rw[e];generalize tokOf (inD a.who 0 6)=tk at h2⊢;generalize inD a.who 0 6=w at h1 h2;have k1:=fun s=>z0j s a.id 0 20 (by decide) (by decide) (by decide)
 generalize inD a.id 0 20=v1 at k1⊢;refine Ans.subR (r:=.agg [Sx tk,I 10,I v1,Sx ⟨#[]⟩,UN 0,UN 0,I 0,.nils,Bo false,Fl 0,Fl 0,.nils,.nils,Bo false,Fl 0,Fl 0,.nils,.nils,Fl 0]) ?_ (.agg (.cons (.refl _) <| .cons (.refl _) <| .cons (.refl _) <| .cons (.refl _) <| .cons (.refl _) <| .cons (.refl _) <| .cons (.refl _) <| .cons (.nils 3) <| .cons (.refl _) <| .cons (.refl _) <| .cons (.refl _) <| .cons (.nils 3) <| .cons (.nils 3) <| .cons (.refl _) <| .cons (.refl _) <| .cons (.refl _) <| .cons (.nils 1) <| .cons (.nils 2) <| .cons (.refl _) <| .nil))
 have hbl:Bel σ.length (.agg [Sx tk,I 10,I v1,Sx ⟨#[]⟩,UN 0,UN 0,I 0,.nils,Bo false,Fl 0,Fl 0,.nils,.nils,Bo false,Fl 0,Fl 0,.nils,.nils,Fl 0]):=.agg _ (fun i hi=>by
  have:∀y∈([Sx tk,I 10,I v1,Sx ⟨#[]⟩,UN 0,UN 0,I 0,.nils,Bo false,Fl 0,Fl 0,.nils,.nils,Bo false,Fl 0,Fl 0,.nils,.nils,Fl 0]:List AV),Bel σ.length y:=by
   intro y hy;simp only[List.mem_cons,List.not_mem_nil,or_false]at hy;rcases hy with rfl|rfl|rfl|rfl|rfl|rfl|rfl|rfl|rfl|rfl|rfl|rfl|rfl|rfl|rfl|rfl|rfl|rfl|rfl
   all_goals first|exact .pl _|exact .nils|exact z09 _ _|exact z0u _ _|exact z0g _ _
  exact this _ (List.getElem_mem hi))
 refine Ans.of_run' t41 (fun hbel _=>?_)
 unfold acV acC;simp -implicitDefEqProofs only[c41,r41,go_sem,z00];refine CS.intro h1 ?_;simp -implicitDefEqProofs only[go_sem,z00];refine CS.intro h2 ?_;simp -implicitDefEqProofs only[go_sem,z00];refine CS.intro h3 ?_;simp -implicitDefEqProofs only[go_sem,z00,List.append_assoc,List.length_append,g0,g1,s0,s1];refine CO.intro (k1 _) ?_;simp -implicitDefEqProofs only[go_sem,g0,g1,s0,s1];exact tr_ (σ':=σ) (ex:=[_,_]) rfl hbl hbel
set_option maxHeartbeats 4000000 in
theorem ziw (a:AcM) (e:opA a=11):Ans Tryz.prog 41 [acV a] σ (reV (z07 a)) σ:=by
 have h1:=fun s=>z0j s a.who 0 6 (by decide) (by decide) (by decide)
 have h2:=fun s=>z0E s (inD a.who 0 6)
 have h3:∀s,Ans Tryz.prog 99 [I a.what,I 1,I 17] s (I 11) s:=fun s=>by
  have:=z0j s a.what 1 17 (by decide) (by decide) (by decide)
  have e:inD a.what 1 17=11:=e;rw[e]at this;exact this
 have hD:z07 a={ baseR a with ls:=z2s a.ns,val:=a.val }:=by
  unfold z07;simp[e]
 rw[hD];unfold baseR;rw[e];generalize tokOf (inD a.who 0 6)=tk at h2⊢;generalize inD a.who 0 6=w at h1 h2;have k1:=fun s=>zd7 s a.ns
 generalize z2s a.ns=ls at k1⊢;refine Ans.subR (r:=.agg [Sx tk,I 11,I 0,Sx ⟨#[]⟩,UN 0,UN 0,I 0,.nils,Bo false,Fl 0,Fl 0,.nils,.nils,Bo false,Fl 0,Fl 0,.nils,lsV ls,Fl a.val]) ?_ (.agg (.cons (.refl _) <| .cons (.refl _) <| .cons (.refl _) <| .cons (.refl _) <| .cons (.refl _) <| .cons (.refl _) <| .cons (.refl _) <| .cons (.nils 3) <| .cons (.refl _) <| .cons (.refl _) <| .cons (.refl _) <| .cons (.nils 3) <| .cons (.nils 3) <| .cons (.refl _) <| .cons (.refl _) <| .cons (.refl _) <| .cons (.nils 1) <| .cons (.refl _) <| .cons (.refl _) <| .nil))
 have hbl:Bel σ.length (.agg [Sx tk,I 11,I 0,Sx ⟨#[]⟩,UN 0,UN 0,I 0,.nils,Bo false,Fl 0,Fl 0,.nils,.nils,Bo false,Fl 0,Fl 0,.nils,lsV ls,Fl a.val]):=.agg _ (fun i hi=>by
  have:∀y∈([Sx tk,I 11,I 0,Sx ⟨#[]⟩,UN 0,UN 0,I 0,.nils,Bo false,Fl 0,Fl 0,.nils,.nils,Bo false,Fl 0,Fl 0,.nils,lsV ls,Fl a.val]:List AV),Bel σ.length y:=by
   intro y hy;simp only[List.mem_cons,List.not_mem_nil,or_false]at hy;rcases hy with rfl|rfl|rfl|rfl|rfl|rfl|rfl|rfl|rfl|rfl|rfl|rfl|rfl|rfl|rfl|rfl|rfl|rfl|rfl
   all_goals first|exact .pl _|exact .nils|exact z09 _ _|exact z0u _ _|exact z0g _ _
  exact this _ (List.getElem_mem hi))
 refine Ans.of_run' t41 (fun hbel _=>?_)
 unfold acV acC;simp -implicitDefEqProofs only[c41,r41,go_sem,z00];refine CS.intro h1 ?_;simp -implicitDefEqProofs only[go_sem,z00];refine CS.intro h2 ?_;simp -implicitDefEqProofs only[go_sem,z00];refine CS.intro h3 ?_;simp -implicitDefEqProofs only[go_sem,z00,List.append_assoc,List.length_append,g0,g1,s0,s1];refine CD.intro (k1 _) ?_;simp -implicitDefEqProofs only[go_sem,g0,g1,s0,s1];exact tr_ (σ':=σ) (ex:=[_,_]) rfl hbl hbel
set_option maxHeartbeats 4000000 in
theorem zix (a:AcM) (e:opA a=12):Ans Tryz.prog 41 [acV a] σ (reV (z07 a)) σ:=by
 have h1:=fun s=>z0j s a.who 0 6 (by decide) (by decide) (by decide)
 have h2:=fun s=>z0E s (inD a.who 0 6)
 have h3:∀s,Ans Tryz.prog 99 [I a.what,I 1,I 17] s (I 12) s:=fun s=>by
  have:=z0j s a.what 1 17 (by decide) (by decide) (by decide)
  have e:inD a.what 1 17=12:=e;rw[e]at this;exact this
 have hD:z07 a={ baseR a with id:=inD a.id 0 20 }:=by
  unfold z07;simp[e]
 rw[hD];unfold baseR;rw[e];generalize tokOf (inD a.who 0 6)=tk at h2⊢;generalize inD a.who 0 6=w at h1 h2;have k1:=fun s=>z0j s a.id 0 20 (by decide) (by decide) (by decide)
 generalize inD a.id 0 20=v1 at k1⊢;refine Ans.subR (r:=.agg [Sx tk,I 12,I v1,Sx ⟨#[]⟩,UN 0,UN 0,I 0,.nils,Bo false,Fl 0,Fl 0,.nils,.nils,Bo false,Fl 0,Fl 0,.nils,.nils,Fl 0]) ?_ (.agg (.cons (.refl _) <| .cons (.refl _) <| .cons (.refl _) <| .cons (.refl _) <| .cons (.refl _) <| .cons (.refl _) <| .cons (.refl _) <| .cons (.nils 3) <| .cons (.refl _) <| .cons (.refl _) <| .cons (.refl _) <| .cons (.nils 3) <| .cons (.nils 3) <| .cons (.refl _) <| .cons (.refl _) <| .cons (.refl _) <| .cons (.nils 1) <| .cons (.nils 2) <| .cons (.refl _) <| .nil))
 have hbl:Bel σ.length (.agg [Sx tk,I 12,I v1,Sx ⟨#[]⟩,UN 0,UN 0,I 0,.nils,Bo false,Fl 0,Fl 0,.nils,.nils,Bo false,Fl 0,Fl 0,.nils,.nils,Fl 0]):=.agg _ (fun i hi=>by
  have:∀y∈([Sx tk,I 12,I v1,Sx ⟨#[]⟩,UN 0,UN 0,I 0,.nils,Bo false,Fl 0,Fl 0,.nils,.nils,Bo false,Fl 0,Fl 0,.nils,.nils,Fl 0]:List AV),Bel σ.length y:=by
   intro y hy;simp only[List.mem_cons,List.not_mem_nil,or_false]at hy;rcases hy with rfl|rfl|rfl|rfl|rfl|rfl|rfl|rfl|rfl|rfl|rfl|rfl|rfl|rfl|rfl|rfl|rfl|rfl|rfl
   all_goals first|exact .pl _|exact .nils|exact z09 _ _|exact z0u _ _|exact z0g _ _
  exact this _ (List.getElem_mem hi))
 refine Ans.of_run' t41 (fun hbel _=>?_)
 unfold acV acC;simp -implicitDefEqProofs only[c41,r41,go_sem,z00];refine CS.intro h1 ?_;simp -implicitDefEqProofs only[go_sem,z00];refine CS.intro h2 ?_;simp -implicitDefEqProofs only[go_sem,z00];refine CS.intro h3 ?_;simp -implicitDefEqProofs only[go_sem,z00,List.append_assoc,List.length_append,g0,g1,s0,s1];refine CO.intro (k1 _) ?_;simp -implicitDefEqProofs only[go_sem,g0,g1,s0,s1];exact tr_ (σ':=σ) (ex:=[_,_]) rfl hbl hbel
set_option maxHeartbeats 4000000 in
theorem ziy (a:AcM) (e:opA a=13):Ans Tryz.prog 41 [acV a] σ (reV (z07 a)) σ:=by
 have h1:=fun s=>z0j s a.who 0 6 (by decide) (by decide) (by decide)
 have h2:=fun s=>z0E s (inD a.who 0 6)
 have h3:∀s,Ans Tryz.prog 99 [I a.what,I 1,I 17] s (I 13) s:=fun s=>by
  have:=z0j s a.what 1 17 (by decide) (by decide) (by decide)
  have e:inD a.what 1 17=13:=e;rw[e]at this;exact this
 have hD:z07 a={ baseR a with mt:=mustL false (z0w a.ds []) }:=by
  unfold z07;simp[e]
 rw[hD];unfold baseR;rw[e];generalize tokOf (inD a.who 0 6)=tk at h2⊢;generalize inD a.who 0 6=w at h1 h2;have k4:∀s,Ans Tryz.prog 79 [.sl 3 (a.ds.map dv),Bo false] s (.sl 3 (mvs3 (mustL false (z0w a.ds [])))) s:=fun s=>z3O s false a.ds a.hd
 generalize mustL false (z0w a.ds [])=M at k4⊢;refine Ans.subR (r:=.agg [Sx tk,I 13,I 0,Sx ⟨#[]⟩,UN 0,UN 0,I 0,mlV M,Bo false,Fl 0,Fl 0,.nils,.nils,Bo false,Fl 0,Fl 0,.nils,.nils,Fl 0]) ?_ (.agg (.cons (.refl _) <| .cons (.refl _) <| .cons (.refl _) <| .cons (.refl _) <| .cons (.refl _) <| .cons (.refl _) <| .cons (.refl _) <| .cons (.refl _) <| .cons (.refl _) <| .cons (.refl _) <| .cons (.refl _) <| .cons (.nils 3) <| .cons (.nils 3) <| .cons (.refl _) <| .cons (.refl _) <| .cons (.refl _) <| .cons (.nils 1) <| .cons (.nils 2) <| .cons (.refl _) <| .nil))
 have hbl:Bel σ.length (.agg [Sx tk,I 13,I 0,Sx ⟨#[]⟩,UN 0,UN 0,I 0,mlV M,Bo false,Fl 0,Fl 0,.nils,.nils,Bo false,Fl 0,Fl 0,.nils,.nils,Fl 0]):=.agg _ (fun i hi=>by
  have:∀y∈([Sx tk,I 13,I 0,Sx ⟨#[]⟩,UN 0,UN 0,I 0,mlV M,Bo false,Fl 0,Fl 0,.nils,.nils,Bo false,Fl 0,Fl 0,.nils,.nils,Fl 0]:List AV),Bel σ.length y:=by
   intro y hy;simp only[List.mem_cons,List.not_mem_nil,or_false]at hy;rcases hy with rfl|rfl|rfl|rfl|rfl|rfl|rfl|rfl|rfl|rfl|rfl|rfl|rfl|rfl|rfl|rfl|rfl|rfl|rfl
   all_goals first|exact .pl _|exact .nils|exact z09 _ _|exact z0u _ _|exact z0g _ _
  exact this _ (List.getElem_mem hi))
 refine Ans.of_run' t41 (fun hbel _=>?_)
 unfold acV acC;simp -implicitDefEqProofs only[c41,r41,go_sem,z00];refine CS.intro h1 ?_;simp -implicitDefEqProofs only[go_sem,z00];refine CS.intro h2 ?_;simp -implicitDefEqProofs only[go_sem,z00];refine CS.intro h3 ?_;simp -implicitDefEqProofs only[go_sem,z00,List.append_assoc,List.length_append,g0,g1,s0,s1];refine CO.intro (k4 _) ?_;simp -implicitDefEqProofs only[go_sem,g0,g1,s0,s1];exact tr_ (σ':=σ) (ex:=[_,_]) rfl hbl hbel
end
section
variable (σ:St)
set_option maxHeartbeats 4000000 in
theorem ziz (a:AcM) (e:opA a=14):Ans Tryz.prog 41 [acV a] σ (reV (z07 a)) σ:=by
 have h1:=fun s=>z0j s a.who 0 6 (by decide) (by decide) (by decide)
 have h2:=fun s=>z0E s (inD a.who 0 6)
 have h3:∀s,Ans Tryz.prog 99 [I a.what,I 1,I 17] s (I 14) s:=fun s=>by
  have:=z0j s a.what 1 17 (by decide) (by decide) (by decide)
  have e:inD a.what 1 17=14:=e;rw[e]at this;exact this
 have hD:z07 a=baseR a:=by
  unfold z07;simp[e]
 rw[hD];unfold baseR;rw[e];generalize tokOf (inD a.who 0 6)=tk at h2⊢;generalize inD a.who 0 6=w at h1 h2;refine Ans.subR (r:=.agg [Sx tk,I 14,I 0,Sx ⟨#[]⟩,UN 0,UN 0,I 0,.nils,Bo false,Fl 0,Fl 0,.nils,.nils,Bo false,Fl 0,Fl 0,.nils,.nils,Fl 0]) ?_ (.agg (.cons (.refl _) <| .cons (.refl _) <| .cons (.refl _) <| .cons (.refl _) <| .cons (.refl _) <| .cons (.refl _) <| .cons (.refl _) <| .cons (.nils 3) <| .cons (.refl _) <| .cons (.refl _) <| .cons (.refl _) <| .cons (.nils 3) <| .cons (.nils 3) <| .cons (.refl _) <| .cons (.refl _) <| .cons (.refl _) <| .cons (.nils 1) <| .cons (.nils 2) <| .cons (.refl _) <| .nil))
 have hbl:Bel σ.length (.agg [Sx tk,I 14,I 0,Sx ⟨#[]⟩,UN 0,UN 0,I 0,.nils,Bo false,Fl 0,Fl 0,.nils,.nils,Bo false,Fl 0,Fl 0,.nils,.nils,Fl 0]):=.agg _ (fun i hi=>by
  have:∀y∈([Sx tk,I 14,I 0,Sx ⟨#[]⟩,UN 0,UN 0,I 0,.nils,Bo false,Fl 0,Fl 0,.nils,.nils,Bo false,Fl 0,Fl 0,.nils,.nils,Fl 0]:List AV),Bel σ.length y:=by
   intro y hy;simp only[List.mem_cons,List.not_mem_nil,or_false]at hy;rcases hy with rfl|rfl|rfl|rfl|rfl|rfl|rfl|rfl|rfl|rfl|rfl|rfl|rfl|rfl|rfl|rfl|rfl|rfl|rfl
   all_goals first|exact .pl _|exact .nils|exact z09 _ _|exact z0u _ _|exact z0g _ _
  exact this _ (List.getElem_mem hi))
 refine Ans.of_run' t41 (fun hbel _=>?_)
 unfold acV acC;simp -implicitDefEqProofs only[c41,r41,go_sem,z00];refine CS.intro h1 ?_;simp -implicitDefEqProofs only[go_sem,z00];refine CS.intro h2 ?_;simp -implicitDefEqProofs only[go_sem,z00];refine CS.intro h3 ?_;simp -implicitDefEqProofs only[go_sem,z00,List.append_assoc,List.length_append,g0,g1,s0,s1];exact tr_ (σ':=σ) (ex:=[_,_]) rfl hbl hbel
set_option maxHeartbeats 4000000 in
theorem ziA (a:AcM) (e:opA a=15):Ans Tryz.prog 41 [acV a] σ (reV (z07 a)) σ:=by
 have h1:=fun s=>z0j s a.who 0 6 (by decide) (by decide) (by decide)
 have h2:=fun s=>z0E s (inD a.who 0 6)
 have h3:∀s,Ans Tryz.prog 99 [I a.what,I 1,I 17] s (I 15) s:=fun s=>by
  have:=z0j s a.what 1 17 (by decide) (by decide) (by decide)
  have e:inD a.what 1 17=15:=e;rw[e]at this;exact this
 have hD:z07 a={ baseR a with id:=inD a.id 0 20 }:=by
  unfold z07;simp[e]
 rw[hD];unfold baseR;rw[e];generalize tokOf (inD a.who 0 6)=tk at h2⊢;generalize inD a.who 0 6=w at h1 h2;have k1:=fun s=>z0j s a.id 0 20 (by decide) (by decide) (by decide)
 generalize inD a.id 0 20=v1 at k1⊢;refine Ans.subR (r:=.agg [Sx tk,I 15,I v1,Sx ⟨#[]⟩,UN 0,UN 0,I 0,.nils,Bo false,Fl 0,Fl 0,.nils,.nils,Bo false,Fl 0,Fl 0,.nils,.nils,Fl 0]) ?_ (.agg (.cons (.refl _) <| .cons (.refl _) <| .cons (.refl _) <| .cons (.refl _) <| .cons (.refl _) <| .cons (.refl _) <| .cons (.refl _) <| .cons (.nils 3) <| .cons (.refl _) <| .cons (.refl _) <| .cons (.refl _) <| .cons (.nils 3) <| .cons (.nils 3) <| .cons (.refl _) <| .cons (.refl _) <| .cons (.refl _) <| .cons (.nils 1) <| .cons (.nils 2) <| .cons (.refl _) <| .nil))
 have hbl:Bel σ.length (.agg [Sx tk,I 15,I v1,Sx ⟨#[]⟩,UN 0,UN 0,I 0,.nils,Bo false,Fl 0,Fl 0,.nils,.nils,Bo false,Fl 0,Fl 0,.nils,.nils,Fl 0]):=.agg _ (fun i hi=>by
  have:∀y∈([Sx tk,I 15,I v1,Sx ⟨#[]⟩,UN 0,UN 0,I 0,.nils,Bo false,Fl 0,Fl 0,.nils,.nils,Bo false,Fl 0,Fl 0,.nils,.nils,Fl 0]:List AV),Bel σ.length y:=by
   intro y hy;simp only[List.mem_cons,List.not_mem_nil,or_false]at hy;rcases hy with rfl|rfl|rfl|rfl|rfl|rfl|rfl|rfl|rfl|rfl|rfl|rfl|rfl|rfl|rfl|rfl|rfl|rfl|rfl
   all_goals first|exact .pl _|exact .nils|exact z09 _ _|exact z0u _ _|exact z0g _ _
  exact this _ (List.getElem_mem hi))
 refine Ans.of_run' t41 (fun hbel _=>?_)
 unfold acV acC;simp -implicitDefEqProofs only[c41,r41,go_sem,z00];refine CS.intro h1 ?_;simp -implicitDefEqProofs only[go_sem,z00];refine CS.intro h2 ?_;simp -implicitDefEqProofs only[go_sem,z00];refine CS.intro h3 ?_;simp -implicitDefEqProofs only[go_sem,z00,List.append_assoc,List.length_append,g0,g1,s0,s1];refine CO.intro (k1 _) ?_;simp -implicitDefEqProofs only[go_sem,g0,g1,s0,s1];exact tr_ (σ':=σ) (ex:=[_,_]) rfl hbl hbel
set_option maxHeartbeats 4000000 in
theorem ziB (a:AcM) (e:opA a=16):Ans Tryz.prog 41 [acV a] σ (reV (z07 a)) σ:=by
 have h1:=fun s=>z0j s a.who 0 6 (by decide) (by decide) (by decide)
 have h2:=fun s=>z0E s (inD a.who 0 6)
 have h3:∀s,Ans Tryz.prog 99 [I a.what,I 1,I 17] s (I 16) s:=fun s=>by
  have:=z0j s a.what 1 17 (by decide) (by decide) (by decide)
  have e:inD a.what 1 17=16:=e;rw[e]at this;exact this
 have hD:z07 a=baseR a:=by
  unfold z07;simp[e]
 rw[hD];unfold baseR;rw[e];generalize tokOf (inD a.who 0 6)=tk at h2⊢;generalize inD a.who 0 6=w at h1 h2;refine Ans.subR (r:=.agg [Sx tk,I 16,I 0,Sx ⟨#[]⟩,UN 0,UN 0,I 0,.nils,Bo false,Fl 0,Fl 0,.nils,.nils,Bo false,Fl 0,Fl 0,.nils,.nils,Fl 0]) ?_ (.agg (.cons (.refl _) <| .cons (.refl _) <| .cons (.refl _) <| .cons (.refl _) <| .cons (.refl _) <| .cons (.refl _) <| .cons (.refl _) <| .cons (.nils 3) <| .cons (.refl _) <| .cons (.refl _) <| .cons (.refl _) <| .cons (.nils 3) <| .cons (.nils 3) <| .cons (.refl _) <| .cons (.refl _) <| .cons (.refl _) <| .cons (.nils 1) <| .cons (.nils 2) <| .cons (.refl _) <| .nil))
 have hbl:Bel σ.length (.agg [Sx tk,I 16,I 0,Sx ⟨#[]⟩,UN 0,UN 0,I 0,.nils,Bo false,Fl 0,Fl 0,.nils,.nils,Bo false,Fl 0,Fl 0,.nils,.nils,Fl 0]):=.agg _ (fun i hi=>by
  have:∀y∈([Sx tk,I 16,I 0,Sx ⟨#[]⟩,UN 0,UN 0,I 0,.nils,Bo false,Fl 0,Fl 0,.nils,.nils,Bo false,Fl 0,Fl 0,.nils,.nils,Fl 0]:List AV),Bel σ.length y:=by
   intro y hy;simp only[List.mem_cons,List.not_mem_nil,or_false]at hy;rcases hy with rfl|rfl|rfl|rfl|rfl|rfl|rfl|rfl|rfl|rfl|rfl|rfl|rfl|rfl|rfl|rfl|rfl|rfl|rfl
   all_goals first|exact .pl _|exact .nils|exact z09 _ _|exact z0u _ _|exact z0g _ _
  exact this _ (List.getElem_mem hi))
 refine Ans.of_run' t41 (fun hbel _=>?_)
 unfold acV acC;simp -implicitDefEqProofs only[c41,r41,go_sem,z00];refine CS.intro h1 ?_;simp -implicitDefEqProofs only[go_sem,z00];refine CS.intro h2 ?_;simp -implicitDefEqProofs only[go_sem,z00];refine CS.intro h3 ?_;simp -implicitDefEqProofs only[go_sem,z00,List.append_assoc,List.length_append,g0,g1,s0,s1];exact tr_ (σ':=σ) (ex:=[_,_]) rfl hbl hbel
set_option maxHeartbeats 4000000 in
theorem ziC (a:AcM) (e:opA a=17):Ans Tryz.prog 41 [acV a] σ (reV (z07 a)) σ:=by
 have h1:=fun s=>z0j s a.who 0 6 (by decide) (by decide) (by decide)
 have h2:=fun s=>z0E s (inD a.who 0 6)
 have h3:∀s,Ans Tryz.prog 99 [I a.what,I 1,I 17] s (I 17) s:=fun s=>by
  have:=z0j s a.what 1 17 (by decide) (by decide) (by decide)
  have e:inD a.what 1 17=17:=e;rw[e]at this;exact this
 have hD:z07 a=baseR a:=by
  unfold z07;simp[e]
 rw[hD];unfold baseR;rw[e];generalize tokOf (inD a.who 0 6)=tk at h2⊢;generalize inD a.who 0 6=w at h1 h2;refine Ans.subR (r:=.agg [Sx tk,I 17,I 0,Sx ⟨#[]⟩,UN 0,UN 0,I 0,.nils,Bo false,Fl 0,Fl 0,.nils,.nils,Bo false,Fl 0,Fl 0,.nils,.nils,Fl 0]) ?_ (.agg (.cons (.refl _) <| .cons (.refl _) <| .cons (.refl _) <| .cons (.refl _) <| .cons (.refl _) <| .cons (.refl _) <| .cons (.refl _) <| .cons (.nils 3) <| .cons (.refl _) <| .cons (.refl _) <| .cons (.refl _) <| .cons (.nils 3) <| .cons (.nils 3) <| .cons (.refl _) <| .cons (.refl _) <| .cons (.refl _) <| .cons (.nils 1) <| .cons (.nils 2) <| .cons (.refl _) <| .nil))
 have hbl:Bel σ.length (.agg [Sx tk,I 17,I 0,Sx ⟨#[]⟩,UN 0,UN 0,I 0,.nils,Bo false,Fl 0,Fl 0,.nils,.nils,Bo false,Fl 0,Fl 0,.nils,.nils,Fl 0]):=.agg _ (fun i hi=>by
  have:∀y∈([Sx tk,I 17,I 0,Sx ⟨#[]⟩,UN 0,UN 0,I 0,.nils,Bo false,Fl 0,Fl 0,.nils,.nils,Bo false,Fl 0,Fl 0,.nils,.nils,Fl 0]:List AV),Bel σ.length y:=by
   intro y hy;simp only[List.mem_cons,List.not_mem_nil,or_false]at hy;rcases hy with rfl|rfl|rfl|rfl|rfl|rfl|rfl|rfl|rfl|rfl|rfl|rfl|rfl|rfl|rfl|rfl|rfl|rfl|rfl
   all_goals first|exact .pl _|exact .nils|exact z09 _ _|exact z0u _ _|exact z0g _ _
  exact this _ (List.getElem_mem hi))
 refine Ans.of_run' t41 (fun hbel _=>?_)
 unfold acV acC;simp -implicitDefEqProofs only[c41,r41,go_sem,z00];refine CS.intro h1 ?_;simp -implicitDefEqProofs only[go_sem,z00];refine CS.intro h2 ?_;simp -implicitDefEqProofs only[go_sem,z00];refine CS.intro h3 ?_;simp -implicitDefEqProofs only[go_sem,z00,List.append_assoc,List.length_append,g0,g1,s0,s1];exact tr_ (σ':=σ) (ex:=[_,_]) rfl hbl hbel
end
theorem z9X (σ:St) (a:AcM):Ans Tryz.prog 41 [acV a] σ (reV (z07 a)) σ:=by
 have hr:=z8Y a;rcases ops17 (opA a) with e|e|e|e|e|e|e|e|e|e|e|e|e|e|e|e|e|e
 · exact act_1 σ a e
 · exact act_2 σ a e
 · exact act_3 σ a e
 · exact act_4 σ a e
 · exact act_5 σ a e
 · exact act_6 σ a e
 · exact act_7 σ a e
 · exact act_8 σ a e
 · exact act_9 σ a e
 · exact ziv σ a e
 · exact ziw σ a e
 · exact zix σ a e
 · exact ziy σ a e
 · exact ziz σ a e
 · exact ziA σ a e
 · exact ziB σ a e
 · exact ziC σ a e
 · omega
theorem z_all:emS ⟨#[]⟩=true∧emU 0=true∧emI 0=true∧noBd (false,0,0)=true∧noRl noRu=true∧zF 0=true∧idR 0=true∧clkB 0=true∧staR 0=true∧listB []=true:=by decide +kernel
theorem zgo {n:Int} (h0:0≤n) (h1:n≤6):tokB (tokOf n)=true:=by
 have e:inD n 0 7=n:=by unfold inD;rw[if_pos (by omega)]
 unfold tokOf;rw[e];obtain⟨k,rfl⟩:=Int.eq_ofNat_of_zero_le h0;have:k<7:=by omega
 match k,this with
 |0,_|1,_|2,_|3,_|4,_|5,_|6,_=>decide +kernel
theorem id_ok (n lo hi:Int) (h0:0≤lo) (h:lo≤hi) (h1:hi≤2147483647):idR (inD n lo hi)=true:=by
 have:=z3Q n lo hi h;unfold idR;simp only[Bool.and_eq_true,decide_eq_true_eq];omega
theorem z7a (n lo hi:Int) (h:lo≤hi):lo≤emodW n lo hi∧emodW n lo hi≤hi:=by
 unfold emodW;have h3:=Int.emod_nonneg n (show hi-lo+1≠0 by omega)
 have h4:=Int.emod_lt_of_pos n (show 0<hi-lo+1 by omega)
 omega
theorem zgp (n k:Nat) (h:0<k) (h1:k≤1099511627776):clkB (n%k)=true:=by
 have:=Nat.mod_lt n h;unfold clkB;exact decide_eq_true (by omega)
theorem ziD (n:Int):staR (inD n 0 3)=true:=by
 have:=z3Q n 0 3 (by decide)
 unfold staR;simp only[Bool.and_eq_true,decide_eq_true_eq];omega
theorem zfq (a:AcM):(z07 a).op=opA a:=by
 unfold z07;simp only
 repeat' split
 all_goals rfl
theorem zdE (a:AcM):(z07 a).tok=tokOf (inD a.who 0 6):=by
 unfold z07;simp only
 repeat' split
 all_goals rfl
set_option maxHeartbeats 4000000 in
theorem z90 (a:AcM):mayR (z07 a)=true:=by
 have hr:=z8Y a;obtain⟨z1,z2,z3,z4,z5,z6,z7,z8,z9,z10⟩:=z_all;have i20:=id_ok a.id 0 20 (by decide) (by decide) (by decide)
 have i7:=id_ok a.id 0 7 (by decide) (by decide) (by decide)
 have i13:=id_ok a.id 0 13 (by decide) (by decide) (by decide)
 have tk:=zgo (z7a a.sta 0 6 (by decide)).1 (z7a a.sta 0 6 (by decide)).2
 have c1:=zgp a.st 60 (by decide) (by decide)
 have c2:=zgp a.en 90 (by decide) (by decide)
 have s3:=ziD a.sta;obtain⟨m1,m2,_⟩:=z6n a.ds;have m3:emI (mustL true (z0w a.ds [])).length=false:=m2;have m4:listB (mustL false (z0w a.ds []))=true:=z76 a.ds;have bm:=zaQ a.sel a.lo a.hi;have ri:=zfd a.ru;have ls:=z7L a.ns;unfold mayR;rw[zfq];unfold z07 baseR silR z4Z;generalize emodW a.sta 0 6=q1 at tk⊢;generalize inD a.id 0 20=v20 at i20⊢;generalize inD a.id 0 7=v7 at i7⊢;generalize inD a.id 0 13=v13 at i13⊢;generalize inD a.sta 0 3=v3 at s3⊢;generalize mustL true (z0w a.ds [])=M at m1 m3⊢;generalize mustL false (z0w a.ds [])=M' at m4⊢;generalize z0H a.sel a.lo a.hi=bd at bm⊢;generalize z38 a.ru=ru at ri⊢;generalize z2s a.ns=L at ls⊢;generalize opA a=op at hr⊢;generalize tokOf (inD a.who 0 6)=tok0;rcases ops17 op with e|e|e|e|e|e|e|e|e|e|e|e|e|e|e|e|e|e
 · have hf:fOf op=(0,true):=by rw[e];rfl
   rw[hf];simp[e,zeroB,z0c,hs_0,x0,z1,z2,z3,z4,z5,z6,z7,z8,z9,z10,i20,i7,i13,tk,c1,c2,s3,m1,m3,m4,bm,ri,ls]
 · have hf:fOf op=(1,true):=by rw[e];rfl
   rw[hf];simp[e,zeroB,z0c,hs_1,x0,z1,z2,z3,z4,z5,z6,z7,z8,z9,z10,i20,i7,i13,tk,c1,c2,s3,m1,m3,m4,bm,ri,ls]
 · have hf:fOf op=(3,true):=by rw[e];rfl
   rw[hf];simp[e,zeroB,z0c,hs_3,x0,z1,z2,z3,z4,z5,z6,z7,z8,z9,z10,i20,i7,i13,tk,c1,c2,s3,m1,m3,m4,bm,ri,ls]
 · have hf:fOf op=(3,true):=by rw[e];rfl
   rw[hf];simp[e,zeroB,z0c,hs_3,x0,z1,z2,z3,z4,z5,z6,z7,z8,z9,z10,i20,i7,i13,tk,c1,c2,s3,m1,m3,m4,bm,ri,ls]
 · have hf:fOf op=(116,true):=by rw[e];rfl
   rw[hf];simp[e,zeroB,z0c,z78,x0,z1,z2,z3,z4,z5,z6,z7,z8,z9,z10,i20,i7,i13,tk,c1,c2,s3,m1,m3,m4,bm,ri,ls]
 · have hf:fOf op=(117,true):=by rw[e];rfl
   rw[hf];simp[e,zeroB,z0c,z79,x0,z1,z2,z3,z4,z5,z6,z7,z8,z9,z10,i20,i7,i13,tk,c1,c2,s3,m1,m3,m4,bm,ri,ls]
 · have hf:fOf op=(1,true):=by rw[e];rfl
   rw[hf];simp[e,zeroB,z0c,hs_1,x0,z1,z2,z3,z4,z5,z6,z7,z8,z9,z10,i20,i7,i13,tk,c1,c2,s3,m1,m3,m4,bm,ri,ls]
 · have hf:fOf op=(8,true):=by rw[e];rfl
   rw[hf];simp[e,zeroB,z0c,hs_8,x0,z1,z2,z3,z4,z5,z6,z7,z8,z9,z10,i20,i7,i13,tk,c1,c2,s3,m1,m3,m4,bm,ri,ls]
 · have hf:fOf op=(128,true):=by rw[e];rfl
   rw[hf];simp[e,zeroB,z0c,hs_128,x0,z1,z2,z3,z4,z5,z6,z7,z8,z9,z10,i20,i7,i13,tk,c1,c2,s3,m1,m3,m4,bm,ri,ls]
 · have hf:fOf op=(1,true):=by rw[e];rfl
   rw[hf];simp[e,zeroB,z0c,hs_1,x0,z1,z2,z3,z4,z5,z6,z7,z8,z9,z10,i20,i7,i13,tk,c1,c2,s3,m1,m3,m4,bm,ri,ls]
 · have hf:fOf op=(768,true):=by rw[e];rfl
   rw[hf];simp[e,zeroB,z0c,hs_768,x0,z1,z2,z3,z4,z5,z6,z7,z8,z9,z10,i20,i7,i13,tk,c1,c2,s3,m1,m3,m4,bm,ri,ls]
 · have hf:fOf op=(1,true):=by rw[e];rfl
   rw[hf];simp[e,zeroB,z0c,hs_1,x0,z1,z2,z3,z4,z5,z6,z7,z8,z9,z10,i20,i7,i13,tk,c1,c2,s3,m1,m3,m4,bm,ri,ls]
 · have hf:fOf op=(16,true):=by rw[e];rfl
   rw[hf];simp[e,zeroB,z0c,hs_16,x0,z1,z2,z3,z4,z5,z6,z7,z8,z9,z10,i20,i7,i13,tk,c1,c2,s3,m1,m3,m4,bm,ri,ls]
 · have hf:fOf op=(0,true):=by rw[e];rfl
   rw[hf];simp[e,zeroB,z0c,hs_0,x0,z1,z2,z3,z4,z5,z6,z7,z8,z9,z10,i20,i7,i13,tk,c1,c2,s3,m1,m3,m4,bm,ri,ls]
 · have hf:fOf op=(1,true):=by rw[e];rfl
   rw[hf];simp[e,zeroB,z0c,hs_1,x0,z1,z2,z3,z4,z5,z6,z7,z8,z9,z10,i20,i7,i13,tk,c1,c2,s3,m1,m3,m4,bm,ri,ls]
 · have hf:fOf op=(0,true):=by rw[e];rfl
   rw[hf];simp[e,zeroB,z0c,hs_0,x0,z1,z2,z3,z4,z5,z6,z7,z8,z9,z10,i20,i7,i13,tk,c1,c2,s3,m1,m3,m4,bm,ri,ls]
 · have hf:fOf op=(0,true):=by rw[e];rfl
   rw[hf];simp[e,zeroB,z0c,hs_0,x0,z1,z2,z3,z4,z5,z6,z7,z8,z9,z10,i20,i7,i13,tk,c1,c2,s3,m1,m3,m4,bm,ri,ls]
 · omega
theorem zbN (a:AcM):reIs (z07 a)=true:=by
 unfold reIs;have hr:=z3Q a.who 0 6 (by decide)
 rw[zdE,zgo hr.1 hr.2,z90];rfl
end Go.Proofs.YtmkmhhjkdaklbaaGreat
namespace Go.Proofs.YtmkmhhjkdaklbaaGreat
open Go Go.Ab
set_option maxRecDepth 100000
def c42:ACode :=
 (sq_ [pr_ 2 (.boxr (.tmp 0)),
 pr_ 3 (.boxr (.tmp 1)),
 pr_ 4 mf_]
 (.seq (.draw [⟨pr_ 5 (fa_ 0 2),[],false,0,0⟩,
 ⟨pr_ 6 (lf_ 1 5),[0],false,0,0⟩,
 ⟨pr_ 7 (fa_ 0 3),[],false,0,0⟩,
 ⟨pr_ 8 (lf_ 1 7),[2],false,0,0⟩,
 ⟨pr_ 9 (bt_ .eql 6 8),[0,1,2,3],false,0,0⟩,
 ⟨mv_ 10 9,[0,1,2,3,4],false,0,0⟩,
 ⟨gp_ 11 10 true (fa_ 1 2),(List.range 6),false,0,0⟩,
 ⟨gp_ 12 10 true (lf_ 1 11),(List.range 7),false,0,0⟩,
 ⟨gp_ 13 10 true (fa_ 1 3),(List.range 6),false,0,0⟩,
 ⟨gp_ 14 10 true (lf_ 1 13),[0,1,2,3,4,5,8],false,0,0⟩,
 ⟨gp_ 15 10 true (bt_ .eql 12 14),(List.range 10),false,0,0⟩,
 ⟨pr_ 16 (pa_ 10 15),(List.range 11),false,0,0⟩,
 ⟨mv_ 17 16,(List.range 12),false,0,0⟩,
 ⟨gp_ 18 17 true (fa_ 2 2),(List.range 13),false,0,0⟩,
 ⟨gp_ 19 17 true (lf_ 1 18),(List.range 14),false,0,0⟩,
 ⟨gp_ 20 17 true (fa_ 2 3),(List.range 13),false,0,0⟩,
 ⟨gp_ 21 17 true (lf_ 1 20),[0,1,2,3,4,5,6,7,8,9,10,11,12,15],false,0,0⟩,
 ⟨gp_ 22 17 true (bt_ .eql 19 21),(List.range 17),false,0,0⟩,
 ⟨pr_ 23 (pa_ 17 22),(List.range 18),false,0,0⟩,
 ⟨mv_ 24 23,(List.range 19),false,0,0⟩,
 ⟨gp_ 25 24 true (fa_ 3 2),(List.range 20),false,0,0⟩,
 ⟨gp_ 26 24 true (lf_ 1 25),(List.range 21),false,0,0⟩,
 ⟨gp_ 27 24 true (fa_ 3 3),(List.range 20),false,0,0⟩,
 ⟨gp_ 28 24 true (lf_ 1 27),[0,1,2,3,4,5,6,7,8,9,10,11,12,13,14,15,16,17,18,19,22],false,0,0⟩,
 ⟨gp_ 29 24 true (bt_ .eql 26 28),(List.range 24),false,0,0⟩,
 ⟨pr_ 30 (pa_ 24 29),(List.range 25),false,0,0⟩,
 ⟨mv_ 31 30,(List.range 26),false,0,0⟩,
 ⟨gp_ 32 31 true (fa_ 4 2),(List.range 27),false,0,0⟩,
 ⟨gp_ 33 31 true (lf_ 1 32),(List.range 28),false,0,0⟩,
 ⟨gp_ 34 31 true (fa_ 4 3),(List.range 27),false,0,0⟩,
 ⟨gp_ 35 31 true (lf_ 1 34),[0,1,2,3,4,5,6,7,8,9,10,11,12,13,14,15,16,17,18,19,20,21,22,23,24,25,26,29],false,0,0⟩,
 ⟨gp_ 36 31 true (bt_ .eql 33 35),(List.range 31),false,0,0⟩,
 ⟨pr_ 37 (pa_ 31 36),(List.range 32),false,0,0⟩,
 ⟨mv_ 38 37,(List.range 33),false,0,0⟩,
 ⟨gp_ 39 38 true (fa_ 5 2),(List.range 34),false,0,0⟩,
 ⟨gp_ 40 38 true (lf_ 1 39),(List.range 35),false,0,0⟩,
 ⟨gp_ 41 38 true (fa_ 5 3),(List.range 34),false,0,0⟩,
 ⟨gp_ 42 38 true (lf_ 1 41),[0,1,2,3,4,5,6,7,8,9,10,11,12,13,14,15,16,17,18,19,20,21,22,23,24,25,26,27,28,29,30,31,32,33,36],false,0,0⟩,
 ⟨gp_ 43 38 true (bt_ .eql 40 42),(List.range 38),false,0,0⟩,
 ⟨pr_ 44 (pa_ 38 43),(List.range 39),false,0,0⟩,
 ⟨mv_ 45 44,(List.range 40),false,0,0⟩,
 ⟨gp_ 46 45 true (fa_ 6 2),(List.range 41),false,0,0⟩,
 ⟨gp_ 47 45 true (lf_ 1 46),(List.range 42),false,0,0⟩,
 ⟨gp_ 48 45 true (fa_ 6 3),(List.range 41),false,0,0⟩,
 ⟨gp_ 49 45 true (lf_ 1 48),[0,1,2,3,4,5,6,7,8,9,10,11,12,13,14,15,16,17,18,19,20,21,22,23,24,25,26,27,28,29,30,31,32,33,34,35,36,37,38,39,40,43],false,0,0⟩,
 ⟨gp_ 50 45 true (bt_ .eql 47 49),(List.range 45),false,0,0⟩,
 ⟨pr_ 51 (pa_ 45 50),(List.range 46),false,0,0⟩,
 ⟨mv_ 52 51,(List.range 47),false,0,0⟩,
 ⟨gp_ 53 52 true (fa_ 7 2),(List.range 48),false,0,0⟩,
 ⟨gp_ 54 52 true (lf_ 1 53),(List.range 49),false,0,0⟩,
 ⟨gp_ 55 52 true (fa_ 7 3),(List.range 48),false,0,0⟩,
 ⟨gp_ 56 52 true (lf_ 1 55),[0,1,2,3,4,5,6,7,8,9,10,11,12,13,14,15,16,17,18,19,20,21,22,23,24,25,26,27,28,29,30,31,32,33,34,35,36,37,38,39,40,41,42,43,44,45,46,47,50],false,0,0⟩,
 ⟨gc_ 57 52 true 77 [(.tmp 54),(.tmp 56)],(List.range 52),true,0,0⟩,
 ⟨pr_ 58 (pa_ 52 57),(List.range 53),false,1,1⟩,
 ⟨mv_ 59 58,(List.range 54),false,1,1⟩,
 ⟨gp_ 60 59 true (fa_ 8 2),(List.range 55),false,1,1⟩,
 ⟨gp_ 61 59 true (lt_ 3 60),(List.range 56),false,1,1⟩,
 ⟨gp_ 62 59 true (fa_ 8 3),(List.range 55),false,1,1⟩,
 ⟨gp_ 63 59 true (lt_ 3 62),[0,1,2,3,4,5,6,7,8,9,10,11,12,13,14,15,16,17,18,19,20,21,22,23,24,25,26,27,28,29,30,31,32,33,34,35,36,37,38,39,40,41,42,43,44,45,46,47,48,49,50,51,52,53,54,57],false,1,1⟩,
 ⟨gc_ 64 59 true 78 [(.tmp 61),(.tmp 63)],(List.range 59),true,0,0⟩,
 ⟨pr_ 65 (pa_ 59 64),(List.range 60),false,2,2⟩,
 ⟨mv_ 66 65,(List.range 61),false,2,2⟩,
 ⟨gp_ 67 66 true (fa_ 11 2),(List.range 62),false,2,2⟩,
 ⟨gp_ 68 66 true (lt_ 6 67),(List.range 63),false,2,2⟩,
 ⟨gp_ 69 66 true (fa_ 11 3),(List.range 62),false,2,2⟩,
 ⟨gp_ 70 66 true (lt_ 6 69),[0,1,2,3,4,5,6,7,8,9,10,11,12,13,14,15,16,17,18,19,20,21,22,23,24,25,26,27,28,29,30,31,32,33,34,35,36,37,38,39,40,41,42,43,44,45,46,47,48,49,50,51,52,53,54,55,56,57,58,59,60,61,64],false,2,2⟩,
 ⟨gc_ 71 66 true 21 [(.tmp 68),(.tmp 70)],(List.range 66),true,0,0⟩,
 ⟨pr_ 72 (pa_ 66 71),(List.range 67),false,3,3⟩,
 ⟨mv_ 73 72,(List.range 68),false,3,3⟩,
 ⟨gp_ 74 73 true (fa_ 17 2),(List.range 69),false,3,3⟩,
 ⟨gp_ 75 73 true (lf_ 1 74),(List.range 70),false,3,3⟩,
 ⟨gp_ 76 73 true (fa_ 17 3),(List.range 69),false,3,3⟩,
 ⟨gp_ 77 73 true (lf_ 1 76),[0,1,2,3,4,5,6,7,8,9,10,11,12,13,14,15,16,17,18,19,20,21,22,23,24,25,26,27,28,29,30,31,32,33,34,35,36,37,38,39,40,41,42,43,44,45,46,47,48,49,50,51,52,53,54,55,56,57,58,59,60,61,62,63,64,65,66,67,68,71],false,3,3⟩,
 ⟨gc_ 78 73 true 102 [(.tmp 75),(.tmp 77)],(List.range 73),true,0,0⟩,
 ⟨pr_ 79 (pa_ 73 78),(List.range 74),false,4,4⟩,
 ⟨mv_ 80 79,(List.range 75),false,4,4⟩,
 ⟨gp_ 81 80 true (fa_ 18 2),(List.range 76),false,4,4⟩,
 ⟨gp_ 82 80 true (lf_ 1 81),(List.range 77),false,4,4⟩,
 ⟨gc_ 83 80 true 48 [(.tmp 82)],(List.range 78),true,0,0⟩,
 ⟨gp_ 84 80 true (fa_ 18 3),(List.range 76),false,4,5⟩,
 ⟨gp_ 85 80 true (lf_ 1 84),[0,1,2,3,4,5,6,7,8,9,10,11,12,13,14,15,16,17,18,19,20,21,22,23,24,25,26,27,28,29,30,31,32,33,34,35,36,37,38,39,40,41,42,43,44,45,46,47,48,49,50,51,52,53,54,55,56,57,58,59,60,61,62,63,64,65,66,67,68,69,70,71,72,73,74,75,79],false,4,5⟩,
 ⟨gc_ 86 80 true 48 [(.tmp 85)],(List.range 81),true,0,0⟩,
 ⟨gp_ 87 80 true (bt_ .eql 83 86),(List.range 82),false,6,6⟩,
 ⟨pr_ 88 (pa_ 80 87),(List.range 83),false,6,6⟩,
 ⟨mv_ 4 88,(List.range 84),false,6,6⟩])
 .ret))
def o42:List Tmp:=[]
def r42:List RV:=[.tmp 4]
theorem t42:Text Tryz.prog 42 o42 c42 r42 89:=.mk_ Tryz.f42 rfl
def c44:ACode :=
 (sq_ [pr_ 2 (.allocm z19_),
 pr_ 3 mf_]
 (sq_ [mv_ 10 0,
 cl_ 11 66 [(.tmp 10),(.const (.int .i64 16))],
 mv_ 9 11,
 pr_ 12 (ex_ 0 9),
 pr_ 13 (ex_ 1 9),
 pr_ 14 (ex_ 2 9),
 mv_ 4 12,
 mv_ 5 13,
 mv_ 6 14]
 (.seq (sq_ [mv_ 15 6,
 pr_ 16 (no_ 15),
 mv_ 17 16,
 gp_ 18 17 false (mo_ 4),
 gc_ 19 17 false 88 [(.tmp 18)],
 gp_ 20 17 false (no_ 19),
 pr_ 21 (po_ 17 20)]
 (.cond (.tmp 21)
 (sq_ [pr_ 22 (.build z19_ []),
 st_ (so_ 19 2 22),
 pr_ 3 mf_]
 .ret)
 .skip))
 (sq_ [mv_ 24 0,
 mv_ 25 5,
 pr_ 26 (.slcv 1 (.tmp 24) (some (.tmp 25)) none),
 c1_ 27 46 26,
 mv_ 23 27,
 pr_ 28 (ex_ 0 23),
 pr_ 29 (ex_ 1 23),
 pr_ 7 (.allocm z19_),
 st_ (so_ 19 7 28),
 mv_ 8 29]
 (.seq (sq_ [mv_ 30 8,
 pr_ 31 (no_ 30)]
 (.cond (.tmp 31)
 (sq_ [pr_ 32 (.build z19_ []),
 st_ (so_ 19 2 32),
 pr_ 3 mf_]
 .ret)
 .skip))
 (sq_ [mv_ 33 4,
 pr_ 34 (fa_ 0 7),
 st_ (so_ 1 34 33)]
 (sq_ [pr_ 35 (lt_ 19 7),
 st_ (so_ 19 2 35),
 pr_ 3 mt_]
 .ret)))))))
def o44:List Tmp:=[2,7]
def r44:List RV:=[.cell 2 19 true,.tmp 3]
theorem t44:Text Tryz.prog 44 o44 c44 r44 36:=.mk_ Tryz.f44 rfl
def c46:ACode :=
 (sq_ [pr_ 2 (.allocm z19_),
 pr_ 3 mf_]
 (.seq (sq_ [mv_ 10 0,
 pr_ 11 (.lenv (.tmp 10)),
 pr_ 12 (bk_ .eql 11 .i64 0)]
 (.cond (.tmp 12)
 (sq_ [pr_ 13 (.build z19_ []),
 st_ (so_ 19 2 13),
 pr_ 3 mf_]
 .ret)
 .skip))
 (sq_ [mv_ 14 0,
 pr_ 15 (.iadrs 1 (.tmp 14) (.const (.int .i64 0))),
 pr_ 16 (lf_ 1 15),
 pr_ 17 (.convi .i64 (.tmp 16)),
 pr_ 18 (.build z19_ [(1,1,(.tmp 17))]),
 pr_ 4 (.allocm z19_),
 st_ (so_ 19 4 18)]
 (sq_ [pr_ 19 (fa_ 1 4),
 pr_ 20 (lf_ 1 19),
 c1_ 21 95 20,
 mv_ 5 21]
 (sq_ [pr_ 6 (mi_ .i64 1)]
 (.seq (sq_ [pr_ 7 (mi_ .i64 0)]
 (.block 0 (.loop [1,3,8,9,10,11,12,13,14,15,16,17,18,19,20,21,22,23,24,25,26,27,28,29,30,31,32,33,34,35,36,37,38,39,40,41,42,43,44,45,46,47,48,49,50,51,52,53,54,55,56,57,58] (.seq (sq_ [mv_ 22 7,
 mv_ 23 5,
 pr_ 24 (.lens (.tmp 23)),
 pr_ 25 (bt_ .lss 22 24),
 mv_ 26 25,
 gp_ 27 26 true (mo_ 5),
 gp_ 28 26 true (.bin false .neq (.tmp 27) (.const (.string (ByteArray.mk #[45])))),
 pr_ 29 (pa_ 26 28)]
 (.cond (.tmp 29)
 .skip
 (.exit 0)))
 (.seq (.block 1 (.seq (.draw [⟨mv_ 33 5,[],false,0,0⟩,
 ⟨mv_ 34 7,[],false,0,0⟩,
 ⟨pr_ 35 (.idxs (.tmp 33) (.tmp 34)),[0,1],false,0,0⟩,
 ⟨mv_ 36 0,[],false,0,0⟩,
 ⟨mv_ 37 6,[],false,0,0⟩,
 ⟨pr_ 38 (.slcv 1 (.tmp 36) (some (.tmp 37)) none),[3,4],false,0,0⟩,
 ⟨cl_ 39 105 [(.tmp 4),(.tmp 35),(.tmp 38)],(List.range 6),true,0,0⟩,
 ⟨mv_ 32 39,(List.range 7),false,1,1⟩,
 ⟨pr_ 40 (ex_ 0 32),(List.range 8),false,1,1⟩,
 ⟨pr_ 41 (ex_ 1 32),(List.range 8),false,1,1⟩,
 ⟨mv_ 8 40,(List.range 9),false,1,1⟩,
 ⟨mv_ 9 41,(List.range 11),false,1,1⟩])
 (.seq (sq_ [mv_ 42 9,
 pr_ 43 (no_ 42)]
 (.cond (.tmp 43)
 (sq_ [pr_ 44 (.build z19_ []),
 st_ (so_ 19 2 44),
 pr_ 3 mf_]
 .ret)
 .skip))
 (.ops [mv_ 45 6,
 mv_ 46 8,
 pr_ 47 (bt_ .add 45 46),
 mv_ 6 47]))))
 (.ops [mv_ 30 7,
 pr_ 31 (bk_ .add 30 .i64 1),
 mv_ 7 31]))))))
 (.seq (sq_ [mv_ 48 6,
 mv_ 49 0,
 pr_ 50 (.lenv (.tmp 49)),
 pr_ 51 (bt_ .neq 48 50),
 mv_ 52 51,
 gp_ 53 52 false (lt_ 19 4),
 gc_ 54 52 false 89 [(.tmp 53)],
 gp_ 55 52 false (no_ 54),
 pr_ 56 (po_ 52 55)]
 (.cond (.tmp 56)
 (sq_ [pr_ 57 (.build z19_ []),
 st_ (so_ 19 2 57),
 pr_ 3 mf_]
 .ret)
 .skip))
 (sq_ [pr_ 58 (lt_ 19 4),
 st_ (so_ 19 2 58),
 pr_ 3 mt_]
 .ret))))))))
def o46:List Tmp:=[2,4]
def r46:List RV:=[.cell 2 19 true,.tmp 3]
theorem t46:Text Tryz.prog 46 o46 c46 r46 59:=.mk_ Tryz.f46 rfl
def c88:ACode :=
 (sq_ [pr_ 2 mf_]
 (sq_ [mv_ 3 0,
 pr_ 4 (.lens (.tmp 3)),
 pr_ 5 (bk_ .geq 4 .i64 4),
 mv_ 6 5,
 gp_ 7 6 true (mo_ 0),
 gp_ 8 6 true (.lens (.tmp 7)),
 gp_ 9 6 true (bk_ .leq 8 .i64 16),
 pr_ 10 (pa_ 6 9),
 mv_ 2 10]
 .ret))
def o88:List Tmp:=[]
def r88:List RV:=[.tmp 2]
theorem t88:Text Tryz.prog 88 o88 c88 r88 11:=.mk_ Tryz.f88 rfl
def c89:ACode :=
 (sq_ [pr_ 1 (.boxr (.tmp 0)),
 pr_ 2 mf_]
 (sq_ [pr_ 4 (fa_ 1 1),
 pr_ 5 (lf_ 1 4),
 c1_ 6 95 5,
 mv_ 3 6]
 (.seq (sq_ [mv_ 7 3,
 pr_ 8 (.bin false .eql (.tmp 7) (.const (.string (ByteArray.mk #[]))))]
 (.cond (.tmp 8)
 (sq_ [pr_ 2 mf_]
 .ret)
 .skip))
 (.seq (sq_ [mv_ 9 3,
 cl_ 10 127 [(.tmp 9),(.const (.int .u8 73))],
 pr_ 11 (no_ 10),
 mv_ 12 11,
 gp_ 13 12 true (fa_ 2 1),
 gp_ 14 12 true (lf_ 1 13),
 gp_ 15 12 true (bk_ .neq 14 .i64 0),
 pr_ 16 (pa_ 12 15),
 mv_ 17 16,
 gp_ 18 17 false (fa_ 2 1),
 gp_ 19 17 false (lf_ 1 18),
 gp_ 20 17 false (bk_ .lss 19 .i64 0),
 pr_ 21 (po_ 17 20),
 mv_ 22 21,
 gp_ 23 22 false (fa_ 2 1),
 gp_ 24 22 false (lf_ 1 23),
 gp_ 25 22 false (bk_ .gtr 24 .i64 2147483647),
 pr_ 26 (po_ 22 25)]
 (.cond (.tmp 26)
 (sq_ [pr_ 2 mf_]
 .ret)
 .skip))
 (.seq (sq_ [mv_ 27 3,
 cl_ 28 127 [(.tmp 27),(.const (.int .u8 84))],
 mv_ 29 28,
 gp_ 30 29 true (fa_ 3 1),
 gp_ 31 29 true (lf_ 1 30),
 gc_ 32 29 true 88 [(.tmp 31)],
 gp_ 33 29 true (no_ 32),
 pr_ 34 (pa_ 29 33),
 mv_ 35 34,
 gp_ 36 35 false (mo_ 3),
 gc_ 37 35 false 127 [(.tmp 36),(.const (.int .u8 84))],
 gp_ 38 35 false (no_ 37),
 gp_ 39 35 false (mo_ 38),
 gp_ 40 39 true (fa_ 3 1),
 gp_ 41 39 true (lf_ 1 40),
 gp_ 42 39 true (.bin false .neq (.tmp 41) (.const (.string (ByteArray.mk #[])))),
 gp_ 43 35 false (pa_ 39 42),
 pr_ 44 (po_ 35 43)]
 (.cond (.tmp 44)
 (sq_ [pr_ 2 mf_]
 .ret)
 .skip))
 (.seq (sq_ [mv_ 45 3,
 cl_ 46 127 [(.tmp 45),(.const (.int .u8 83))],
 pr_ 47 (no_ 46),
 mv_ 48 47,
 gp_ 49 48 true (fa_ 4 1),
 gp_ 50 48 true (lf_ 1 49),
 gp_ 51 48 true (bk_ .neq 50 .u64 0),
 gp_ 52 48 true (mo_ 51),
 gp_ 53 52 false (fa_ 5 1),
 gp_ 54 52 false (lf_ 1 53),
 gp_ 55 52 false (bk_ .neq 54 .u64 0),
 gp_ 56 48 true (po_ 52 55),
 pr_ 57 (pa_ 48 56),
 mv_ 58 57,
 gp_ 59 58 false (fa_ 4 1),
 gp_ 60 58 false (lf_ 1 59),
 gp_ 61 58 false (bk_ .gtr 60 .u64 1099511627776),
 pr_ 62 (po_ 58 61),
 mv_ 63 62,
 gp_ 64 63 false (fa_ 5 1),
 gp_ 65 63 false (lf_ 1 64),
 gp_ 66 63 false (bk_ .gtr 65 .u64 1099511627776),
 pr_ 67 (po_ 63 66)]
 (.cond (.tmp 67)
 (sq_ [pr_ 2 mf_]
 .ret)
 .skip))
 (.seq (sq_ [mv_ 68 3,
 cl_ 69 127 [(.tmp 68),(.const (.int .u8 90))],
 pr_ 70 (no_ 69),
 mv_ 71 70,
 gp_ 72 71 true (fa_ 6 1),
 gp_ 73 71 true (lf_ 1 72),
 gp_ 74 71 true (bk_ .neq 73 .i64 0),
 pr_ 75 (pa_ 71 74),
 mv_ 76 75,
 gp_ 77 76 false (fa_ 6 1),
 gp_ 78 76 false (lf_ 1 77),
 gp_ 79 76 false (bk_ .lss 78 .i64 0),
 pr_ 80 (po_ 76 79),
 mv_ 81 80,
 gp_ 82 81 false (fa_ 6 1),
 gp_ 83 81 false (lf_ 1 82),
 gp_ 84 81 false (bk_ .gtr 83 .i64 3),
 pr_ 85 (po_ 81 84)]
 (.cond (.tmp 85)
 (sq_ [pr_ 2 mf_]
 .ret)
 .skip))
 (.seq (sq_ [mv_ 86 3,
 cl_ 87 127 [(.tmp 86),(.const (.int .u8 77))],
 pr_ 88 (no_ 87),
 mv_ 89 88,
 gp_ 90 89 true (fa_ 7 1),
 gp_ 91 89 true (lf_ 1 90),
 gp_ 92 89 true (.lenv (.tmp 91)),
 gp_ 93 89 true (bk_ .gtr 92 .i64 0),
 pr_ 94 (pa_ 89 93),
 mv_ 95 94,
 gp_ 96 95 false (mo_ 3),
 gc_ 97 95 false 127 [(.tmp 96),(.const (.int .u8 83))],
 gp_ 98 95 false (mo_ 97),
 gp_ 99 98 true (fa_ 7 1),
 gp_ 100 98 true (lf_ 1 99),
 gp_ 101 98 true (.lenv (.tmp 100)),
 gp_ 102 98 true (bk_ .eql 101 .i64 0),
 gp_ 103 95 false (pa_ 98 102),
 pr_ 104 (po_ 95 103),
 mv_ 105 104,
 gp_ 106 105 false (fa_ 7 1),
 gp_ 107 105 false (lf_ 1 106),
 gc_ 108 105 false 117 [(.tmp 107)],
 gp_ 109 105 false (no_ 108),
 pr_ 110 (po_ 105 109)]
 (.cond (.tmp 110)
 (sq_ [pr_ 2 mf_]
 .ret)
 .skip))
 (.seq (sq_ [mv_ 111 3,
 cl_ 112 127 [(.tmp 111),(.const (.int .u8 66))],
 pr_ 113 (no_ 112),
 mv_ 114 113,
 gp_ 115 114 true (fa_ 8 1),
 gp_ 116 114 true (lt_ 3 115),
 gc_ 117 114 true 128 [(.tmp 116)],
 gp_ 118 114 true (no_ 117),
 pr_ 119 (pa_ 114 118),
 mv_ 120 119,
 gp_ 121 120 false (fa_ 8 1),
 gp_ 122 120 false (lt_ 3 121),
 gc_ 123 120 false 120 [(.tmp 122)],
 gp_ 124 120 false (no_ 123),
 pr_ 125 (po_ 120 124)]
 (.cond (.tmp 125)
 (sq_ [pr_ 2 mf_]
 .ret)
 .skip))
 (.seq (sq_ [mv_ 126 3,
 cl_ 127 127 [(.tmp 126),(.const (.int .u8 82))],
 mv_ 128 127,
 gp_ 129 128 true (fa_ 11 1),
 gp_ 130 128 true (lt_ 6 129),
 gc_ 131 128 true 67 [(.tmp 130)],
 gp_ 132 128 true (no_ 131),
 pr_ 133 (pa_ 128 132),
 mv_ 134 133,
 gp_ 135 134 false (mo_ 3),
 gc_ 136 134 false 127 [(.tmp 135),(.const (.int .u8 82))],
 gp_ 137 134 false (no_ 136),
 gp_ 138 134 false (mo_ 137),
 gp_ 139 138 true (fa_ 11 1),
 gp_ 140 138 true (lt_ 6 139),
 gc_ 141 138 true 129 [(.tmp 140)],
 gp_ 142 138 true (no_ 141),
 gp_ 143 134 false (pa_ 138 142),
 pr_ 144 (po_ 134 143)]
 (.cond (.tmp 144)
 (sq_ [pr_ 2 mf_]
 .ret)
 .skip))
 (.seq (sq_ [mv_ 145 3,
 cl_ 146 127 [(.tmp 145),(.const (.int .u8 76))]]
 (.cond (.tmp 146)
 (sq_ [pr_ 147 (fa_ 17 1),
 pr_ 148 (lf_ 1 147),
 c1_ 149 130 148,
 mv_ 2 149]
 .ret)
 .skip))
 (sq_ [pr_ 150 (fa_ 17 1),
 pr_ 151 (lf_ 1 150),
 pr_ 152 (.lenv (.tmp 151)),
 pr_ 153 (bk_ .eql 152 .i64 0),
 mv_ 154 153,
 gp_ 155 154 true (fa_ 18 1),
 gp_ 156 154 true (lf_ 1 155),
 gc_ 157 154 true 48 [(.tmp 156)],
 gp_ 158 154 true (bk_ .eql 157 .u64 0),
 pr_ 159 (pa_ 154 158),
 mv_ 2 159]
 .ret))))))))))))
def o89:List Tmp:=[]
def r89:List RV:=[.tmp 2]
theorem t89:Text Tryz.prog 89 o89 c89 r89 160:=.mk_ Tryz.f89 rfl
def c95:ACode :=
 (sq_ [pr_ 2 (.mov (.const (.string (ByteArray.mk #[]))))]
 (.seq (sq_ [mv_ 3 0]
 (.block 0 (.seq (sq_ [pr_ 5 (bk_ .eql 3 .i64 1),
 mv_ 4 5]
 (.cond (.tmp 4)
 .skip
 (sq_ [pr_ 6 (bk_ .eql 3 .i64 14),
 mv_ 4 6]
 (.cond (.tmp 4)
 .skip
 (sq_ [pr_ 7 (bk_ .eql 3 .i64 16),
 mv_ 4 7]
 (.cond (.tmp 4)
 .skip
 (.ops [pr_ 8 (bk_ .eql 3 .i64 17),
 mv_ 4 8])))))))
 (.cond (.tmp 4)
 (sq_ [pr_ 2 (.mov (.const (.string (ByteArray.mk #[45]))))]
 .ret)
 (.seq (sq_ [pr_ 10 (bk_ .eql 3 .i64 2),
 mv_ 9 10]
 (.cond (.tmp 9)
 .skip
 (sq_ [pr_ 11 (bk_ .eql 3 .i64 7),
 mv_ 9 11]
 (.cond (.tmp 9)
 .skip
 (sq_ [pr_ 12 (bk_ .eql 3 .i64 10),
 mv_ 9 12]
 (.cond (.tmp 9)
 .skip
 (sq_ [pr_ 13 (bk_ .eql 3 .i64 12),
 mv_ 9 13]
 (.cond (.tmp 9)
 .skip
 (.ops [pr_ 14 (bk_ .eql 3 .i64 15),
 mv_ 9 14])))))))))
 (.cond (.tmp 9)
 (sq_ [pr_ 2 (.mov (.const (.string (ByteArray.mk #[73]))))]
 .ret)
 (.seq (sq_ [pr_ 16 (bk_ .eql 3 .i64 3),
 mv_ 15 16]
 (.cond (.tmp 15)
 .skip
 (.ops [pr_ 17 (bk_ .eql 3 .i64 4),
 mv_ 15 17])))
 (.cond (.tmp 15)
 (sq_ [pr_ 2 (.mov (.const (.string (ByteArray.mk #[73,84]))))]
 .ret)
 (sq_ [pr_ 19 (bk_ .eql 3 .i64 5),
 mv_ 18 19]
 (.cond (.tmp 18)
 (sq_ [pr_ 2 (.mov (.const (.string (ByteArray.mk #[83,69,77,66]))))]
 .ret)
 (sq_ [pr_ 21 (bk_ .eql 3 .i64 6),
 mv_ 20 21]
 (.cond (.tmp 20)
 (sq_ [pr_ 2 (.mov (.const (.string (ByteArray.mk #[73,83,69,77,66]))))]
 .ret)
 (sq_ [pr_ 23 (bk_ .eql 3 .i64 8),
 mv_ 22 23]
 (.cond (.tmp 22)
 (sq_ [pr_ 2 (.mov (.const (.string (ByteArray.mk #[90]))))]
 .ret)
 (sq_ [pr_ 25 (bk_ .eql 3 .i64 9),
 mv_ 24 25]
 (.cond (.tmp 24)
 (sq_ [pr_ 2 (.mov (.const (.string (ByteArray.mk #[82]))))]
 .ret)
 (sq_ [pr_ 27 (bk_ .eql 3 .i64 11),
 mv_ 26 27]
 (.cond (.tmp 26)
 (sq_ [pr_ 2 (.mov (.const (.string (ByteArray.mk #[76,86]))))]
 .ret)
 (sq_ [pr_ 29 (bk_ .eql 3 .i64 13),
 mv_ 28 29]
 (.cond (.tmp 28)
 (sq_ [pr_ 2 (.mov (.const (.string (ByteArray.mk #[77]))))]
 .ret)
 .skip))))))))))))))))))))
 (sq_ [pr_ 2 (.mov (.const (.string (ByteArray.mk #[]))))]
 .ret)))
def o95:List Tmp:=[]
def r95:List RV:=[.tmp 2]
theorem t95:Text Tryz.prog 95 o95 c95 r95 30:=.mk_ Tryz.f95 rfl
def c102:ACode :=
 (sq_ [pr_ 4 mf_]
 (.seq (sq_ [mv_ 6 0,
 pr_ 7 (.lenv (.tmp 6)),
 mv_ 8 1,
 pr_ 9 (.lenv (.tmp 8)),
 pr_ 10 (bt_ .neq 7 9)]
 (.cond (.tmp 10)
 (sq_ [pr_ 4 mf_]
 .ret)
 .skip))
 (.seq (sq_ [pr_ 5 (mi_ .i64 0)]
 (.block 0 (.loop [2,3,4,6,7,8,9,10,11,12,13,14,15,16,17,18,19,20,21,22,23,24,25] (.seq (sq_ [mv_ 11 5,
 mv_ 12 0,
 pr_ 13 (.lenv (.tmp 12)),
 pr_ 14 (bt_ .lss 11 13)]
 (.cond (.tmp 14)
 .skip
 (.exit 0)))
 (.seq (.block 1 (.seq (.draw [⟨mv_ 17 0,[],false,0,0⟩,
 ⟨mv_ 18 5,[],false,0,0⟩,
 ⟨pr_ 19 (.iadrs 2 (.tmp 17) (.tmp 18)),[0,1],false,0,0⟩,
 ⟨pr_ 20 (lt_ 2 19),[0,1,2],false,0,0⟩,
 ⟨mv_ 21 1,[],false,0,0⟩,
 ⟨mv_ 22 5,[],false,0,0⟩,
 ⟨pr_ 23 (.iadrs 2 (.tmp 21) (.tmp 22)),[4,5],false,0,0⟩,
 ⟨pr_ 24 (lt_ 2 23),[4,5,6],false,0,0⟩,
 ⟨pr_ 25 (.eqa true [.str,.str] (.tmp 20) (.tmp 24)),(List.range 8),false,0,0⟩])
 (.cond (.tmp 25)
 (sq_ [pr_ 4 mf_]
 .ret)
 .skip)))
 (.ops [mv_ 15 5,
 pr_ 16 (bk_ .add 15 .i64 1),
 mv_ 5 16]))))))
 (sq_ [pr_ 4 mt_]
 .ret))))
def o102:List Tmp:=[]
def r102:List RV:=[.tmp 4]
theorem t102:Text Tryz.prog 102 o102 c102 r102 26:=.mk_ Tryz.f102 rfl
def c105:ACode :=
 (sq_ [pr_ 6 (mi_ .i64 0),
 pr_ 7 mf_]
 (sq_ [pr_ 8 (mi_ .u64 0),
 pr_ 9 (mi_ .i64 0),
 pr_ 10 mt_]
 (.seq (sq_ [mv_ 13 1]
 (.block 0 (.seq (sq_ [pr_ 15 (bk_ .eql 13 .u8 73),
 mv_ 14 15]
 (.cond (.tmp 14)
 .skip
 (sq_ [pr_ 16 (bk_ .eql 13 .u8 83),
 mv_ 14 16]
 (.cond (.tmp 14)
 .skip
 (.ops [pr_ 17 (bk_ .eql 13 .u8 69),
 mv_ 14 17])))))
 (.cond (.tmp 14)
 (sq_ [mv_ 19 2,
 c1_ 20 65 19,
 mv_ 18 20,
 pr_ 21 (ex_ 0 18),
 pr_ 22 (ex_ 1 18),
 pr_ 23 (ex_ 2 18),
 mv_ 8 21,
 mv_ 9 22,
 mv_ 10 23]
 (.seq (sq_ [mv_ 24 8,
 pr_ 25 (bk_ .gtr 24 .u64 1099511627776)]
 (.cond (.tmp 25)
 (sq_ [pr_ 6 (mi_ .i64 0),
 pr_ 7 mf_]
 .ret)
 .skip))
 (sq_ [mv_ 26 1]
 (.block 1 (sq_ [pr_ 32 (bk_ .eql 26 .u8 73),
 mv_ 31 32]
 (.cond (.tmp 31)
 (.ops [mv_ 33 0,
 mv_ 34 8,
 pr_ 35 (.convi .i64 (.tmp 34)),
 pr_ 36 (nc_ 33),
 pr_ 37 (fa_ 2 36),
 st_ (so_ 1 37 35)])
 (sq_ [pr_ 39 (bk_ .eql 26 .u8 83),
 mv_ 38 39]
 (.cond (.tmp 38)
 (.ops [mv_ 40 0,
 mv_ 41 8,
 pr_ 42 (nc_ 40),
 pr_ 43 (fa_ 4 42),
 st_ (so_ 1 43 41)])
 (.ops [mv_ 27 0,
 mv_ 28 8,
 pr_ 29 (nc_ 27),
 pr_ 30 (fa_ 5 29),
 st_ (so_ 1 30 28)])))))))))
 (sq_ [pr_ 45 (bk_ .eql 13 .u8 84),
 mv_ 44 45]
 (.cond (.tmp 44)
 (.ops [mv_ 47 0,
 mv_ 48 2,
 cl_ 49 66 [(.tmp 48),(.const (.int .i64 16))],
 mv_ 46 49,
 pr_ 50 (ex_ 0 46),
 pr_ 51 (ex_ 1 46),
 pr_ 52 (ex_ 2 46),
 pr_ 53 (nc_ 47),
 pr_ 54 (fa_ 3 53),
 st_ (so_ 1 54 50),
 mv_ 9 51,
 mv_ 10 52])
 (sq_ [pr_ 56 (bk_ .eql 13 .u8 90),
 mv_ 55 56]
 (.cond (.tmp 55)
 (.seq (sq_ [mv_ 57 2,
 pr_ 58 (.lenv (.tmp 57)),
 pr_ 59 (bk_ .eql 58 .i64 0)]
 (.cond (.tmp 59)
 (sq_ [pr_ 6 (mi_ .i64 0),
 pr_ 7 mf_]
 .ret)
 .skip))
 (.ops [mv_ 60 0,
 mv_ 61 2,
 pr_ 62 (.iadrs 1 (.tmp 61) (.const (.int .i64 0))),
 pr_ 63 (lf_ 1 62),
 pr_ 64 (.convi .i64 (.tmp 63)),
 pr_ 65 (nc_ 60),
 pr_ 66 (fa_ 6 65),
 st_ (so_ 1 66 64),
 pr_ 9 (mi_ .i64 1)]))
 (sq_ [pr_ 68 (bk_ .eql 13 .u8 77),
 mv_ 67 68]
 (.cond (.tmp 67)
 (.ops [mv_ 70 0,
 mv_ 71 2,
 c1_ 72 63 71,
 mv_ 69 72,
 pr_ 73 (ex_ 0 69),
 pr_ 74 (ex_ 1 69),
 pr_ 75 (ex_ 2 69),
 pr_ 76 (nc_ 70),
 pr_ 77 (fa_ 7 76),
 st_ (so_ 1 77 73),
 mv_ 9 74,
 mv_ 10 75])
 (sq_ [pr_ 79 (bk_ .eql 13 .u8 66),
 mv_ 78 79]
 (.cond (.tmp 78)
 (.ops [mv_ 81 0,
 mv_ 82 2,
 c1_ 83 64 82,
 mv_ 80 83,
 pr_ 84 (ex_ 0 80),
 pr_ 85 (ex_ 1 80),
 pr_ 86 (ex_ 2 80),
 pr_ 87 (nc_ 81),
 pr_ 88 (fa_ 8 87),
 st_ (so_ 3 88 84),
 mv_ 9 85,
 mv_ 10 86])
 (sq_ [pr_ 90 (bk_ .eql 13 .u8 82),
 mv_ 89 90]
 (.cond (.tmp 89)
 (.ops [mv_ 92 0,
 mv_ 93 2,
 c1_ 94 18 93,
 mv_ 91 94,
 pr_ 95 (ex_ 0 91),
 pr_ 96 (ex_ 1 91),
 pr_ 97 (ex_ 2 91),
 pr_ 98 (nc_ 92),
 pr_ 99 (fa_ 11 98),
 st_ (so_ 6 99 95),
 mv_ 9 96,
 mv_ 10 97])
 (sq_ [pr_ 101 (bk_ .eql 13 .u8 76),
 mv_ 100 101]
 (.cond (.tmp 100)
 (.ops [mv_ 103 0,
 mv_ 104 2,
 c1_ 105 141 104,
 mv_ 102 105,
 pr_ 106 (ex_ 0 102),
 pr_ 107 (ex_ 1 102),
 pr_ 108 (ex_ 2 102),
 pr_ 109 (nc_ 103),
 pr_ 110 (fa_ 17 109),
 st_ (so_ 1 110 106),
 mv_ 9 107,
 mv_ 10 108])
 (sq_ [pr_ 112 (bk_ .eql 13 .u8 86),
 mv_ 111 112]
 (.cond (.tmp 111)
 (sq_ [mv_ 114 2,
 c1_ 115 118 114,
 mv_ 113 115,
 pr_ 116 (ex_ 0 113),
 pr_ 117 (ex_ 1 113),
 mv_ 8 116,
 mv_ 10 117]
 (sq_ [mv_ 119 8,
 c1_ 120 119 119,
 mv_ 118 120,
 pr_ 121 (ex_ 0 118),
 pr_ 122 (ex_ 1 118),
 mv_ 11 121,
 mv_ 12 122]
 (.ops [mv_ 123 0,
 mv_ 124 11,
 mv_ 125 10,
 mv_ 126 125,
 gp_ 127 126 true (mo_ 12),
 pr_ 128 (pa_ 126 127),
 pr_ 129 (nc_ 123),
 pr_ 130 (fa_ 18 129),
 st_ (so_ 1 130 124),
 pr_ 9 (mi_ .i64 8),
 mv_ 10 128])))
 .skip))))))))))))))))))
 (sq_ [mv_ 131 9,
 mv_ 132 10,
 mv_ 6 131,
 mv_ 7 132]
 .ret))))
def o105:List Tmp:=[]
def r105:List RV:=[.tmp 6,.tmp 7]
theorem t105:Text Tryz.prog 105 o105 c105 r105 133:=.mk_ Tryz.f105 rfl
def c127:ACode :=
 (sq_ [pr_ 4 mf_]
 (.seq (sq_ [pr_ 5 (mi_ .i64 0)]
 (.block 0 (.loop [2,3,4,6,7,8,9,10,11,12,13,14,15,16] (.seq (sq_ [mv_ 6 5,
 mv_ 7 0,
 pr_ 8 (.lens (.tmp 7)),
 pr_ 9 (bt_ .lss 6 8)]
 (.cond (.tmp 9)
 .skip
 (.exit 0)))
 (.seq (.block 1 (sq_ [mv_ 12 0,
 mv_ 13 5,
 pr_ 14 (.idxs (.tmp 12) (.tmp 13)),
 mv_ 15 1,
 pr_ 16 (bt_ .eql 14 15)]
 (.cond (.tmp 16)
 (sq_ [pr_ 4 mt_]
 .ret)
 .skip)))
 (.ops [mv_ 10 5,
 pr_ 11 (bk_ .add 10 .i64 1),
 mv_ 5 11]))))))
 (sq_ [pr_ 4 mf_]
 .ret)))
def o127:List Tmp:=[]
def r127:List RV:=[.tmp 4]
theorem t127:Text Tryz.prog 127 o127 c127 r127 17:=.mk_ Tryz.f127 rfl
def c128:ACode :=
 (sq_ [pr_ 1 (.boxr (.tmp 0)),
 pr_ 2 mf_]
 (sq_ [pr_ 3 (fa_ 0 1),
 pr_ 4 (lf_ 1 3),
 pr_ 5 (no_ 4),
 mv_ 6 5,
 gp_ 7 6 true (fa_ 1 1),
 gp_ 8 6 true (lf_ 1 7),
 gc_ 9 6 true 48 [(.tmp 8)],
 gp_ 10 6 true (bk_ .eql 9 .u64 0),
 pr_ 11 (pa_ 6 10),
 mv_ 12 11,
 gp_ 13 12 true (fa_ 2 1),
 gp_ 14 12 true (lf_ 1 13),
 gc_ 15 12 true 48 [(.tmp 14)],
 gp_ 16 12 true (bk_ .eql 15 .u64 0),
 pr_ 17 (pa_ 12 16),
 mv_ 2 17]
 .ret))
def o128:List Tmp:=[]
def r128:List RV:=[.tmp 2]
theorem t128:Text Tryz.prog 128 o128 c128 r128 18:=.mk_ Tryz.f128 rfl
def c129:ACode :=
 (sq_ [pr_ 1 (.boxr (.tmp 0)),
 pr_ 2 mf_]
 (sq_ [pr_ 3 (fa_ 0 1),
 pr_ 4 (lf_ 1 3),
 pr_ 5 (.lenv (.tmp 4)),
 pr_ 6 (bk_ .eql 5 .i64 0),
 mv_ 7 6,
 gp_ 8 7 true (fa_ 1 1),
 gp_ 9 7 true (lf_ 1 8),
 gp_ 10 7 true (.lenv (.tmp 9)),
 gp_ 11 7 true (bk_ .eql 10 .i64 0),
 pr_ 12 (pa_ 7 11),
 mv_ 13 12,
 gp_ 14 13 true (fa_ 2 1),
 gp_ 15 13 true (lt_ 3 14),
 gc_ 16 13 true 128 [(.tmp 15)],
 pr_ 17 (pa_ 13 16),
 mv_ 18 17,
 gp_ 19 18 true (fa_ 5 1),
 gp_ 20 18 true (lf_ 1 19),
 gp_ 21 18 true (.lenv (.tmp 20)),
 gp_ 22 18 true (bk_ .eql 21 .i64 0),
 pr_ 23 (pa_ 18 22),
 mv_ 2 23]
 .ret))
def o129:List Tmp:=[]
def r129:List RV:=[.tmp 2]
theorem t129:Text Tryz.prog 129 o129 c129 r129 24:=.mk_ Tryz.f129 rfl
def c141:ACode :=
 (sq_ [pr_ 2 (.mov (.const (.slice none 0 0))),
 pr_ 3 (mi_ .i64 0),
 pr_ 4 mf_]
 (sq_ [mv_ 17 0,
 c1_ 18 65 17,
 mv_ 16 18,
 pr_ 19 (ex_ 0 16),
 pr_ 20 (ex_ 1 16),
 pr_ 21 (ex_ 2 16),
 mv_ 5 19,
 mv_ 6 20,
 mv_ 7 21]
 (.seq (sq_ [mv_ 22 7,
 pr_ 23 (no_ 22),
 mv_ 24 23,
 gp_ 25 24 false (mo_ 5),
 gp_ 26 24 false (bk_ .gtr 25 .u64 6),
 pr_ 27 (po_ 24 26)]
 (.cond (.tmp 27)
 (sq_ [pr_ 2 (.mov (.const (.slice none 0 0))),
 pr_ 3 (mi_ .i64 0),
 pr_ 4 mf_]
 (.ghost (.shut 2) .ret))
 .skip))
 (.seq (.after (.ops [pr_ 8 (.mov (.const (.slice none 0 0)))]) (.own 8 2))
 (.seq (sq_ [pr_ 9 (mi_ .i64 0)]
 (.block 0 (.loop [1,2,3,4,7,10,11,12,13,14,15,16,17,18,19,20,21,22,23,24,25,26,27,28,29,30,31,32,33,34,35,36,37,38,39,40,41,42,43,44,45,46,47,48,49,50,51,52,53,54,55,56,57,58,59,60,61,62,63,64,65,66,67,68,69,70] (.seq (sq_ [mv_ 28 9,
 mv_ 29 5,
 pr_ 30 (.convi .i64 (.tmp 29)),
 pr_ 31 (bt_ .lss 28 30)]
 (.cond (.tmp 31)
 .skip
 (.exit 0)))
 (.seq (.block 1 (sq_ [mv_ 35 0,
 mv_ 36 6,
 pr_ 37 (.slcv 1 (.tmp 35) (some (.tmp 36)) none),
 cl_ 38 66 [(.tmp 37),(.const (.int .i64 12))],
 mv_ 34 38,
 pr_ 39 (ex_ 0 34),
 pr_ 40 (ex_ 1 34),
 pr_ 41 (ex_ 2 34),
 mv_ 10 39,
 mv_ 11 40,
 mv_ 12 41]
 (.seq (sq_ [mv_ 42 12,
 pr_ 43 (no_ 42)]
 (.cond (.tmp 43)
 (sq_ [pr_ 2 (.mov (.const (.slice none 0 0))),
 pr_ 3 (mi_ .i64 0),
 pr_ 4 mf_]
 (.ghost (.shut 2) .ret))
 .skip))
 (sq_ [mv_ 44 6,
 mv_ 45 11,
 pr_ 46 (bt_ .add 44 45),
 mv_ 6 46]
 (sq_ [mv_ 48 0,
 mv_ 49 6,
 pr_ 50 (.slcv 1 (.tmp 48) (some (.tmp 49)) none),
 cl_ 51 66 [(.tmp 50),(.const (.int .i64 24))],
 mv_ 47 51,
 pr_ 52 (ex_ 0 47),
 pr_ 53 (ex_ 1 47),
 pr_ 54 (ex_ 2 47),
 mv_ 13 52,
 mv_ 14 53,
 mv_ 15 54]
 (.seq (sq_ [mv_ 55 15,
 pr_ 56 (no_ 55)]
 (.cond (.tmp 56)
 (sq_ [pr_ 2 (.mov (.const (.slice none 0 0))),
 pr_ 3 (mi_ .i64 0),
 pr_ 4 mf_]
 (.ghost (.shut 2) .ret))
 .skip))
 (sq_ [mv_ 57 6,
 mv_ 58 14,
 pr_ 59 (bt_ .add 57 58),
 mv_ 6 59]
 (.ops [mv_ 60 8,
 mv_ 61 10,
 mv_ 62 13,
 pr_ 63 (.build [.pl (.string .empty),.pl (.string .empty)] [(0,1,(.tmp 61)),(1,1,(.tmp 62))]),
 pr_ 64 (.bsl false 2 true 1 [.pl (.string .empty),.pl (.string .empty)] [(0,2,(.tmp 63))]),
 pr_ 65 (.app 2 (.tmp 60) (.tmp 64)),
 mv_ 8 65]))))))))
 (.ops [mv_ 32 9,
 pr_ 33 (bk_ .add 32 .i64 1),
 mv_ 9 33]))))))
 (.seq (.seq (.ghost (.shut 8) (.ops [mv_ 66 8,
 c1_ 67 130 66,
 pr_ 68 (no_ 67)]))
 (.cond (.tmp 68)
 (sq_ [pr_ 2 (.mov (.const (.slice none 0 0))),
 pr_ 3 (mi_ .i64 0),
 pr_ 4 mf_]
 (.ghost (.shut 2) .ret))
 .skip))
 (sq_ [mv_ 69 8,
 mv_ 70 6,
 mv_ 2 69,
 mv_ 3 70,
 pr_ 4 mt_]
 (.ghost (.shut 2) .ret))))))))
def o141:List Tmp:=[]
def r141:List RV:=[.tmp 2,.tmp 3,.tmp 4]
theorem t141:Text Tryz.prog 141 o141 c141 r141 71:=.mk_ Tryz.f141 rfl
end Go.Proofs.YtmkmhhjkdaklbaaGreat
namespace Go.Proofs.YtmkmhhjkdaklbaaGreat
open Go Go.Ab Go.Cod
set_option maxRecDepth 100000
def dTab:List ByteArray:=[⟨#[45]⟩,⟨#[73]⟩,⟨#[73,84]⟩,⟨#[73,84]⟩,⟨#[83,69,77,66]⟩,⟨#[73,83,69,77,66]⟩,⟨#[73]⟩,⟨#[90]⟩,⟨#[82]⟩,⟨#[73]⟩,⟨#[76,86]⟩,⟨#[73]⟩,⟨#[77]⟩,⟨#[45]⟩,⟨#[73]⟩,⟨#[45]⟩,⟨#[45]⟩]
def dOf (op:Int):ByteArray:=if 1≤op∧op≤17 then dTab.getD (op.toNat-1) ⟨#[]⟩ else⟨#[]⟩
theorem zdF {op:Int} (h:op<1∨17<op):dOf op=⟨#[]⟩:=by unfold dOf;rw[if_neg (by omega)]
def hasC (s:ByteArray) (c:Nat):Bool:=!((List.range s.size).all fun i=>!((byteAt s i:Int)==(c:Int)))
section
variable (σ:St)
theorem z0r (op:Int):Ans Tryz.prog 95 [I op] σ (Sx (dOf op)) σ:=by
 refine Ans.of_run t95 ?_;rcases ops17 op with rfl|rfl|rfl|rfl|rfl|rfl|rfl|rfl|rfl|rfl|rfl|rfl|rfl|rfl|rfl|rfl|rfl|h
 all_goals first
  |(rw[zdF h]
    simp -implicitDefEqProofs only[c95,r95,go_sem,neI (op:=op) (k:=1) (by omega),neI (op:=op) (k:=2) (by omega),neI (op:=op) (k:=3) (by omega),neI (op:=op) (k:=4) (by omega),neI (op:=op) (k:=5) (by omega),neI (op:=op) (k:=6) (by omega),neI (op:=op) (k:=7) (by omega),neI (op:=op) (k:=8) (by omega),neI (op:=op) (k:=9) (by omega),neI (op:=op) (k:=10) (by omega),neI (op:=op) (k:=11) (by omega),neI (op:=op) (k:=12) (by omega),neI (op:=op) (k:=13) (by omega),neI (op:=op) (k:=14) (by omega),neI (op:=op) (k:=15) (by omega),neI (op:=op) (k:=16) (by omega),neI (op:=op) (k:=17) (by omega)]
    exact Fini.ret rfl)
  |(simp -implicitDefEqProofs only[c95,r95,go_sem]
    exact Fini.ret rfl)
theorem z2k (s:ByteArray):Ans Tryz.prog 88 [Sx s] σ (Bo (tokB s)) σ:=by
 have d1:decide ((4:Int)≤(s.size:Nat))=decide (4≤s.size):=intle 4 s.size;have d2:decide (((s.size:Nat):Int)≤16)=decide (s.size≤16):=intle s.size 16;refine Ans.of_run t88 ?_;unfold tokB
 cases h:decide (4≤s.size) with
 |false =>
  simp -implicitDefEqProofs only[c88,r88,go_sem,d1,h];exact Fini.ret rfl
 |true =>
  simp -implicitDefEqProofs only[c88,r88,go_sem,d1,d2,h];exact Fini.ret rfl
theorem z1v (x:Bnd):Ans Tryz.prog 128 [bandV x] σ (Bo (noBd x)) σ:=by
 obtain⟨a,lo,hi⟩:=x;refine Ans.of_run t128 ?_;unfold bandV noBd;simp only
 cases a with
 |true =>
  simp -implicitDefEqProofs only[c128,r128,go_sem];exact Fini.ret rfl
 |false =>
  simp -implicitDefEqProofs only[c128,r128,go_sem];refine CO.intro (z0D σ lo) ?_;unfold zF
  cases h:(((bitsF lo:Nat):Int)==0) with
  |false =>
   simp -implicitDefEqProofs only[go_sem,h];exact Fini.ret rfl
  |true =>
   simp -implicitDefEqProofs only[go_sem,h];refine CO.intro (z0D σ hi) ?_;simp -implicitDefEqProofs only[go_sem];exact Fini.ret rfl
theorem z1K (r:RuM):Ans Tryz.prog 129 [ruV r] σ (Bo (noRl r)) σ:=by
 have hb:=z1v σ (r.any,r.lo,r.hi)
 have e:noRl r=(emI r.src.length&&(emI r.tgt.length&&(noBd (r.any,r.lo,r.hi)&&emI r.eq.length))):=by
  unfold noRl;cases emI r.src.length<;>cases emI r.tgt.length<;>cases emI r.eq.length<;>cases noBd (r.any,r.lo,r.hi)<;>rfl
 rw[e];refine Ans.of_run t129 ?_;unfold ruV emI;unfold bandV at hb
 cases h1:(((r.src.length:Nat):Int)==0) with
 |false =>
  simp -implicitDefEqProofs only[c129,r129,go_sem,z0n,h1];exact Fini.ret rfl
 |true =>
 cases h2:(((r.tgt.length:Nat):Int)==0) with
 |false =>
  simp -implicitDefEqProofs only[c129,r129,go_sem,z0n,h1,h2];exact Fini.ret rfl
 |true =>
  simp -implicitDefEqProofs only[c129,r129,go_sem,z0n,z0A,h1,h2];refine CO.intro hb ?_
  cases noBd (r.any,r.lo,r.hi) with
  |false =>
   simp -implicitDefEqProofs only[go_sem];exact Fini.ret rfl
  |true =>
   simp -implicitDefEqProofs only[go_sem,z0A];exact Fini.ret rfl
theorem z2y (s:ByteArray) (c:Nat) (hs:s.size≤100000):Ans Tryz.prog 127 [Sx s,.pl (.int .u8 c)] σ (Bo (hasC s c)) σ:=by
 refine Ans.of_run t127 ?_;simp -implicitDefEqProofs only[c127,r127,go_sem];unfold hasC;refine Go.Ab.L.scan s.size (fun i=>!((byteAt s i:Int)==(c:Int))) (fun i=>mkE 17 [(0,Sx s),(1,.pl (.int .u8 c)),(5,I i)]) (fun _=>σ) ?_ ?_ rfl rfl
 · intro i hi hp J hJ;have hlt:((i:Int)<s.size)=True:=by simp;omega
   have hin:=wrap_succ (i:=i) (by omega)
   have hF:(!((byteAt s i:Int)==(c:Int)))=false→((List.range s.size).all fun i=>!((byteAt s i:Int)==(c:Int)))=false:=fun h=>List.all_eq_false.2 ⟨i,List.mem_range.2 hi,by rw[h];decide⟩
   cases h:((byteAt s i:Int)==(c:Int)) with
   |true =>
    rw[hF (by rw[h];rfl)]
    simp -implicitDefEqProofs only[mkE,go_sem,hlt,dec_lt hi,z08,h];exact Fini.ret rfl
   |false =>
    rw[h]at hJ;have hgo:=hJ rfl;simp -implicitDefEqProofs only[mkE,go_sem,hlt,dec_lt hi,z08,h,hin];exact hgo
 · intro hp J;have hd:decide ((s.size:Int)<s.size)=false:=by simp
   simp -implicitDefEqProofs only[mkE,go_sem,hd];refine Fini.ret' rfl (z0U ?_);rw[List.all_eq_true.2 fun i hi=>hp i (List.mem_range.1 hi)];rfl
end
end Go.Proofs.YtmkmhhjkdaklbaaGreat
