/- What an act draws: a request, at some of the ops. Printed by a program. No condition. -/
import Derived.Test.YtmkmhhjkdaklbaaGreatRg2x
import Derived.Test.YtmkmhhjkdaklbaaGreatXNinex
import Derived.Test.YtmkmhhjkdaklbaaGreatRc9x
import Derived.Test.YtmkmhhjkdaklbaaGreatProg
import Derived.Test.YtmkmhhjkdaklbaaGreatAbStepx
set_option linter.unusedSimpArgs false
set_option linter.unusedVariables false
set_option linter.unusedSectionVars false
namespace Go.Proofs.YtmkmhhjkdaklbaaGreat
open Go Go.Ab Go.Cod
set_option maxRecDepth 100000
section
variable (σ:St)
set_option maxHeartbeats 4000000 in
theorem act_1 (a:AcM) (e:opA a=1):Ans Tryz.prog 41 [acV a] σ (reV (z08 a)) σ:=by
 have h1:=fun s=>z0f s a.who 0 6 (by decide) (by decide) (by decide)
 have h2:=fun s=>z0B s (inD a.who 0 6)
 have h3:∀s,Ans Tryz.prog 99 [I a.what,I 1,I 17] s (I 1) s:=fun s=>by
  have:=z0f s a.what 1 17 (by decide) (by decide) (by decide)
  have e:inD a.what 1 17=1:=e;rw[e]at this;exact this
 have hD:z08 a=baseR a:=by
  unfold z08;simp[e]
 rw[hD];unfold baseR;rw[e];generalize tokOf (inD a.who 0 6)=tk at h2⊢;generalize inD a.who 0 6=w at h1 h2;refine Ans.subR (r:=.agg [Sx tk,I 1,I 0,Sx ⟨#[]⟩,UN 0,UN 0,I 0,.nils,Bo false,Fl 0,Fl 0,.nils,.nils,Bo false,Fl 0,Fl 0,.nils,.nils,Fl 0]) ?_ (.agg (.cons (.refl _) <| .cons (.refl _) <| .cons (.refl _) <| .cons (.refl _) <| .cons (.refl _) <| .cons (.refl _) <| .cons (.refl _) <| .cons (.nils 3) <| .cons (.refl _) <| .cons (.refl _) <| .cons (.refl _) <| .cons (.nils 3) <| .cons (.nils 3) <| .cons (.refl _) <| .cons (.refl _) <| .cons (.refl _) <| .cons (.nils 1) <| .cons (.nils 2) <| .cons (.refl _) <| .nil))
 have hbl:Bel σ.length (.agg [Sx tk,I 1,I 0,Sx ⟨#[]⟩,UN 0,UN 0,I 0,.nils,Bo false,Fl 0,Fl 0,.nils,.nils,Bo false,Fl 0,Fl 0,.nils,.nils,Fl 0]):=.agg _ (fun i hi=>by
  have:∀y∈([Sx tk,I 1,I 0,Sx ⟨#[]⟩,UN 0,UN 0,I 0,.nils,Bo false,Fl 0,Fl 0,.nils,.nils,Bo false,Fl 0,Fl 0,.nils,.nils,Fl 0]:List AV),Bel σ.length y:=by
   intro y hy;simp only[List.mem_cons,List.not_mem_nil,or_false]at hy;rcases hy with rfl|rfl|rfl|rfl|rfl|rfl|rfl|rfl|rfl|rfl|rfl|rfl|rfl|rfl|rfl|rfl|rfl|rfl|rfl
   all_goals first|exact .pl _|exact .nils|exact z0q _ _|exact z0A _ _|exact z0s _ _
  exact this _ (List.getElem_mem hi))
 refine Ans.of_run' t41 (fun hbel _=>?_)
 unfold acV acC;simp -implicitDefEqProofs only[c41,r41,go_sem,z00];refine CS.intro h1 ?_;simp -implicitDefEqProofs only[go_sem,z00];refine CS.intro h2 ?_;simp -implicitDefEqProofs only[go_sem,z00];refine CS.intro h3 ?_;simp -implicitDefEqProofs only[go_sem,z00,List.append_assoc,List.length_append,g0,g1,s0,s1];exact tr_ (σ':=σ) (ex:=[_,_]) rfl hbl hbel
set_option maxHeartbeats 4000000 in
theorem act_2 (a:AcM) (e:opA a=2):Ans Tryz.prog 41 [acV a] σ (reV (z08 a)) σ:=by
 have h1:=fun s=>z0f s a.who 0 6 (by decide) (by decide) (by decide)
 have h2:=fun s=>z0B s (inD a.who 0 6)
 have h3:∀s,Ans Tryz.prog 99 [I a.what,I 1,I 17] s (I 2) s:=fun s=>by
  have:=z0f s a.what 1 17 (by decide) (by decide) (by decide)
  have e:inD a.what 1 17=2:=e;rw[e]at this;exact this
 have hD:z08 a={ baseR a with id:=inD a.id 0 20 }:=by
  unfold z08;simp[e]
 rw[hD];unfold baseR;rw[e];generalize tokOf (inD a.who 0 6)=tk at h2⊢;generalize inD a.who 0 6=w at h1 h2;have k1:=fun s=>z0f s a.id 0 20 (by decide) (by decide) (by decide)
 generalize inD a.id 0 20=v1 at k1⊢;refine Ans.subR (r:=.agg [Sx tk,I 2,I v1,Sx ⟨#[]⟩,UN 0,UN 0,I 0,.nils,Bo false,Fl 0,Fl 0,.nils,.nils,Bo false,Fl 0,Fl 0,.nils,.nils,Fl 0]) ?_ (.agg (.cons (.refl _) <| .cons (.refl _) <| .cons (.refl _) <| .cons (.refl _) <| .cons (.refl _) <| .cons (.refl _) <| .cons (.refl _) <| .cons (.nils 3) <| .cons (.refl _) <| .cons (.refl _) <| .cons (.refl _) <| .cons (.nils 3) <| .cons (.nils 3) <| .cons (.refl _) <| .cons (.refl _) <| .cons (.refl _) <| .cons (.nils 1) <| .cons (.nils 2) <| .cons (.refl _) <| .nil))
 have hbl:Bel σ.length (.agg [Sx tk,I 2,I v1,Sx ⟨#[]⟩,UN 0,UN 0,I 0,.nils,Bo false,Fl 0,Fl 0,.nils,.nils,Bo false,Fl 0,Fl 0,.nils,.nils,Fl 0]):=.agg _ (fun i hi=>by
  have:∀y∈([Sx tk,I 2,I v1,Sx ⟨#[]⟩,UN 0,UN 0,I 0,.nils,Bo false,Fl 0,Fl 0,.nils,.nils,Bo false,Fl 0,Fl 0,.nils,.nils,Fl 0]:List AV),Bel σ.length y:=by
   intro y hy;simp only[List.mem_cons,List.not_mem_nil,or_false]at hy;rcases hy with rfl|rfl|rfl|rfl|rfl|rfl|rfl|rfl|rfl|rfl|rfl|rfl|rfl|rfl|rfl|rfl|rfl|rfl|rfl
   all_goals first|exact .pl _|exact .nils|exact z0q _ _|exact z0A _ _|exact z0s _ _
  exact this _ (List.getElem_mem hi))
 refine Ans.of_run' t41 (fun hbel _=>?_)
 unfold acV acC;simp -implicitDefEqProofs only[c41,r41,go_sem,z00];refine CS.intro h1 ?_;simp -implicitDefEqProofs only[go_sem,z00];refine CS.intro h2 ?_;simp -implicitDefEqProofs only[go_sem,z00];refine CS.intro h3 ?_;simp -implicitDefEqProofs only[go_sem,z00,List.append_assoc,List.length_append,g0,g1,s0,s1];refine CO.intro (k1 _) ?_;simp -implicitDefEqProofs only[go_sem,g0,g1,s0,s1];exact tr_ (σ':=σ) (ex:=[_,_]) rfl hbl hbel
set_option maxHeartbeats 4000000 in
theorem act_3 (a:AcM) (e:opA a=3):Ans Tryz.prog 41 [acV a] σ (reV (z08 a)) σ:=by
 have h1:=fun s=>z0f s a.who 0 6 (by decide) (by decide) (by decide)
 have h2:=fun s=>z0B s (inD a.who 0 6)
 have h3:∀s,Ans Tryz.prog 99 [I a.what,I 1,I 17] s (I 3) s:=fun s=>by
  have:=z0f s a.what 1 17 (by decide) (by decide) (by decide)
  have e:inD a.what 1 17=3:=e;rw[e]at this;exact this
 have hD:z08 a={ baseR a with id:=inD a.id 0 7,txt:=tokOf (emodW a.sta 0 6) }:=by
  unfold z08;simp[e]
 rw[hD];unfold baseR;rw[e];generalize tokOf (inD a.who 0 6)=tk at h2⊢;generalize inD a.who 0 6=w at h1 h2;have k1:=fun s=>z0f s a.id 0 7 (by decide) (by decide) (by decide)
 have k2:=fun s=>z2O s a.sta 0 6 (by decide) (by decide) (by decide)
 have k3:=fun s=>z0B s (emodW a.sta 0 6)
 generalize inD a.id 0 7=v1 at k1⊢;generalize tokOf (emodW a.sta 0 6)=v2 at k3⊢;generalize emodW a.sta 0 6=v3 at k2 k3;refine Ans.subR (r:=.agg [Sx tk,I 3,I v1,Sx v2,UN 0,UN 0,I 0,.nils,Bo false,Fl 0,Fl 0,.nils,.nils,Bo false,Fl 0,Fl 0,.nils,.nils,Fl 0]) ?_ (.agg (.cons (.refl _) <| .cons (.refl _) <| .cons (.refl _) <| .cons (.refl _) <| .cons (.refl _) <| .cons (.refl _) <| .cons (.refl _) <| .cons (.nils 3) <| .cons (.refl _) <| .cons (.refl _) <| .cons (.refl _) <| .cons (.nils 3) <| .cons (.nils 3) <| .cons (.refl _) <| .cons (.refl _) <| .cons (.refl _) <| .cons (.nils 1) <| .cons (.nils 2) <| .cons (.refl _) <| .nil))
 have hbl:Bel σ.length (.agg [Sx tk,I 3,I v1,Sx v2,UN 0,UN 0,I 0,.nils,Bo false,Fl 0,Fl 0,.nils,.nils,Bo false,Fl 0,Fl 0,.nils,.nils,Fl 0]):=.agg _ (fun i hi=>by
  have:∀y∈([Sx tk,I 3,I v1,Sx v2,UN 0,UN 0,I 0,.nils,Bo false,Fl 0,Fl 0,.nils,.nils,Bo false,Fl 0,Fl 0,.nils,.nils,Fl 0]:List AV),Bel σ.length y:=by
   intro y hy;simp only[List.mem_cons,List.not_mem_nil,or_false]at hy;rcases hy with rfl|rfl|rfl|rfl|rfl|rfl|rfl|rfl|rfl|rfl|rfl|rfl|rfl|rfl|rfl|rfl|rfl|rfl|rfl
   all_goals first|exact .pl _|exact .nils|exact z0q _ _|exact z0A _ _|exact z0s _ _
  exact this _ (List.getElem_mem hi))
 refine Ans.of_run' t41 (fun hbel _=>?_)
 unfold acV acC;simp -implicitDefEqProofs only[c41,r41,go_sem,z00];refine CS.intro h1 ?_;simp -implicitDefEqProofs only[go_sem,z00];refine CS.intro h2 ?_;simp -implicitDefEqProofs only[go_sem,z00];refine CS.intro h3 ?_;simp -implicitDefEqProofs only[go_sem,z00,List.append_assoc,List.length_append,g0,g1,s0,s1];refine CD.intro (k1 _) ?_;simp -implicitDefEqProofs only[go_sem,g0,g1,s0,s1];refine CD.intro (k2 _) ?_;simp -implicitDefEqProofs only[go_sem,g0,g1,s0,s1];refine CD.intro (k3 _) ?_;simp -implicitDefEqProofs only[go_sem,g0,g1,s0,s1];exact tr_ (σ':=σ) (ex:=[_,_]) rfl hbl hbel
set_option maxHeartbeats 4000000 in
theorem act_4 (a:AcM) (e:opA a=4):Ans Tryz.prog 41 [acV a] σ (reV (z08 a)) σ:=by
 have h1:=fun s=>z0f s a.who 0 6 (by decide) (by decide) (by decide)
 have h2:=fun s=>z0B s (inD a.who 0 6)
 have h3:∀s,Ans Tryz.prog 99 [I a.what,I 1,I 17] s (I 4) s:=fun s=>by
  have:=z0f s a.what 1 17 (by decide) (by decide) (by decide)
  have e:inD a.what 1 17=4:=e;rw[e]at this;exact this
 have hD:z08 a={ baseR a with id:=inD a.id 0 7,txt:=tokOf (emodW a.sta 0 6) }:=by
  unfold z08;simp[e]
 rw[hD];unfold baseR;rw[e];generalize tokOf (inD a.who 0 6)=tk at h2⊢;generalize inD a.who 0 6=w at h1 h2;have k1:=fun s=>z0f s a.id 0 7 (by decide) (by decide) (by decide)
 have k2:=fun s=>z2O s a.sta 0 6 (by decide) (by decide) (by decide)
 have k3:=fun s=>z0B s (emodW a.sta 0 6)
 generalize inD a.id 0 7=v1 at k1⊢;generalize tokOf (emodW a.sta 0 6)=v2 at k3⊢;generalize emodW a.sta 0 6=v3 at k2 k3;refine Ans.subR (r:=.agg [Sx tk,I 4,I v1,Sx v2,UN 0,UN 0,I 0,.nils,Bo false,Fl 0,Fl 0,.nils,.nils,Bo false,Fl 0,Fl 0,.nils,.nils,Fl 0]) ?_ (.agg (.cons (.refl _) <| .cons (.refl _) <| .cons (.refl _) <| .cons (.refl _) <| .cons (.refl _) <| .cons (.refl _) <| .cons (.refl _) <| .cons (.nils 3) <| .cons (.refl _) <| .cons (.refl _) <| .cons (.refl _) <| .cons (.nils 3) <| .cons (.nils 3) <| .cons (.refl _) <| .cons (.refl _) <| .cons (.refl _) <| .cons (.nils 1) <| .cons (.nils 2) <| .cons (.refl _) <| .nil))
 have hbl:Bel σ.length (.agg [Sx tk,I 4,I v1,Sx v2,UN 0,UN 0,I 0,.nils,Bo false,Fl 0,Fl 0,.nils,.nils,Bo false,Fl 0,Fl 0,.nils,.nils,Fl 0]):=.agg _ (fun i hi=>by
  have:∀y∈([Sx tk,I 4,I v1,Sx v2,UN 0,UN 0,I 0,.nils,Bo false,Fl 0,Fl 0,.nils,.nils,Bo false,Fl 0,Fl 0,.nils,.nils,Fl 0]:List AV),Bel σ.length y:=by
   intro y hy;simp only[List.mem_cons,List.not_mem_nil,or_false]at hy;rcases hy with rfl|rfl|rfl|rfl|rfl|rfl|rfl|rfl|rfl|rfl|rfl|rfl|rfl|rfl|rfl|rfl|rfl|rfl|rfl
   all_goals first|exact .pl _|exact .nils|exact z0q _ _|exact z0A _ _|exact z0s _ _
  exact this _ (List.getElem_mem hi))
 refine Ans.of_run' t41 (fun hbel _=>?_)
 unfold acV acC;simp -implicitDefEqProofs only[c41,r41,go_sem,z00];refine CS.intro h1 ?_;simp -implicitDefEqProofs only[go_sem,z00];refine CS.intro h2 ?_;simp -implicitDefEqProofs only[go_sem,z00];refine CS.intro h3 ?_;simp -implicitDefEqProofs only[go_sem,z00,List.append_assoc,List.length_append,g0,g1,s0,s1];refine CD.intro (k1 _) ?_;simp -implicitDefEqProofs only[go_sem,g0,g1,s0,s1];refine CD.intro (k2 _) ?_;simp -implicitDefEqProofs only[go_sem,g0,g1,s0,s1];refine CD.intro (k3 _) ?_;simp -implicitDefEqProofs only[go_sem,g0,g1,s0,s1];exact tr_ (σ':=σ) (ex:=[_,_]) rfl hbl hbel
end
section
variable (σ:St)
set_option maxHeartbeats 4000000 in
theorem act_5 (a:AcM) (e:opA a=5):Ans Tryz.prog 41 [acV a] σ (reV (z08 a)) σ:=by
 have h1:=fun s=>z0f s a.who 0 6 (by decide) (by decide) (by decide)
 have h2:=fun s=>z0B s (inD a.who 0 6)
 have h3:∀s,Ans Tryz.prog 99 [I a.what,I 1,I 17] s (I 5) s:=fun s=>by
  have:=z0f s a.what 1 17 (by decide) (by decide) (by decide)
  have e:inD a.what 1 17=5:=e;rw[e]at this;exact this
 have hD:z08 a=silR a (baseR a):=by
  unfold z08;simp[e]
 rw[hD];unfold baseR silR;rw[e];generalize tokOf (inD a.who 0 6)=tk at h2⊢;generalize inD a.who 0 6=w at h1 h2;have k4:∀s,Ans Tryz.prog 79 [.sl 3 (a.ds.map dv),Bo true] s (.sl 3 (mvs3 (mustL true (z0u a.ds [])))) s:=fun s=>z3q s true a.ds a.hd
 have k5:=fun s=>z7g s a.sel a.lo a.hi
 unfold z4z;generalize mustL true (z0u a.ds [])=M at k4⊢;generalize z0D a.sel a.lo a.hi=bd at k5⊢;obtain⟨ba,bl,bh⟩:=bd;unfold bandV at k5;simp only at k5⊢;have hz1:((a.st:Int)).tmod 60=((a.st%60:Nat):Int):=rfl;have hz2:((a.en:Int)).tmod 90=((a.en%90:Nat):Int):=rfl;refine Ans.subR (r:=.agg [Sx tk,I 5,I 0,Sx ⟨#[]⟩,UN (a.st%60),UN (a.en%90),I 0,mlV M,Bo ba,Fl bl,Fl bh,.nils,.nils,Bo false,Fl 0,Fl 0,.nils,.nils,Fl 0]) ?_ (.agg (.cons (.refl _) <| .cons (.refl _) <| .cons (.refl _) <| .cons (.refl _) <| .cons (.refl _) <| .cons (.refl _) <| .cons (.refl _) <| .cons (.refl _) <| .cons (.refl _) <| .cons (.refl _) <| .cons (.refl _) <| .cons (.nils 3) <| .cons (.nils 3) <| .cons (.refl _) <| .cons (.refl _) <| .cons (.refl _) <| .cons (.nils 1) <| .cons (.nils 2) <| .cons (.refl _) <| .nil))
 have hbl:Bel σ.length (.agg [Sx tk,I 5,I 0,Sx ⟨#[]⟩,UN (a.st%60),UN (a.en%90),I 0,mlV M,Bo ba,Fl bl,Fl bh,.nils,.nils,Bo false,Fl 0,Fl 0,.nils,.nils,Fl 0]):=.agg _ (fun i hi=>by
  have:∀y∈([Sx tk,I 5,I 0,Sx ⟨#[]⟩,UN (a.st%60),UN (a.en%90),I 0,mlV M,Bo ba,Fl bl,Fl bh,.nils,.nils,Bo false,Fl 0,Fl 0,.nils,.nils,Fl 0]:List AV),Bel σ.length y:=by
   intro y hy;simp only[List.mem_cons,List.not_mem_nil,or_false]at hy;rcases hy with rfl|rfl|rfl|rfl|rfl|rfl|rfl|rfl|rfl|rfl|rfl|rfl|rfl|rfl|rfl|rfl|rfl|rfl|rfl
   all_goals first|exact .pl _|exact .nils|exact z0q _ _|exact z0A _ _|exact z0s _ _
  exact this _ (List.getElem_mem hi))
 refine Ans.of_run' t41 (fun hbel _=>?_)
 unfold acV acC;simp -implicitDefEqProofs only[c41,r41,go_sem,z00];refine CS.intro h1 ?_;simp -implicitDefEqProofs only[go_sem,z00];refine CS.intro h2 ?_;simp -implicitDefEqProofs only[go_sem,z00];refine CS.intro h3 ?_;simp -implicitDefEqProofs only[go_sem,z00,List.append_assoc,List.length_append,g0,g1,s0,s1,hz1,hz2];refine CD.intro (k4 _) ?_;simp -implicitDefEqProofs only[go_sem,g0,g1,s0,s1,hz1,hz2];refine CD.intro (k5 _) ?_;simp -implicitDefEqProofs only[go_sem,g0,g1,s0,s1,hz1,hz2];exact tr_ (σ':=σ) (ex:=[_,_]) rfl hbl hbel
set_option maxHeartbeats 4000000 in
theorem act_6 (a:AcM) (e:opA a=6):Ans Tryz.prog 41 [acV a] σ (reV (z08 a)) σ:=by
 have h1:=fun s=>z0f s a.who 0 6 (by decide) (by decide) (by decide)
 have h2:=fun s=>z0B s (inD a.who 0 6)
 have h3:∀s,Ans Tryz.prog 99 [I a.what,I 1,I 17] s (I 6) s:=fun s=>by
  have:=z0f s a.what 1 17 (by decide) (by decide) (by decide)
  have e:inD a.what 1 17=6:=e;rw[e]at this;exact this
 have hD:z08 a=silR a { baseR a with id:=inD a.id 0 13 }:=by
  unfold z08;simp[e]
 rw[hD];unfold baseR silR;rw[e];generalize tokOf (inD a.who 0 6)=tk at h2⊢;generalize inD a.who 0 6=w at h1 h2;have k1:=fun s=>z0f s a.id 0 13 (by decide) (by decide) (by decide)
 generalize inD a.id 0 13=v1 at k1⊢;have k4:∀s,Ans Tryz.prog 79 [.sl 3 (a.ds.map dv),Bo true] s (.sl 3 (mvs3 (mustL true (z0u a.ds [])))) s:=fun s=>z3q s true a.ds a.hd
 have k5:=fun s=>z7g s a.sel a.lo a.hi
 unfold z4z;generalize mustL true (z0u a.ds [])=M at k4⊢;generalize z0D a.sel a.lo a.hi=bd at k5⊢;obtain⟨ba,bl,bh⟩:=bd;unfold bandV at k5;simp only at k5⊢;have hz1:((a.st:Int)).tmod 60=((a.st%60:Nat):Int):=rfl;have hz2:((a.en:Int)).tmod 90=((a.en%90:Nat):Int):=rfl;refine Ans.subR (r:=.agg [Sx tk,I 6,I v1,Sx ⟨#[]⟩,UN (a.st%60),UN (a.en%90),I 0,mlV M,Bo ba,Fl bl,Fl bh,.nils,.nils,Bo false,Fl 0,Fl 0,.nils,.nils,Fl 0]) ?_ (.agg (.cons (.refl _) <| .cons (.refl _) <| .cons (.refl _) <| .cons (.refl _) <| .cons (.refl _) <| .cons (.refl _) <| .cons (.refl _) <| .cons (.refl _) <| .cons (.refl _) <| .cons (.refl _) <| .cons (.refl _) <| .cons (.nils 3) <| .cons (.nils 3) <| .cons (.refl _) <| .cons (.refl _) <| .cons (.refl _) <| .cons (.nils 1) <| .cons (.nils 2) <| .cons (.refl _) <| .nil))
 have hbl:Bel σ.length (.agg [Sx tk,I 6,I v1,Sx ⟨#[]⟩,UN (a.st%60),UN (a.en%90),I 0,mlV M,Bo ba,Fl bl,Fl bh,.nils,.nils,Bo false,Fl 0,Fl 0,.nils,.nils,Fl 0]):=.agg _ (fun i hi=>by
  have:∀y∈([Sx tk,I 6,I v1,Sx ⟨#[]⟩,UN (a.st%60),UN (a.en%90),I 0,mlV M,Bo ba,Fl bl,Fl bh,.nils,.nils,Bo false,Fl 0,Fl 0,.nils,.nils,Fl 0]:List AV),Bel σ.length y:=by
   intro y hy;simp only[List.mem_cons,List.not_mem_nil,or_false]at hy;rcases hy with rfl|rfl|rfl|rfl|rfl|rfl|rfl|rfl|rfl|rfl|rfl|rfl|rfl|rfl|rfl|rfl|rfl|rfl|rfl
   all_goals first|exact .pl _|exact .nils|exact z0q _ _|exact z0A _ _|exact z0s _ _
  exact this _ (List.getElem_mem hi))
 refine Ans.of_run' t41 (fun hbel _=>?_)
 unfold acV acC;simp -implicitDefEqProofs only[c41,r41,go_sem,z00];refine CS.intro h1 ?_;simp -implicitDefEqProofs only[go_sem,z00];refine CS.intro h2 ?_;simp -implicitDefEqProofs only[go_sem,z00];refine CS.intro h3 ?_;simp -implicitDefEqProofs only[go_sem,z00,List.append_assoc,List.length_append,g0,g1,s0,s1,hz1,hz2];refine CO.intro (k1 _) ?_;simp -implicitDefEqProofs only[go_sem,g0,g1,s0,s1,hz1,hz2];refine CD.intro (k4 _) ?_;simp -implicitDefEqProofs only[go_sem,g0,g1,s0,s1,hz1,hz2];refine CD.intro (k5 _) ?_;simp -implicitDefEqProofs only[go_sem,g0,g1,s0,s1,hz1,hz2];exact tr_ (σ':=σ) (ex:=[_,_]) rfl hbl hbel
set_option maxHeartbeats 4000000 in
theorem act_7 (a:AcM) (e:opA a=7):Ans Tryz.prog 41 [acV a] σ (reV (z08 a)) σ:=by
 have h1:=fun s=>z0f s a.who 0 6 (by decide) (by decide) (by decide)
 have h2:=fun s=>z0B s (inD a.who 0 6)
 have h3:∀s,Ans Tryz.prog 99 [I a.what,I 1,I 17] s (I 7) s:=fun s=>by
  have:=z0f s a.what 1 17 (by decide) (by decide) (by decide)
  have e:inD a.what 1 17=7:=e;rw[e]at this;exact this
 have hD:z08 a={ baseR a with id:=inD a.id 0 20 }:=by
  unfold z08;simp[e]
 rw[hD];unfold baseR;rw[e];generalize tokOf (inD a.who 0 6)=tk at h2⊢;generalize inD a.who 0 6=w at h1 h2;have k1:=fun s=>z0f s a.id 0 20 (by decide) (by decide) (by decide)
 generalize inD a.id 0 20=v1 at k1⊢;refine Ans.subR (r:=.agg [Sx tk,I 7,I v1,Sx ⟨#[]⟩,UN 0,UN 0,I 0,.nils,Bo false,Fl 0,Fl 0,.nils,.nils,Bo false,Fl 0,Fl 0,.nils,.nils,Fl 0]) ?_ (.agg (.cons (.refl _) <| .cons (.refl _) <| .cons (.refl _) <| .cons (.refl _) <| .cons (.refl _) <| .cons (.refl _) <| .cons (.refl _) <| .cons (.nils 3) <| .cons (.refl _) <| .cons (.refl _) <| .cons (.refl _) <| .cons (.nils 3) <| .cons (.nils 3) <| .cons (.refl _) <| .cons (.refl _) <| .cons (.refl _) <| .cons (.nils 1) <| .cons (.nils 2) <| .cons (.refl _) <| .nil))
 have hbl:Bel σ.length (.agg [Sx tk,I 7,I v1,Sx ⟨#[]⟩,UN 0,UN 0,I 0,.nils,Bo false,Fl 0,Fl 0,.nils,.nils,Bo false,Fl 0,Fl 0,.nils,.nils,Fl 0]):=.agg _ (fun i hi=>by
  have:∀y∈([Sx tk,I 7,I v1,Sx ⟨#[]⟩,UN 0,UN 0,I 0,.nils,Bo false,Fl 0,Fl 0,.nils,.nils,Bo false,Fl 0,Fl 0,.nils,.nils,Fl 0]:List AV),Bel σ.length y:=by
   intro y hy;simp only[List.mem_cons,List.not_mem_nil,or_false]at hy;rcases hy with rfl|rfl|rfl|rfl|rfl|rfl|rfl|rfl|rfl|rfl|rfl|rfl|rfl|rfl|rfl|rfl|rfl|rfl|rfl
   all_goals first|exact .pl _|exact .nils|exact z0q _ _|exact z0A _ _|exact z0s _ _
  exact this _ (List.getElem_mem hi))
 refine Ans.of_run' t41 (fun hbel _=>?_)
 unfold acV acC;simp -implicitDefEqProofs only[c41,r41,go_sem,z00];refine CS.intro h1 ?_;simp -implicitDefEqProofs only[go_sem,z00];refine CS.intro h2 ?_;simp -implicitDefEqProofs only[go_sem,z00];refine CS.intro h3 ?_;simp -implicitDefEqProofs only[go_sem,z00,List.append_assoc,List.length_append,g0,g1,s0,s1];refine CO.intro (k1 _) ?_;simp -implicitDefEqProofs only[go_sem,g0,g1,s0,s1];exact tr_ (σ':=σ) (ex:=[_,_]) rfl hbl hbel
set_option maxHeartbeats 4000000 in
theorem act_8 (a:AcM) (e:opA a=8):Ans Tryz.prog 41 [acV a] σ (reV (z08 a)) σ:=by
 have h1:=fun s=>z0f s a.who 0 6 (by decide) (by decide) (by decide)
 have h2:=fun s=>z0B s (inD a.who 0 6)
 have h3:∀s,Ans Tryz.prog 99 [I a.what,I 1,I 17] s (I 8) s:=fun s=>by
  have:=z0f s a.what 1 17 (by decide) (by decide) (by decide)
  have e:inD a.what 1 17=8:=e;rw[e]at this;exact this
 have hD:z08 a={ baseR a with sta:=inD a.sta 0 3 }:=by
  unfold z08;simp[e]
 rw[hD];unfold baseR;rw[e];generalize tokOf (inD a.who 0 6)=tk at h2⊢;generalize inD a.who 0 6=w at h1 h2;have k1:=fun s=>z0f s a.sta 0 3 (by decide) (by decide) (by decide)
 generalize inD a.sta 0 3=v1 at k1⊢;refine Ans.subR (r:=.agg [Sx tk,I 8,I 0,Sx ⟨#[]⟩,UN 0,UN 0,I v1,.nils,Bo false,Fl 0,Fl 0,.nils,.nils,Bo false,Fl 0,Fl 0,.nils,.nils,Fl 0]) ?_ (.agg (.cons (.refl _) <| .cons (.refl _) <| .cons (.refl _) <| .cons (.refl _) <| .cons (.refl _) <| .cons (.refl _) <| .cons (.refl _) <| .cons (.nils 3) <| .cons (.refl _) <| .cons (.refl _) <| .cons (.refl _) <| .cons (.nils 3) <| .cons (.nils 3) <| .cons (.refl _) <| .cons (.refl _) <| .cons (.refl _) <| .cons (.nils 1) <| .cons (.nils 2) <| .cons (.refl _) <| .nil))
 have hbl:Bel σ.length (.agg [Sx tk,I 8,I 0,Sx ⟨#[]⟩,UN 0,UN 0,I v1,.nils,Bo false,Fl 0,Fl 0,.nils,.nils,Bo false,Fl 0,Fl 0,.nils,.nils,Fl 0]):=.agg _ (fun i hi=>by
  have:∀y∈([Sx tk,I 8,I 0,Sx ⟨#[]⟩,UN 0,UN 0,I v1,.nils,Bo false,Fl 0,Fl 0,.nils,.nils,Bo false,Fl 0,Fl 0,.nils,.nils,Fl 0]:List AV),Bel σ.length y:=by
   intro y hy;simp only[List.mem_cons,List.not_mem_nil,or_false]at hy;rcases hy with rfl|rfl|rfl|rfl|rfl|rfl|rfl|rfl|rfl|rfl|rfl|rfl|rfl|rfl|rfl|rfl|rfl|rfl|rfl
   all_goals first|exact .pl _|exact .nils|exact z0q _ _|exact z0A _ _|exact z0s _ _
  exact this _ (List.getElem_mem hi))
 refine Ans.of_run' t41 (fun hbel _=>?_)
 unfold acV acC;simp -implicitDefEqProofs only[c41,r41,go_sem,z00];refine CS.intro h1 ?_;simp -implicitDefEqProofs only[go_sem,z00];refine CS.intro h2 ?_;simp -implicitDefEqProofs only[go_sem,z00];refine CS.intro h3 ?_;simp -implicitDefEqProofs only[go_sem,z00,List.append_assoc,List.length_append,g0,g1,s0,s1];refine CO.intro (k1 _) ?_;simp -implicitDefEqProofs only[go_sem,g0,g1,s0,s1];exact tr_ (σ':=σ) (ex:=[_,_]) rfl hbl hbel
end
section
variable (σ:St)
set_option maxHeartbeats 4000000 in
theorem act_9 (a:AcM) (e:opA a=9):Ans Tryz.prog 41 [acV a] σ (reV (z08 a)) σ:=by
 have h1:=fun s=>z0f s a.who 0 6 (by decide) (by decide) (by decide)
 have h2:=fun s=>z0B s (inD a.who 0 6)
 have h3:∀s,Ans Tryz.prog 99 [I a.what,I 1,I 17] s (I 9) s:=fun s=>by
  have:=z0f s a.what 1 17 (by decide) (by decide) (by decide)
  have e:inD a.what 1 17=9:=e;rw[e]at this;exact this
 have hD:z08 a={ baseR a with ru:=z2J a.ru }:=by
  unfold z08;simp[e]
 rw[hD];unfold baseR;rw[e];generalize tokOf (inD a.who 0 6)=tk at h2⊢;generalize inD a.who 0 6=w at h1 h2;have k1:=fun s=>zes s a.ru
 unfold duV duC at k1;generalize z2J a.ru=ru at k1⊢;obtain⟨rs,rt,ra,rl,rh,re⟩:=ru;unfold ruV at k1;simp only at k1⊢;refine Ans.subR (r:=.agg [Sx tk,I 9,I 0,Sx ⟨#[]⟩,UN 0,UN 0,I 0,.nils,Bo false,Fl 0,Fl 0,mlV rs,mlV rt,Bo ra,Fl rl,Fl rh,.sl 1 (txs re),.nils,Fl 0]) ?_ (.agg (.cons (.refl _) <| .cons (.refl _) <| .cons (.refl _) <| .cons (.refl _) <| .cons (.refl _) <| .cons (.refl _) <| .cons (.refl _) <| .cons (.nils 3) <| .cons (.refl _) <| .cons (.refl _) <| .cons (.refl _) <| .cons (.refl _) <| .cons (.refl _) <| .cons (.refl _) <| .cons (.refl _) <| .cons (.refl _) <| .cons (.refl _) <| .cons (.nils 2) <| .cons (.refl _) <| .nil))
 have hbl:Bel σ.length (.agg [Sx tk,I 9,I 0,Sx ⟨#[]⟩,UN 0,UN 0,I 0,.nils,Bo false,Fl 0,Fl 0,mlV rs,mlV rt,Bo ra,Fl rl,Fl rh,.sl 1 (txs re),.nils,Fl 0]):=.agg _ (fun i hi=>by
  have:∀y∈([Sx tk,I 9,I 0,Sx ⟨#[]⟩,UN 0,UN 0,I 0,.nils,Bo false,Fl 0,Fl 0,mlV rs,mlV rt,Bo ra,Fl rl,Fl rh,.sl 1 (txs re),.nils,Fl 0]:List AV),Bel σ.length y:=by
   intro y hy;simp only[List.mem_cons,List.not_mem_nil,or_false]at hy;rcases hy with rfl|rfl|rfl|rfl|rfl|rfl|rfl|rfl|rfl|rfl|rfl|rfl|rfl|rfl|rfl|rfl|rfl|rfl|rfl
   all_goals first|exact .pl _|exact .nils|exact z0q _ _|exact z0A _ _|exact z0s _ _
  exact this _ (List.getElem_mem hi))
 refine Ans.of_run' t41 (fun hbel _=>?_)
 unfold acV acC;simp -implicitDefEqProofs only[c41,r41,go_sem,z00];refine CS.intro h1 ?_;simp -implicitDefEqProofs only[go_sem,z00];refine CS.intro h2 ?_;simp -implicitDefEqProofs only[go_sem,z00];refine CS.intro h3 ?_;simp -implicitDefEqProofs only[go_sem,z00,List.append_assoc,List.length_append,g0,g1,s0,s1];refine CO.intro (k1 _) ?_;simp -implicitDefEqProofs only[go_sem,g0,g1,s0,s1];exact tr_ (σ':=σ) (ex:=[_,_]) rfl hbl hbel
set_option maxHeartbeats 4000000 in
theorem zhl (a:AcM) (e:opA a=10):Ans Tryz.prog 41 [acV a] σ (reV (z08 a)) σ:=by
 have h1:=fun s=>z0f s a.who 0 6 (by decide) (by decide) (by decide)
 have h2:=fun s=>z0B s (inD a.who 0 6)
 have h3:∀s,Ans Tryz.prog 99 [I a.what,I 1,I 17] s (I 10) s:=fun s=>by
  have:=z0f s a.what 1 17 (by decide) (by decide) (by decide)
  have e:inD a.what 1 17=10:=e;rw[e]at this;exact this
 have hD:z08 a={ baseR a with id:=inD a.id 0 20 }:=by
  unfold z08;simp[e]
 rw[hD];unfold baseR;rw[e];generalize tokOf (inD a.who 0 6)=tk at h2⊢;generalize inD a.who 0 6=w at h1 h2;have k1:=fun s=>z0f s a.id 0 20 (by decide) (by decide) (by decide)
 generalize inD a.id 0 20=v1 at k1⊢;refine Ans.subR (r:=.agg [Sx tk,I 10,I v1,Sx ⟨#[]⟩,UN 0,UN 0,I 0,.nils,Bo false,Fl 0,Fl 0,.nils,.nils,Bo false,Fl 0,Fl 0,.nils,.nils,Fl 0]) ?_ (.agg (.cons (.refl _) <| .cons (.refl _) <| .cons (.refl _) <| .cons (.refl _) <| .cons (.refl _) <| .cons (.refl _) <| .cons (.refl _) <| .cons (.nils 3) <| .cons (.refl _) <| .cons (.refl _) <| .cons (.refl _) <| .cons (.nils 3) <| .cons (.nils 3) <| .cons (.refl _) <| .cons (.refl _) <| .cons (.refl _) <| .cons (.nils 1) <| .cons (.nils 2) <| .cons (.refl _) <| .nil))
 have hbl:Bel σ.length (.agg [Sx tk,I 10,I v1,Sx ⟨#[]⟩,UN 0,UN 0,I 0,.nils,Bo false,Fl 0,Fl 0,.nils,.nils,Bo false,Fl 0,Fl 0,.nils,.nils,Fl 0]):=.agg _ (fun i hi=>by
  have:∀y∈([Sx tk,I 10,I v1,Sx ⟨#[]⟩,UN 0,UN 0,I 0,.nils,Bo false,Fl 0,Fl 0,.nils,.nils,Bo false,Fl 0,Fl 0,.nils,.nils,Fl 0]:List AV),Bel σ.length y:=by
   intro y hy;simp only[List.mem_cons,List.not_mem_nil,or_false]at hy;rcases hy with rfl|rfl|rfl|rfl|rfl|rfl|rfl|rfl|rfl|rfl|rfl|rfl|rfl|rfl|rfl|rfl|rfl|rfl|rfl
   all_goals first|exact .pl _|exact .nils|exact z0q _ _|exact z0A _ _|exact z0s _ _
  exact this _ (List.getElem_mem hi))
 refine Ans.of_run' t41 (fun hbel _=>?_)
 unfold acV acC;simp -implicitDefEqProofs only[c41,r41,go_sem,z00];refine CS.intro h1 ?_;simp -implicitDefEqProofs only[go_sem,z00];refine CS.intro h2 ?_;simp -implicitDefEqProofs only[go_sem,z00];refine CS.intro h3 ?_;simp -implicitDefEqProofs only[go_sem,z00,List.append_assoc,List.length_append,g0,g1,s0,s1];refine CO.intro (k1 _) ?_;simp -implicitDefEqProofs only[go_sem,g0,g1,s0,s1];exact tr_ (σ':=σ) (ex:=[_,_]) rfl hbl hbel
set_option maxHeartbeats 4000000 in
theorem zhm (a:AcM) (e:opA a=11):Ans Tryz.prog 41 [acV a] σ (reV (z08 a)) σ:=by
 have h1:=fun s=>z0f s a.who 0 6 (by decide) (by decide) (by decide)
 have h2:=fun s=>z0B s (inD a.who 0 6)
 have h3:∀s,Ans Tryz.prog 99 [I a.what,I 1,I 17] s (I 11) s:=fun s=>by
  have:=z0f s a.what 1 17 (by decide) (by decide) (by decide)
  have e:inD a.what 1 17=11:=e;rw[e]at this;exact this
 have hD:z08 a={ baseR a with ls:=z2b a.ns,val:=a.val }:=by
  unfold z08;simp[e]
 rw[hD];unfold baseR;rw[e];generalize tokOf (inD a.who 0 6)=tk at h2⊢;generalize inD a.who 0 6=w at h1 h2;have k1:=fun s=>zcF s a.ns
 generalize z2b a.ns=ls at k1⊢;refine Ans.subR (r:=.agg [Sx tk,I 11,I 0,Sx ⟨#[]⟩,UN 0,UN 0,I 0,.nils,Bo false,Fl 0,Fl 0,.nils,.nils,Bo false,Fl 0,Fl 0,.nils,lsV ls,Fl a.val]) ?_ (.agg (.cons (.refl _) <| .cons (.refl _) <| .cons (.refl _) <| .cons (.refl _) <| .cons (.refl _) <| .cons (.refl _) <| .cons (.refl _) <| .cons (.nils 3) <| .cons (.refl _) <| .cons (.refl _) <| .cons (.refl _) <| .cons (.nils 3) <| .cons (.nils 3) <| .cons (.refl _) <| .cons (.refl _) <| .cons (.refl _) <| .cons (.nils 1) <| .cons (.refl _) <| .cons (.refl _) <| .nil))
 have hbl:Bel σ.length (.agg [Sx tk,I 11,I 0,Sx ⟨#[]⟩,UN 0,UN 0,I 0,.nils,Bo false,Fl 0,Fl 0,.nils,.nils,Bo false,Fl 0,Fl 0,.nils,lsV ls,Fl a.val]):=.agg _ (fun i hi=>by
  have:∀y∈([Sx tk,I 11,I 0,Sx ⟨#[]⟩,UN 0,UN 0,I 0,.nils,Bo false,Fl 0,Fl 0,.nils,.nils,Bo false,Fl 0,Fl 0,.nils,lsV ls,Fl a.val]:List AV),Bel σ.length y:=by
   intro y hy;simp only[List.mem_cons,List.not_mem_nil,or_false]at hy;rcases hy with rfl|rfl|rfl|rfl|rfl|rfl|rfl|rfl|rfl|rfl|rfl|rfl|rfl|rfl|rfl|rfl|rfl|rfl|rfl
   all_goals first|exact .pl _|exact .nils|exact z0q _ _|exact z0A _ _|exact z0s _ _
  exact this _ (List.getElem_mem hi))
 refine Ans.of_run' t41 (fun hbel _=>?_)
 unfold acV acC;simp -implicitDefEqProofs only[c41,r41,go_sem,z00];refine CS.intro h1 ?_;simp -implicitDefEqProofs only[go_sem,z00];refine CS.intro h2 ?_;simp -implicitDefEqProofs only[go_sem,z00];refine CS.intro h3 ?_;simp -implicitDefEqProofs only[go_sem,z00,List.append_assoc,List.length_append,g0,g1,s0,s1];refine CD.intro (k1 _) ?_;simp -implicitDefEqProofs only[go_sem,g0,g1,s0,s1];exact tr_ (σ':=σ) (ex:=[_,_]) rfl hbl hbel
set_option maxHeartbeats 4000000 in
theorem zhn (a:AcM) (e:opA a=12):Ans Tryz.prog 41 [acV a] σ (reV (z08 a)) σ:=by
 have h1:=fun s=>z0f s a.who 0 6 (by decide) (by decide) (by decide)
 have h2:=fun s=>z0B s (inD a.who 0 6)
 have h3:∀s,Ans Tryz.prog 99 [I a.what,I 1,I 17] s (I 12) s:=fun s=>by
  have:=z0f s a.what 1 17 (by decide) (by decide) (by decide)
  have e:inD a.what 1 17=12:=e;rw[e]at this;exact this
 have hD:z08 a={ baseR a with id:=inD a.id 0 20 }:=by
  unfold z08;simp[e]
 rw[hD];unfold baseR;rw[e];generalize tokOf (inD a.who 0 6)=tk at h2⊢;generalize inD a.who 0 6=w at h1 h2;have k1:=fun s=>z0f s a.id 0 20 (by decide) (by decide) (by decide)
 generalize inD a.id 0 20=v1 at k1⊢;refine Ans.subR (r:=.agg [Sx tk,I 12,I v1,Sx ⟨#[]⟩,UN 0,UN 0,I 0,.nils,Bo false,Fl 0,Fl 0,.nils,.nils,Bo false,Fl 0,Fl 0,.nils,.nils,Fl 0]) ?_ (.agg (.cons (.refl _) <| .cons (.refl _) <| .cons (.refl _) <| .cons (.refl _) <| .cons (.refl _) <| .cons (.refl _) <| .cons (.refl _) <| .cons (.nils 3) <| .cons (.refl _) <| .cons (.refl _) <| .cons (.refl _) <| .cons (.nils 3) <| .cons (.nils 3) <| .cons (.refl _) <| .cons (.refl _) <| .cons (.refl _) <| .cons (.nils 1) <| .cons (.nils 2) <| .cons (.refl _) <| .nil))
 have hbl:Bel σ.length (.agg [Sx tk,I 12,I v1,Sx ⟨#[]⟩,UN 0,UN 0,I 0,.nils,Bo false,Fl 0,Fl 0,.nils,.nils,Bo false,Fl 0,Fl 0,.nils,.nils,Fl 0]):=.agg _ (fun i hi=>by
  have:∀y∈([Sx tk,I 12,I v1,Sx ⟨#[]⟩,UN 0,UN 0,I 0,.nils,Bo false,Fl 0,Fl 0,.nils,.nils,Bo false,Fl 0,Fl 0,.nils,.nils,Fl 0]:List AV),Bel σ.length y:=by
   intro y hy;simp only[List.mem_cons,List.not_mem_nil,or_false]at hy;rcases hy with rfl|rfl|rfl|rfl|rfl|rfl|rfl|rfl|rfl|rfl|rfl|rfl|rfl|rfl|rfl|rfl|rfl|rfl|rfl
   all_goals first|exact .pl _|exact .nils|exact z0q _ _|exact z0A _ _|exact z0s _ _
  exact this _ (List.getElem_mem hi))
 refine Ans.of_run' t41 (fun hbel _=>?_)
 unfold acV acC;simp -implicitDefEqProofs only[c41,r41,go_sem,z00];refine CS.intro h1 ?_;simp -implicitDefEqProofs only[go_sem,z00];refine CS.intro h2 ?_;simp -implicitDefEqProofs only[go_sem,z00];refine CS.intro h3 ?_;simp -implicitDefEqProofs only[go_sem,z00,List.append_assoc,List.length_append,g0,g1,s0,s1];refine CO.intro (k1 _) ?_;simp -implicitDefEqProofs only[go_sem,g0,g1,s0,s1];exact tr_ (σ':=σ) (ex:=[_,_]) rfl hbl hbel
set_option maxHeartbeats 4000000 in
theorem zho (a:AcM) (e:opA a=13):Ans Tryz.prog 41 [acV a] σ (reV (z08 a)) σ:=by
 have h1:=fun s=>z0f s a.who 0 6 (by decide) (by decide) (by decide)
 have h2:=fun s=>z0B s (inD a.who 0 6)
 have h3:∀s,Ans Tryz.prog 99 [I a.what,I 1,I 17] s (I 13) s:=fun s=>by
  have:=z0f s a.what 1 17 (by decide) (by decide) (by decide)
  have e:inD a.what 1 17=13:=e;rw[e]at this;exact this
 have hD:z08 a={ baseR a with mt:=mustL false (z0u a.ds []) }:=by
  unfold z08;simp[e]
 rw[hD];unfold baseR;rw[e];generalize tokOf (inD a.who 0 6)=tk at h2⊢;generalize inD a.who 0 6=w at h1 h2;have k4:∀s,Ans Tryz.prog 79 [.sl 3 (a.ds.map dv),Bo false] s (.sl 3 (mvs3 (mustL false (z0u a.ds [])))) s:=fun s=>z3q s false a.ds a.hd
 generalize mustL false (z0u a.ds [])=M at k4⊢;refine Ans.subR (r:=.agg [Sx tk,I 13,I 0,Sx ⟨#[]⟩,UN 0,UN 0,I 0,mlV M,Bo false,Fl 0,Fl 0,.nils,.nils,Bo false,Fl 0,Fl 0,.nils,.nils,Fl 0]) ?_ (.agg (.cons (.refl _) <| .cons (.refl _) <| .cons (.refl _) <| .cons (.refl _) <| .cons (.refl _) <| .cons (.refl _) <| .cons (.refl _) <| .cons (.refl _) <| .cons (.refl _) <| .cons (.refl _) <| .cons (.refl _) <| .cons (.nils 3) <| .cons (.nils 3) <| .cons (.refl _) <| .cons (.refl _) <| .cons (.refl _) <| .cons (.nils 1) <| .cons (.nils 2) <| .cons (.refl _) <| .nil))
 have hbl:Bel σ.length (.agg [Sx tk,I 13,I 0,Sx ⟨#[]⟩,UN 0,UN 0,I 0,mlV M,Bo false,Fl 0,Fl 0,.nils,.nils,Bo false,Fl 0,Fl 0,.nils,.nils,Fl 0]):=.agg _ (fun i hi=>by
  have:∀y∈([Sx tk,I 13,I 0,Sx ⟨#[]⟩,UN 0,UN 0,I 0,mlV M,Bo false,Fl 0,Fl 0,.nils,.nils,Bo false,Fl 0,Fl 0,.nils,.nils,Fl 0]:List AV),Bel σ.length y:=by
   intro y hy;simp only[List.mem_cons,List.not_mem_nil,or_false]at hy;rcases hy with rfl|rfl|rfl|rfl|rfl|rfl|rfl|rfl|rfl|rfl|rfl|rfl|rfl|rfl|rfl|rfl|rfl|rfl|rfl
   all_goals first|exact .pl _|exact .nils|exact z0q _ _|exact z0A _ _|exact z0s _ _
  exact this _ (List.getElem_mem hi))
 refine Ans.of_run' t41 (fun hbel _=>?_)
 unfold acV acC;simp -implicitDefEqProofs only[c41,r41,go_sem,z00];refine CS.intro h1 ?_;simp -implicitDefEqProofs only[go_sem,z00];refine CS.intro h2 ?_;simp -implicitDefEqProofs only[go_sem,z00];refine CS.intro h3 ?_;simp -implicitDefEqProofs only[go_sem,z00,List.append_assoc,List.length_append,g0,g1,s0,s1];refine CO.intro (k4 _) ?_;simp -implicitDefEqProofs only[go_sem,g0,g1,s0,s1];exact tr_ (σ':=σ) (ex:=[_,_]) rfl hbl hbel
end
section
variable (σ:St)
set_option maxHeartbeats 4000000 in
theorem zhp (a:AcM) (e:opA a=14):Ans Tryz.prog 41 [acV a] σ (reV (z08 a)) σ:=by
 have h1:=fun s=>z0f s a.who 0 6 (by decide) (by decide) (by decide)
 have h2:=fun s=>z0B s (inD a.who 0 6)
 have h3:∀s,Ans Tryz.prog 99 [I a.what,I 1,I 17] s (I 14) s:=fun s=>by
  have:=z0f s a.what 1 17 (by decide) (by decide) (by decide)
  have e:inD a.what 1 17=14:=e;rw[e]at this;exact this
 have hD:z08 a=baseR a:=by
  unfold z08;simp[e]
 rw[hD];unfold baseR;rw[e];generalize tokOf (inD a.who 0 6)=tk at h2⊢;generalize inD a.who 0 6=w at h1 h2;refine Ans.subR (r:=.agg [Sx tk,I 14,I 0,Sx ⟨#[]⟩,UN 0,UN 0,I 0,.nils,Bo false,Fl 0,Fl 0,.nils,.nils,Bo false,Fl 0,Fl 0,.nils,.nils,Fl 0]) ?_ (.agg (.cons (.refl _) <| .cons (.refl _) <| .cons (.refl _) <| .cons (.refl _) <| .cons (.refl _) <| .cons (.refl _) <| .cons (.refl _) <| .cons (.nils 3) <| .cons (.refl _) <| .cons (.refl _) <| .cons (.refl _) <| .cons (.nils 3) <| .cons (.nils 3) <| .cons (.refl _) <| .cons (.refl _) <| .cons (.refl _) <| .cons (.nils 1) <| .cons (.nils 2) <| .cons (.refl _) <| .nil))
 have hbl:Bel σ.length (.agg [Sx tk,I 14,I 0,Sx ⟨#[]⟩,UN 0,UN 0,I 0,.nils,Bo false,Fl 0,Fl 0,.nils,.nils,Bo false,Fl 0,Fl 0,.nils,.nils,Fl 0]):=.agg _ (fun i hi=>by
  have:∀y∈([Sx tk,I 14,I 0,Sx ⟨#[]⟩,UN 0,UN 0,I 0,.nils,Bo false,Fl 0,Fl 0,.nils,.nils,Bo false,Fl 0,Fl 0,.nils,.nils,Fl 0]:List AV),Bel σ.length y:=by
   intro y hy;simp only[List.mem_cons,List.not_mem_nil,or_false]at hy;rcases hy with rfl|rfl|rfl|rfl|rfl|rfl|rfl|rfl|rfl|rfl|rfl|rfl|rfl|rfl|rfl|rfl|rfl|rfl|rfl
   all_goals first|exact .pl _|exact .nils|exact z0q _ _|exact z0A _ _|exact z0s _ _
  exact this _ (List.getElem_mem hi))
 refine Ans.of_run' t41 (fun hbel _=>?_)
 unfold acV acC;simp -implicitDefEqProofs only[c41,r41,go_sem,z00];refine CS.intro h1 ?_;simp -implicitDefEqProofs only[go_sem,z00];refine CS.intro h2 ?_;simp -implicitDefEqProofs only[go_sem,z00];refine CS.intro h3 ?_;simp -implicitDefEqProofs only[go_sem,z00,List.append_assoc,List.length_append,g0,g1,s0,s1];exact tr_ (σ':=σ) (ex:=[_,_]) rfl hbl hbel
set_option maxHeartbeats 4000000 in
theorem zhq (a:AcM) (e:opA a=15):Ans Tryz.prog 41 [acV a] σ (reV (z08 a)) σ:=by
 have h1:=fun s=>z0f s a.who 0 6 (by decide) (by decide) (by decide)
 have h2:=fun s=>z0B s (inD a.who 0 6)
 have h3:∀s,Ans Tryz.prog 99 [I a.what,I 1,I 17] s (I 15) s:=fun s=>by
  have:=z0f s a.what 1 17 (by decide) (by decide) (by decide)
  have e:inD a.what 1 17=15:=e;rw[e]at this;exact this
 have hD:z08 a={ baseR a with id:=inD a.id 0 20 }:=by
  unfold z08;simp[e]
 rw[hD];unfold baseR;rw[e];generalize tokOf (inD a.who 0 6)=tk at h2⊢;generalize inD a.who 0 6=w at h1 h2;have k1:=fun s=>z0f s a.id 0 20 (by decide) (by decide) (by decide)
 generalize inD a.id 0 20=v1 at k1⊢;refine Ans.subR (r:=.agg [Sx tk,I 15,I v1,Sx ⟨#[]⟩,UN 0,UN 0,I 0,.nils,Bo false,Fl 0,Fl 0,.nils,.nils,Bo false,Fl 0,Fl 0,.nils,.nils,Fl 0]) ?_ (.agg (.cons (.refl _) <| .cons (.refl _) <| .cons (.refl _) <| .cons (.refl _) <| .cons (.refl _) <| .cons (.refl _) <| .cons (.refl _) <| .cons (.nils 3) <| .cons (.refl _) <| .cons (.refl _) <| .cons (.refl _) <| .cons (.nils 3) <| .cons (.nils 3) <| .cons (.refl _) <| .cons (.refl _) <| .cons (.refl _) <| .cons (.nils 1) <| .cons (.nils 2) <| .cons (.refl _) <| .nil))
 have hbl:Bel σ.length (.agg [Sx tk,I 15,I v1,Sx ⟨#[]⟩,UN 0,UN 0,I 0,.nils,Bo false,Fl 0,Fl 0,.nils,.nils,Bo false,Fl 0,Fl 0,.nils,.nils,Fl 0]):=.agg _ (fun i hi=>by
  have:∀y∈([Sx tk,I 15,I v1,Sx ⟨#[]⟩,UN 0,UN 0,I 0,.nils,Bo false,Fl 0,Fl 0,.nils,.nils,Bo false,Fl 0,Fl 0,.nils,.nils,Fl 0]:List AV),Bel σ.length y:=by
   intro y hy;simp only[List.mem_cons,List.not_mem_nil,or_false]at hy;rcases hy with rfl|rfl|rfl|rfl|rfl|rfl|rfl|rfl|rfl|rfl|rfl|rfl|rfl|rfl|rfl|rfl|rfl|rfl|rfl
   all_goals first|exact .pl _|exact .nils|exact z0q _ _|exact z0A _ _|exact z0s _ _
  exact this _ (List.getElem_mem hi))
 refine Ans.of_run' t41 (fun hbel _=>?_)
 unfold acV acC;simp -implicitDefEqProofs only[c41,r41,go_sem,z00];refine CS.intro h1 ?_;simp -implicitDefEqProofs only[go_sem,z00];refine CS.intro h2 ?_;simp -implicitDefEqProofs only[go_sem,z00];refine CS.intro h3 ?_;simp -implicitDefEqProofs only[go_sem,z00,List.append_assoc,List.length_append,g0,g1,s0,s1];refine CO.intro (k1 _) ?_;simp -implicitDefEqProofs only[go_sem,g0,g1,s0,s1];exact tr_ (σ':=σ) (ex:=[_,_]) rfl hbl hbel
set_option maxHeartbeats 4000000 in
theorem zhr (a:AcM) (e:opA a=16):Ans Tryz.prog 41 [acV a] σ (reV (z08 a)) σ:=by
 have h1:=fun s=>z0f s a.who 0 6 (by decide) (by decide) (by decide)
 have h2:=fun s=>z0B s (inD a.who 0 6)
 have h3:∀s,Ans Tryz.prog 99 [I a.what,I 1,I 17] s (I 16) s:=fun s=>by
  have:=z0f s a.what 1 17 (by decide) (by decide) (by decide)
  have e:inD a.what 1 17=16:=e;rw[e]at this;exact this
 have hD:z08 a=baseR a:=by
  unfold z08;simp[e]
 rw[hD];unfold baseR;rw[e];generalize tokOf (inD a.who 0 6)=tk at h2⊢;generalize inD a.who 0 6=w at h1 h2;refine Ans.subR (r:=.agg [Sx tk,I 16,I 0,Sx ⟨#[]⟩,UN 0,UN 0,I 0,.nils,Bo false,Fl 0,Fl 0,.nils,.nils,Bo false,Fl 0,Fl 0,.nils,.nils,Fl 0]) ?_ (.agg (.cons (.refl _) <| .cons (.refl _) <| .cons (.refl _) <| .cons (.refl _) <| .cons (.refl _) <| .cons (.refl _) <| .cons (.refl _) <| .cons (.nils 3) <| .cons (.refl _) <| .cons (.refl _) <| .cons (.refl _) <| .cons (.nils 3) <| .cons (.nils 3) <| .cons (.refl _) <| .cons (.refl _) <| .cons (.refl _) <| .cons (.nils 1) <| .cons (.nils 2) <| .cons (.refl _) <| .nil))
 have hbl:Bel σ.length (.agg [Sx tk,I 16,I 0,Sx ⟨#[]⟩,UN 0,UN 0,I 0,.nils,Bo false,Fl 0,Fl 0,.nils,.nils,Bo false,Fl 0,Fl 0,.nils,.nils,Fl 0]):=.agg _ (fun i hi=>by
  have:∀y∈([Sx tk,I 16,I 0,Sx ⟨#[]⟩,UN 0,UN 0,I 0,.nils,Bo false,Fl 0,Fl 0,.nils,.nils,Bo false,Fl 0,Fl 0,.nils,.nils,Fl 0]:List AV),Bel σ.length y:=by
   intro y hy;simp only[List.mem_cons,List.not_mem_nil,or_false]at hy;rcases hy with rfl|rfl|rfl|rfl|rfl|rfl|rfl|rfl|rfl|rfl|rfl|rfl|rfl|rfl|rfl|rfl|rfl|rfl|rfl
   all_goals first|exact .pl _|exact .nils|exact z0q _ _|exact z0A _ _|exact z0s _ _
  exact this _ (List.getElem_mem hi))
 refine Ans.of_run' t41 (fun hbel _=>?_)
 unfold acV acC;simp -implicitDefEqProofs only[c41,r41,go_sem,z00];refine CS.intro h1 ?_;simp -implicitDefEqProofs only[go_sem,z00];refine CS.intro h2 ?_;simp -implicitDefEqProofs only[go_sem,z00];refine CS.intro h3 ?_;simp -implicitDefEqProofs only[go_sem,z00,List.append_assoc,List.length_append,g0,g1,s0,s1];exact tr_ (σ':=σ) (ex:=[_,_]) rfl hbl hbel
set_option maxHeartbeats 4000000 in
theorem zhs (a:AcM) (e:opA a=17):Ans Tryz.prog 41 [acV a] σ (reV (z08 a)) σ:=by
 have h1:=fun s=>z0f s a.who 0 6 (by decide) (by decide) (by decide)
 have h2:=fun s=>z0B s (inD a.who 0 6)
 have h3:∀s,Ans Tryz.prog 99 [I a.what,I 1,I 17] s (I 17) s:=fun s=>by
  have:=z0f s a.what 1 17 (by decide) (by decide) (by decide)
  have e:inD a.what 1 17=17:=e;rw[e]at this;exact this
 have hD:z08 a=baseR a:=by
  unfold z08;simp[e]
 rw[hD];unfold baseR;rw[e];generalize tokOf (inD a.who 0 6)=tk at h2⊢;generalize inD a.who 0 6=w at h1 h2;refine Ans.subR (r:=.agg [Sx tk,I 17,I 0,Sx ⟨#[]⟩,UN 0,UN 0,I 0,.nils,Bo false,Fl 0,Fl 0,.nils,.nils,Bo false,Fl 0,Fl 0,.nils,.nils,Fl 0]) ?_ (.agg (.cons (.refl _) <| .cons (.refl _) <| .cons (.refl _) <| .cons (.refl _) <| .cons (.refl _) <| .cons (.refl _) <| .cons (.refl _) <| .cons (.nils 3) <| .cons (.refl _) <| .cons (.refl _) <| .cons (.refl _) <| .cons (.nils 3) <| .cons (.nils 3) <| .cons (.refl _) <| .cons (.refl _) <| .cons (.refl _) <| .cons (.nils 1) <| .cons (.nils 2) <| .cons (.refl _) <| .nil))
 have hbl:Bel σ.length (.agg [Sx tk,I 17,I 0,Sx ⟨#[]⟩,UN 0,UN 0,I 0,.nils,Bo false,Fl 0,Fl 0,.nils,.nils,Bo false,Fl 0,Fl 0,.nils,.nils,Fl 0]):=.agg _ (fun i hi=>by
  have:∀y∈([Sx tk,I 17,I 0,Sx ⟨#[]⟩,UN 0,UN 0,I 0,.nils,Bo false,Fl 0,Fl 0,.nils,.nils,Bo false,Fl 0,Fl 0,.nils,.nils,Fl 0]:List AV),Bel σ.length y:=by
   intro y hy;simp only[List.mem_cons,List.not_mem_nil,or_false]at hy;rcases hy with rfl|rfl|rfl|rfl|rfl|rfl|rfl|rfl|rfl|rfl|rfl|rfl|rfl|rfl|rfl|rfl|rfl|rfl|rfl
   all_goals first|exact .pl _|exact .nils|exact z0q _ _|exact z0A _ _|exact z0s _ _
  exact this _ (List.getElem_mem hi))
 refine Ans.of_run' t41 (fun hbel _=>?_)
 unfold acV acC;simp -implicitDefEqProofs only[c41,r41,go_sem,z00];refine CS.intro h1 ?_;simp -implicitDefEqProofs only[go_sem,z00];refine CS.intro h2 ?_;simp -implicitDefEqProofs only[go_sem,z00];refine CS.intro h3 ?_;simp -implicitDefEqProofs only[go_sem,z00,List.append_assoc,List.length_append,g0,g1,s0,s1];exact tr_ (σ':=σ) (ex:=[_,_]) rfl hbl hbel
end
theorem z9t (σ:St) (a:AcM):Ans Tryz.prog 41 [acV a] σ (reV (z08 a)) σ:=by
 have hr:=z8t a;rcases ops17 (opA a) with e|e|e|e|e|e|e|e|e|e|e|e|e|e|e|e|e|e
 · exact act_1 σ a e
 · exact act_2 σ a e
 · exact act_3 σ a e
 · exact act_4 σ a e
 · exact act_5 σ a e
 · exact act_6 σ a e
 · exact act_7 σ a e
 · exact act_8 σ a e
 · exact act_9 σ a e
 · exact zhl σ a e
 · exact zhm σ a e
 · exact zhn σ a e
 · exact zho σ a e
 · exact zhp σ a e
 · exact zhq σ a e
 · exact zhr σ a e
 · exact zhs σ a e
 · omega
theorem z_all:emS ⟨#[]⟩=true∧emU 0=true∧emI 0=true∧noBd (false,0,0)=true∧noRl noRu=true∧zF 0=true∧idR 0=true∧clkB 0=true∧staR 0=true∧listB []=true:=by decide +kernel
theorem zht {n:Int} (h0:0≤n) (h1:n≤6):tokB (tokOf n)=true:=by
 have e:inD n 0 7=n:=by unfold inD;rw[if_pos (by omega)]
 unfold tokOf;rw[e];obtain⟨k,rfl⟩:=Int.eq_ofNat_of_zero_le h0;have:k<7:=by omega
 match k,this with
 |0,_|1,_|2,_|3,_|4,_|5,_|6,_=>decide +kernel
theorem id_ok (n lo hi:Int) (h0:0≤lo) (h:lo≤hi) (h1:hi≤2147483647):idR (inD n lo hi)=true:=by
 have:=z4j n lo hi h;unfold idR;simp only[Bool.and_eq_true,decide_eq_true_eq];omega
theorem z6O (n lo hi:Int) (h:lo≤hi):lo≤emodW n lo hi∧emodW n lo hi≤hi:=by
 unfold emodW;have h3:=Int.emod_nonneg n (show hi-lo+1≠0 by omega)
 have h4:=Int.emod_lt_of_pos n (show 0<hi-lo+1 by omega)
 omega
theorem zfb (n k:Nat) (h:0<k) (h1:k≤1099511627776):clkB (n%k)=true:=by
 have:=Nat.mod_lt n h;unfold clkB;exact decide_eq_true (by omega)
theorem zhu (n:Int):staR (inD n 0 3)=true:=by
 have:=z4j n 0 3 (by decide)
 unfold staR;simp only[Bool.and_eq_true,decide_eq_true_eq];omega
theorem zeJ (a:AcM):(z08 a).op=opA a:=by
 unfold z08;simp only
 repeat' split
 all_goals rfl
set_option maxHeartbeats 4000000 in
theorem z8u (a:AcM):mayR (z08 a)=true:=by
 have hr:=z8t a;obtain⟨z1,z2,z3,z4,z5,z6,z7,z8,z9,z10⟩:=z_all;have i20:=id_ok a.id 0 20 (by decide) (by decide) (by decide)
 have i7:=id_ok a.id 0 7 (by decide) (by decide) (by decide)
 have i13:=id_ok a.id 0 13 (by decide) (by decide) (by decide)
 have tk:=zht (z6O a.sta 0 6 (by decide)).1 (z6O a.sta 0 6 (by decide)).2
 have c1:=zfb a.st 60 (by decide) (by decide)
 have c2:=zfb a.en 90 (by decide) (by decide)
 have s3:=zhu a.sta;obtain⟨m1,m2,_⟩:=z5V a.ds;have m3:emI (mustL true (z0u a.ds [])).length=false:=m2;have m4:listB (mustL false (z0u a.ds []))=true:=z6I a.ds;have bm:=zak a.sel a.lo a.hi;have ri:=zex a.ru;have ls:=z7u a.ns;unfold mayR;rw[zeJ];unfold z08 baseR silR z4z;generalize emodW a.sta 0 6=q1 at tk⊢;generalize inD a.id 0 20=v20 at i20⊢;generalize inD a.id 0 7=v7 at i7⊢;generalize inD a.id 0 13=v13 at i13⊢;generalize inD a.sta 0 3=v3 at s3⊢;generalize mustL true (z0u a.ds [])=M at m1 m3⊢;generalize mustL false (z0u a.ds [])=M' at m4⊢;generalize z0D a.sel a.lo a.hi=bd at bm⊢;generalize z2J a.ru=ru at ri⊢;generalize z2b a.ns=L at ls⊢;generalize opA a=op at hr⊢;generalize tokOf (inD a.who 0 6)=tok0;rcases ops17 op with e|e|e|e|e|e|e|e|e|e|e|e|e|e|e|e|e|e
 · have hf:fOf op=(0,true):=by rw[e];rfl
   rw[hf];simp[e,zeroB,z0a,hs_0,x0,z1,z2,z3,z4,z5,z6,z7,z8,z9,z10,i20,i7,i13,tk,c1,c2,s3,m1,m3,m4,bm,ri,ls]
 · have hf:fOf op=(1,true):=by rw[e];rfl
   rw[hf];simp[e,zeroB,z0a,hs_1,x0,z1,z2,z3,z4,z5,z6,z7,z8,z9,z10,i20,i7,i13,tk,c1,c2,s3,m1,m3,m4,bm,ri,ls]
 · have hf:fOf op=(3,true):=by rw[e];rfl
   rw[hf];simp[e,zeroB,z0a,hs_3,x0,z1,z2,z3,z4,z5,z6,z7,z8,z9,z10,i20,i7,i13,tk,c1,c2,s3,m1,m3,m4,bm,ri,ls]
 · have hf:fOf op=(3,true):=by rw[e];rfl
   rw[hf];simp[e,zeroB,z0a,hs_3,x0,z1,z2,z3,z4,z5,z6,z7,z8,z9,z10,i20,i7,i13,tk,c1,c2,s3,m1,m3,m4,bm,ri,ls]
 · have hf:fOf op=(116,true):=by rw[e];rfl
   rw[hf];simp[e,zeroB,z0a,z5S,x0,z1,z2,z3,z4,z5,z6,z7,z8,z9,z10,i20,i7,i13,tk,c1,c2,s3,m1,m3,m4,bm,ri,ls]
 · have hf:fOf op=(117,true):=by rw[e];rfl
   rw[hf];simp[e,zeroB,z0a,z5T,x0,z1,z2,z3,z4,z5,z6,z7,z8,z9,z10,i20,i7,i13,tk,c1,c2,s3,m1,m3,m4,bm,ri,ls]
 · have hf:fOf op=(1,true):=by rw[e];rfl
   rw[hf];simp[e,zeroB,z0a,hs_1,x0,z1,z2,z3,z4,z5,z6,z7,z8,z9,z10,i20,i7,i13,tk,c1,c2,s3,m1,m3,m4,bm,ri,ls]
 · have hf:fOf op=(8,true):=by rw[e];rfl
   rw[hf];simp[e,zeroB,z0a,hs_8,x0,z1,z2,z3,z4,z5,z6,z7,z8,z9,z10,i20,i7,i13,tk,c1,c2,s3,m1,m3,m4,bm,ri,ls]
 · have hf:fOf op=(128,true):=by rw[e];rfl
   rw[hf];simp[e,zeroB,z0a,hs_128,x0,z1,z2,z3,z4,z5,z6,z7,z8,z9,z10,i20,i7,i13,tk,c1,c2,s3,m1,m3,m4,bm,ri,ls]
 · have hf:fOf op=(1,true):=by rw[e];rfl
   rw[hf];simp[e,zeroB,z0a,hs_1,x0,z1,z2,z3,z4,z5,z6,z7,z8,z9,z10,i20,i7,i13,tk,c1,c2,s3,m1,m3,m4,bm,ri,ls]
 · have hf:fOf op=(768,true):=by rw[e];rfl
   rw[hf];simp[e,zeroB,z0a,hs_768,x0,z1,z2,z3,z4,z5,z6,z7,z8,z9,z10,i20,i7,i13,tk,c1,c2,s3,m1,m3,m4,bm,ri,ls]
 · have hf:fOf op=(1,true):=by rw[e];rfl
   rw[hf];simp[e,zeroB,z0a,hs_1,x0,z1,z2,z3,z4,z5,z6,z7,z8,z9,z10,i20,i7,i13,tk,c1,c2,s3,m1,m3,m4,bm,ri,ls]
 · have hf:fOf op=(16,true):=by rw[e];rfl
   rw[hf];simp[e,zeroB,z0a,hs_16,x0,z1,z2,z3,z4,z5,z6,z7,z8,z9,z10,i20,i7,i13,tk,c1,c2,s3,m1,m3,m4,bm,ri,ls]
 · have hf:fOf op=(0,true):=by rw[e];rfl
   rw[hf];simp[e,zeroB,z0a,hs_0,x0,z1,z2,z3,z4,z5,z6,z7,z8,z9,z10,i20,i7,i13,tk,c1,c2,s3,m1,m3,m4,bm,ri,ls]
 · have hf:fOf op=(1,true):=by rw[e];rfl
   rw[hf];simp[e,zeroB,z0a,hs_1,x0,z1,z2,z3,z4,z5,z6,z7,z8,z9,z10,i20,i7,i13,tk,c1,c2,s3,m1,m3,m4,bm,ri,ls]
 · have hf:fOf op=(0,true):=by rw[e];rfl
   rw[hf];simp[e,zeroB,z0a,hs_0,x0,z1,z2,z3,z4,z5,z6,z7,z8,z9,z10,i20,i7,i13,tk,c1,c2,s3,m1,m3,m4,bm,ri,ls]
 · have hf:fOf op=(0,true):=by rw[e];rfl
   rw[hf];simp[e,zeroB,z0a,hs_0,x0,z1,z2,z3,z4,z5,z6,z7,z8,z9,z10,i20,i7,i13,tk,c1,c2,s3,m1,m3,m4,bm,ri,ls]
 · omega
end Go.Proofs.YtmkmhhjkdaklbaaGreat
namespace Go.Proofs.YtmkmhhjkdaklbaaGreat
open Go Go.Ab Go.Cod Go.ChangeShapes Go.WideShapes Go.ChangeAt Go.RowKit
set_option maxRecDepth 100000
structure ActSz (a:AcM):Prop where
 val:a.val<2^64
 bd:a.lo<2^64∧a.hi<2^64
 ru:a.ru.lo<2^64∧a.ru.hi<2^64
theorem z8v {sel:Int} {lo hi:Nat} (h1:lo<2^64) (h2:hi<2^64):(z0D sel lo hi).2.1<2^64∧(z0D sel lo hi).2.2<2^64:=by
 unfold z0D;split
 · exact⟨by decide,by decide⟩
 · split
   · exact⟨h2,h1⟩
   · exact⟨h1,h2⟩
theorem zdn {a:AcM} (h:ActSz a):SzA (z08 a):=by
 have hb:=z8v (sel:=a.sel) h.bd.1 h.bd.2;have hr:ruSz (z2J a.ru):=zeD h.ru.1 h.ru.2;have z:(0:Nat)<2^64:=by decide
 unfold z08;simp only
 repeat' split
 all_goals first
  |exact⟨z,⟨z,z⟩,⟨z,z⟩⟩
  |exact⟨z,hb,⟨z,z⟩⟩
  |exact⟨z,⟨z,z⟩,hr⟩
  |exact⟨h.val,⟨z,z⟩,⟨z,z⟩⟩
theorem wf64i {n:Int} (h:(Lit.int .u64 n).wf=true):0≤n∧n<18446744073709551616:=by
 simp[Lit.wf,IntKind.min,IntKind.max,IntKind.bits,IntKind.signed]at h;omega
def QBytA:List AV→Prop:=fun xs=>∃b:Byt,xs=[.sl 1 (byv b)]
theorem zbq (f:Nat):Reads Tryz.prog 29 f QBytA:=by
 cases f with
 |zero=>exact Reads.zero
 |succ f =>
  refine((Reads.slice (sz:=1) false Tryz.underlying29 (by kernel_rfl) (by decide) (Reads.int Tryz.underlying5 f) (fun y hy _=>by obtain⟨n,_,rfl⟩:=hy;rfl)).weak QSlice.weak).mono fun xs hq=>?_
  obtain⟨ys,h1,h2,rfl⟩:=hq;obtain⟨b,e⟩:=z9i h1;exact⟨b,by rw[e]⟩
def QAct:List AV→Prop:=fun xs=>∃a:AcM,ActSz a∧xs=acC a
theorem zdo (f:Nat):Reads Tryz.prog 56 f QAct:=by
 cases f with
 |zero=>exact Reads.zero
 |succ f =>
  have h:=Reads.struct (P:=Tryz.prog) (t:=56) (f:=f) (Qs:=[QInt .i64,QInt .i64,QInt .i64,QInt .i64,QInt .u64,QInt .u64,QMats,QInts,z9l,QDRuW,z7r,QBytA]) Tryz.underlying56 (by kernel_rfl) rfl (by
   intro p hp;simp only[List.zip_cons_cons,List.zip_nil_right,List.mem_cons,List.not_mem_nil,or_false]at hp;rcases hp with rfl|rfl|rfl|rfl|rfl|rfl|rfl|rfl|rfl|rfl|rfl|rfl
   · exact Reads.int Tryz.underlying3 f
   · exact Reads.int Tryz.underlying3 f
   · exact Reads.int Tryz.underlying3 f
   · exact Reads.int Tryz.underlying3 f
   · exact Reads.int Tryz.underlying45 f
   · exact Reads.int Tryz.underlying45 f
   · exact z4y f
   · exact z6H f
   · exact z4M f
   · exact z8q f
   · exact Reads.floatW Tryz.underlying23 f
   · exact zbq f)
  refine h.mono fun xs hq=>?_
  obtain⟨_,_,rfl,⟨what,_,rfl⟩,_,_,rfl,⟨who,_,rfl⟩,_,_,rfl,⟨id,_,rfl⟩,_,_,rfl,⟨sta,_,rfl⟩,_,_,rfl,⟨st,hst,rfl⟩,_,_,rfl,⟨en,hen,rfl⟩,
   _,_,rfl,⟨ds,hd,rfl⟩,_,_,rfl,⟨ns,rfl⟩,_,_,rfl,⟨sel,lo,hi,h1,h2,rfl⟩,_,_,rfl,⟨ru,h3,h4,rfl⟩,_,_,rfl,⟨val,hv,rfl⟩,_,_,rfl,⟨raw,rfl⟩,rfl⟩:=hq
  obtain⟨a1,a2⟩:=wf64i hst;obtain⟨b1,b2⟩:=wf64i hen;obtain⟨n,rfl⟩:=Int.eq_ofNat_of_zero_le a1;obtain⟨m,rfl⟩:=Int.eq_ofNat_of_zero_le b1;exact⟨⟨what,who,id,sta,n,m,ds,ns,sel,lo,hi,ru,val,raw,hd,by omega,by omega⟩,⟨hv,⟨h1,h2⟩,⟨h3,h4⟩⟩,rfl⟩
theorem z9u {H:Type} {enc:TypeId×Value→H} {W:World} {base:Nat} {v:Value} {d:DataW H} {ps:List MemPlace} (hv:Value.okWide Tryz.prog W .any base 56 v)
  (h:DataW.Trod enc Tryz.prog W 0 (fun _=>true) true 56 v d ps):∃a:AcM,ActSz a∧Rep noM noR W (acV a) v:=by
 obtain⟨cs,rfl,_⟩:=okWide_struct Tryz.underlying56 hv;obtain⟨xs,h1,r,h2,rfl⟩:=Reads.argS zdo h;exact⟨r,h2,h1⟩
end Go.Proofs.YtmkmhhjkdaklbaaGreat
namespace Go.Proofs.YtmkmhhjkdaklbaaGreat
open Go Go.Ab Go.Cod
set_option maxRecDepth 100000
def putC (r:ReM) (c:UInt8):Byt :=
 if c=73 then putN r.id.toNat else if c=84 then txtB r.txt else if c=83 then putN r.st else if c=69 then putN r.en else if c=90 then[opC r.sta]
 else if c=77 then z0S r.mt else if c=66 then putBd (r.any,r.lo,r.hi) else if c=82 then z1t r.ru else if c=76 then z2E r.ls else if c=86 then putV r.val else[]
def preC (r:ReM) (s:ByteArray) (i:Nat):Byt:=opC r.op::(s.data.toList.take i).flatMap (putC r)
def z0U (c:UInt8):Prop:=c=73∨c=84∨c=83∨c=69∨c=90∨c=77∨c=66∨c=82∨c=76∨c=86∨c=45
theorem z8w (r:ReM) (s:ByteArray) (i:Nat) (h:i<s.data.toList.length):preC r s (i+1)=preC r s i++putC r s.data.toList[i]:=by
 unfold preC;rw[List.take_succ_eq_append_getElem h,List.flatMap_append];simp
theorem zhv {r:ReM} (h:mayR r=true):(∀c∈(dOf r.op).data.toList,z0U c)∧(dOf r.op).size≤5∧preC r (dOf r.op) (dOf r.op).size=z09 (fOf r.op).1 r:=by
 have hop:1≤r.op∧r.op≤17:=by
  have:(fOf r.op).2=true:=by unfold mayR at h;simp only[Bool.and_eq_true]at h;exact h.1
  unfold fOf at this;split at this
  · assumption
  · cases this
 have key:∀(s:ByteArray) (f:Int),dOf r.op=s→(fOf r.op).1=f→((∀c∈s.data.toList,z0U c)∧s.size≤5∧preC r s s.size=z09 f r) →
   (∀c∈(dOf r.op).data.toList,z0U c)∧(dOf r.op).size≤5∧preC r (dOf r.op) (dOf r.op).size=z09 (fOf r.op).1 r:=by
  intro s f h1 h2 h3;rw[h1,h2];exact h3
 have a0:(∀c∈S0.data.toList,z0U c)∧S0.size≤5∧preC r S0 S0.size=z09 0 r:=⟨by unfold z0U;decide,by decide,by show preC r S0 1=z09 0 r;simp[preC,z09,putB2,putB1,layF,hs_0,putC]⟩
 have a1:(∀c∈S1.data.toList,z0U c)∧S1.size≤5∧preC r S1 S1.size=z09 1 r:=⟨by unfold z0U;decide,by decide,by show preC r S1 1=z09 1 r;simp[preC,z09,putB2,putB1,layF,hs_1,putC]⟩
 have a3:(∀c∈S3.data.toList,z0U c)∧S3.size≤5∧preC r S3 S3.size=z09 3 r:=⟨by unfold z0U;decide,by decide,by show preC r S3 2=z09 3 r;simp[preC,z09,putB2,putB1,layF,hs_3,putC]⟩
 have a116:(∀c∈S116.data.toList,z0U c)∧S116.size≤5∧preC r S116 S116.size=z09 116 r:=⟨by unfold z0U;decide,by decide,by show preC r S116 4=z09 116 r;simp[preC,z09,putB2,putB1,layF,z5S,putC]⟩
 have a117:(∀c∈S117.data.toList,z0U c)∧S117.size≤5∧preC r S117 S117.size=z09 117 r:=⟨by unfold z0U;decide,by decide,by show preC r S117 5=z09 117 r;simp[preC,z09,putB2,putB1,layF,z5T,putC]⟩
 have a8:(∀c∈S8.data.toList,z0U c)∧S8.size≤5∧preC r S8 S8.size=z09 8 r:=⟨by unfold z0U;decide,by decide,by show preC r S8 1=z09 8 r;simp[preC,z09,putB2,putB1,layF,hs_8,putC]⟩
 have a128:(∀c∈S128.data.toList,z0U c)∧S128.size≤5∧preC r S128 S128.size=z09 128 r:=⟨by unfold z0U;decide,by decide,by show preC r S128 1=z09 128 r;simp[preC,z09,putB2,putB1,layF,hs_128,putC]⟩
 have a768:(∀c∈S768.data.toList,z0U c)∧S768.size≤5∧preC r S768 S768.size=z09 768 r:=⟨by unfold z0U;decide,by decide,by show preC r S768 2=z09 768 r;simp[preC,z09,putB2,putB1,layF,hs_768,putC]⟩
 have a16:(∀c∈S16.data.toList,z0U c)∧S16.size≤5∧preC r S16 S16.size=z09 16 r:=⟨by unfold z0U;decide,by decide,by show preC r S16 1=z09 16 r;simp[preC,z09,putB2,putB1,layF,hs_16,putC]⟩
 rcases ops17 r.op with e|e|e|e|e|e|e|e|e|e|e|e|e|e|e|e|e|e
 all_goals first
  |omega
  |exact key S0 0 (by rw[e];rfl) (by rw[e];rfl) a0
  |exact key S1 1 (by rw[e];rfl) (by rw[e];rfl) a1
  |exact key S3 3 (by rw[e];rfl) (by rw[e];rfl) a3
  |exact key S116 116 (by rw[e];rfl) (by rw[e];rfl) a116
  |exact key S117 117 (by rw[e];rfl) (by rw[e];rfl) a117
  |exact key S8 8 (by rw[e];rfl) (by rw[e];rfl) a8
  |exact key S128 128 (by rw[e];rfl) (by rw[e];rfl) a128
  |exact key S768 768 (by rw[e];rfl) (by rw[e];rfl) a768
  |exact key S16 16 (by rw[e];rfl) (by rw[e];rfl) a16
theorem zas {r:ReM} (h:BdOk r) (c:UInt8):(putC r c).length≤100000:=by
 have p1:=z0w (n:=r.id.toNat) (by have:=h.id1;omega)
 have p2:=z1W r.txt (by have:=h.txt;omega)
 have p3:=z0w (n:=r.st) (by have:=h.st;omega)
 have p4:=z0w (n:=r.en) (by have:=h.en;omega)
 have p5:=(z8p h.mt).2;have p6:=z5P (r.any,r.lo,r.hi);have p7:=zgb r.ru;have p8:=zd9 r.ls;have p9:(putV r.val).length=8:=z1Y _;have p10:=h.txt;simp only[List.flatten_cons,List.flatten_nil,List.append_nil]at p5 p7 p8;unfold putC
 repeat' split
 all_goals first|omega|simp
theorem zat {r:ReM} (h:BdOk r) (s:ByteArray):∀i,i≤s.data.toList.length→(preC r s i).length≤1+100000*i
 |0,_=>by simp[preC]
 |i+1,hi=>by
  have ih:=zat h s i (by omega)
  have:=zas h s.data.toList[i];rw[z8w r s i (by omega),List.length_append]
  omega
section
variable (σ:St)
set_option maxHeartbeats 8000000 in
theorem zdp (r:ReM) (hsm:ReSm r):Ans Tryz.prog 38 [reV r] σ (.sl 1 (byv (z1I r))) σ:=by
 have hi:=fun s=>zbl s r hsm
 unfold z1I
 cases hM:mayR r with
 |false =>
  have:Ans Tryz.prog 38 [reV r] σ .nils σ:=by
   refine Ans.of_run t38 ?_;unfold reV reC at hi⊢;simp -implicitDefEqProofs only[c38,r38,go_sem];refine CO.intro (hi _) ?_;rw[hM];simp -implicitDefEqProofs only[go_sem];exact Fini.ret rfl
  exact this.subR (.nils 1)
 |true =>
  have hok:=bd_ok hM;obtain⟨hlet,hsz,hend⟩:=zhv hM;rw[if_pos rfl,←hend];have hf:=fun s=>z0R s r.op
  have hpl:=zat hok (dOf r.op);have hcl:=zas hok;have hsucc:=z8w r (dOf r.op);have hzero:preC r (dOf r.op) 0=[opC r.op]:=by simp[preC]
  have hss:=z1w (dOf r.op);generalize dOf r.op=s at *;obtain⟨op0,op1,id0,id1,htx,hst,hen,sta0,sta1,hmt,hru,hls⟩:=hok;have m1:=fun s=>z7n s r.id.toNat (by omega)
  have m2:=fun s=>z1H s r.txt (by omega)
  have m3:=fun s=>z7n s r.st (by omega)
  have m4:=fun s=>z7n s r.en (by omega)
  have m5:=fun s=>z6E s r.mt hsm.mt
  have m6:=fun s=>z3F s (r.any,r.lo,r.hi)
  have m7:=fun s=>z8m s r.ru hsm.ru
  have m8:=fun s=>z9k s r.ls hsm.ls
  have m9:=fun s=>z0K s r.val
  have mA:=fun s=>z3r s (bitsF r.val)
  have w1:IntKind.u64.wrap r.id=((r.id.toNat:Nat):Int):=by
   rw[show r.id=((r.id.toNat:Nat):Int) from by omega,z1y (by omega)];rfl
  have w2:=z7q op0 op1;have w3:=z7q sta0 (by omega)
  have c73:putC r 73=putN r.id.toNat:=rfl;have c84:putC r 84=txtB r.txt:=rfl;have c83:putC r 83=putN r.st:=rfl;have c69:putC r 69=putN r.en:=rfl;have c90:putC r 90=[opC r.sta]:=rfl;have c77:putC r 77=z0S r.mt:=rfl;have c66:putC r 66=putBd (r.any,r.lo,r.hi):=rfl;have c82:putC r 82=z1t r.ru:=rfl;have c76:putC r 76=z2E r.ls:=rfl;have c86:putC r 86=putV r.val:=rfl;have c45:putC r 45=[]:=rfl;have hl45:=hcl 45;clear hmt hru hls hend;obtain⟨tok,op,id,txt,st,en,sta,mt,any,lo,hi',⟨src,tgt,ra,rl,rh,eq⟩,ls,val⟩:=r;simp only at m1 m2 m3 m4 m5 m6 m7 m8 m9 mA w1 w2 w3 hf c73 c84 c83 c69 c90 c77 c66 c82 c76 c86 hzero;refine Ans.of_run' t38 (fun hbel _=>?_)
  unfold reV reC at hi⊢;unfold bandV at m6;unfold ruV at m7;simp -implicitDefEqProofs only[c38,r38,go_sem];refine CO.intro (hi _) ?_;rw[hM];simp -implicitDefEqProofs only[go_sem];refine CO.intro (hf _) ?_;simp -implicitDefEqProofs only[go_sem,w2,g0,s0];generalize hR:({ tok:=tok,op:=op,id:=id,txt:=txt,st:=st,en:=en,sta:=sta,mt:=mt,any:=any,lo:=lo,hi:=hi',ru:={ src:=src,tgt:=tgt,any:=ra,lo:=rl,hi:=rh,eq:=eq },ls:=ls,val:=val }:ReM)=R at *;refine Go.Ab.L.count s.size (fun i=>mkE 99 [(1,.rp [Sx tok,I op,I id,Sx txt,UN st,UN en,I sta,mlV mt,Bo any,Fl lo,Fl hi',mlV src,mlV tgt,Bo ra,Fl rl,Fl rh,.sl 1 (txs eq),lsV ls,Fl val]),(3,Sx s),(4,.osl σ.length (preC R s i).length),(5,I i)]) (fun i=>σ++[.row 1 (byv (preC R s i))]) ?_ ?_ (by rw[hzero];rfl) (by rw[hzero];rfl)
  · intro i hi0 J hJ;have hil:i<s.data.toList.length:=by omega
    have hp:=hpl i (by omega)
    have hc:=hlet s.data.toList[i] (List.getElem_mem hil)
    have hx:byteAt s i=(s.data.toList[i]).toNat:=by
     unfold byteAt;rw[List.getD_eq_getElem?_getD,List.getElem?_eq_getElem hil,Option.getD_some]
    rw[hsucc i hil,List.length_append]at hJ;have hcl:=hcl s.data.toList[i];generalize s.data.toList[i]=c at hx hc hJ hcl;generalize preC R s i=pre at hJ hp⊢;have hin:=wrap_succ (i:=i) (by omega)
    unfold z0U at hc;rcases hc with rfl|rfl|rfl|rfl|rfl|rfl|rfl|rfl|rfl|rfl|rfl
    · rw[c73]at hJ hcl;have hb:((byteAt s i:Nat):Int)=73:=by rw[hx];rfl
      have q1:pre.length+(putN id.toNat).length≤4294967296:=by omega
      simp -implicitDefEqProofs only[mkE,go_sem,z0c hi0,dec_lt hi0,hb,z06,w1];refine CO.intro (m1 _) ?_;simp -implicitDefEqProofs only[go_sem,g0,s0,z04,z0o,bc,q1,hin];simp only[z0l]at hJ;exact hJ
    · rw[c84]at hJ hcl;have hb:((byteAt s i:Nat):Int)=84:=by rw[hx];rfl
      have q1:pre.length+(txtB txt).length≤4294967296:=by omega
      simp -implicitDefEqProofs only[mkE,go_sem,z0c hi0,dec_lt hi0,hb,z06,w1];refine CO.intro (m2 _) ?_;simp -implicitDefEqProofs only[go_sem,g0,s0,z04,z0o,bc,q1,hin];simp only[z0l]at hJ;exact hJ
    · rw[c83]at hJ hcl;have hb:((byteAt s i:Nat):Int)=83:=by rw[hx];rfl
      have q1:pre.length+(putN st).length≤4294967296:=by omega
      simp -implicitDefEqProofs only[mkE,go_sem,z0c hi0,dec_lt hi0,hb,z06,w1];refine CO.intro (m3 _) ?_;simp -implicitDefEqProofs only[go_sem,g0,s0,z04,z0o,bc,q1,hin];simp only[z0l]at hJ;exact hJ
    · rw[c69]at hJ hcl;have hb:((byteAt s i:Nat):Int)=69:=by rw[hx];rfl
      have q1:pre.length+(putN en).length≤4294967296:=by omega
      simp -implicitDefEqProofs only[mkE,go_sem,z0c hi0,dec_lt hi0,hb,z06,w1];refine CO.intro (m4 _) ?_;simp -implicitDefEqProofs only[go_sem,g0,s0,z04,z0o,bc,q1,hin];simp only[z0l]at hJ;exact hJ
    · rw[c90]at hJ hcl;have hb:((byteAt s i:Nat):Int)=90:=by rw[hx];rfl
      have q1:pre.length+1≤4294967296:=by omega
      simp -implicitDefEqProofs only[mkE,go_sem,z0c hi0,dec_lt hi0,hb,z06,w3,g0,s0,z04,z0o,bc,q1,hin];simp only[z0l]at hJ;exact hJ
    · rw[c77]at hJ hcl;have hb:((byteAt s i:Nat):Int)=77:=by rw[hx];rfl
      have q1:pre.length+(z0S mt).length≤4294967296:=by omega
      simp -implicitDefEqProofs only[mkE,go_sem,z0c hi0,dec_lt hi0,hb,z06,w1];refine CO.intro (m5 _) ?_;simp -implicitDefEqProofs only[go_sem,g0,s0,z04,z0o,bc,q1,hin];simp only[z0l]at hJ;exact hJ
    · rw[c66]at hJ hcl;have hb:((byteAt s i:Nat):Int)=66:=by rw[hx];rfl
      have q1:pre.length+(putBd (any,lo,hi')).length≤4294967296:=by omega
      simp -implicitDefEqProofs only[mkE,go_sem,z0c hi0,dec_lt hi0,hb,z06,w1];refine CO.intro (m6 _) ?_;simp -implicitDefEqProofs only[go_sem,g0,s0,z04,z0o,bc,q1,hin];simp only[z0l]at hJ;exact hJ
    · rw[c82]at hJ hcl;have hb:((byteAt s i:Nat):Int)=82:=by rw[hx];rfl
      have q1:pre.length+(z1t ⟨src,tgt,ra,rl,rh,eq⟩).length≤4294967296:=by omega
      simp -implicitDefEqProofs only[mkE,go_sem,z0c hi0,dec_lt hi0,hb,z06,w1];refine CO.intro (m7 _) ?_;simp -implicitDefEqProofs only[go_sem,g0,s0,z04,z0o,bc,q1,hin];simp only[z0l]at hJ;exact hJ
    · rw[c76]at hJ hcl;have hb:((byteAt s i:Nat):Int)=76:=by rw[hx];rfl
      have q1:pre.length+(z2E ls).length≤4294967296:=by omega
      simp -implicitDefEqProofs only[mkE,go_sem,z0c hi0,dec_lt hi0,hb,z06,w1];refine CO.intro (m8 _) ?_;simp -implicitDefEqProofs only[go_sem,g0,s0,z04,z0o,bc,q1,hin];simp only[z0l]at hJ;exact hJ
    · rw[c86]at hJ hcl;have hb:((byteAt s i:Nat):Int)=86:=by rw[hx];rfl
      have q1:pre.length+(wrdB (bitsF val)).length≤4294967296:=by have:(wrdB (bitsF val)).length=8:=z1Y _;omega
      simp -implicitDefEqProofs only[mkE,go_sem,z0c hi0,dec_lt hi0,hb,z06,w1];refine CO.intro (m9 _) ?_;simp -implicitDefEqProofs only[go_sem];refine CO.intro (mA _) ?_;simp -implicitDefEqProofs only[go_sem,g0,s0,z04,z0o,bc,q1,hin];unfold putV at hJ;simp only[z0l]at hJ;exact hJ
    · rw[c45]at hJ;have hb:((byteAt s i:Nat):Int)=45:=by rw[hx];rfl
      simp -implicitDefEqProofs only[mkE,go_sem,z0c hi0,dec_lt hi0,hb,z06,hin];simp only[List.append_nil,List.length_nil,Nat.add_zero]at hJ;exact hJ
  · intro J;have d0:decide ((s.size:Int)<s.size)=false:=by simp
    simp -implicitDefEqProofs only[mkE,go_sem,d0,g0,s0,z04];exact Fini.trim2 (σ':=σ) (ex:=[_]) rfl rfl (Nat.le_refl _) (z1F _ _) hbel
end
end Go.Proofs.YtmkmhhjkdaklbaaGreat
namespace Go.Proofs.YtmkmhhjkdaklbaaGreat
open Go Go.Ab Go.Cod Go.ChangeShapes Go.WideShapes Go.ChangeAt Go.RowKit
set_option maxRecDepth 100000
theorem zgl (r:RuM):([z1t r]:List Byt).flatten.length≤2000:=by
 unfold z1t
 cases h:ruIs r with
 |false=>simp
 |true =>
  have hp:=z4Y h r.eq.length (Nat.le_refl _);have hl:=(z1X h).2.2.2.1;rw[z7i]at hp;simp;omega
theorem z9v (r:ReM):(z1I r).length≤4000:=by
 unfold z1I
 cases hM:mayR r with
 |false=>exact Nat.zero_le _
 |true =>
  obtain⟨op0,op1,id0,id1,htx,hst,hen,sta0,sta1,hmt,hru,hls⟩:=bd_ok hM;rw[if_pos rfl];unfold z09 putB2 putB1;have f1:∀b:Byt,([b]:List Byt).flatten=b:=fun b=>by simp
  have f2:∀b c:Byt,([b,c]:List Byt).flatten.length=b.length+c.length:=fun b c=>by simp
  refine Nat.le_trans (z2k (n:=3600) (m:=8) (z2k (n:=2600) (m:=1000) (z2k (n:=600) (m:=2000) (z2k (n:=583) (m:=17) (z2k (n:=73) (m:=510) (z2k (n:=72) (m:=1) (z2k (n:=52) (m:=20) (z2k (n:=12) (m:=40) (z2k (n:=2) (m:=10) (by simp) ?_) ?_) ?_) ?_) ?_) ?_) ?_) ?_) ?_) (by decide)<;>intro _
  · rw[f1];exact z0w (by omega)
  · rw[f1];have:=z1W r.txt (by omega);omega
  · rw[f2];have:=z0w (n:=r.st) (by omega);have:=z0w (n:=r.en) (by omega);omega
  · simp
  · exact(z8p hmt).2
  · rw[f1];exact z5P _
  · exact zgl _
  · exact zd9 _
  · rw[f1];exact Nat.le_of_eq (z1Y _)
theorem zhw {x:ReM} (h:mayR x=true):ReSm x:=by
 unfold mayR zeroB z0a at h;generalize (fOf x.op).1=f at h;simp only[Bool.and_eq_true]at h;obtain⟨_,⟨_,_,_,_,_,_,z7,z8,_⟩,_,_,_,_,_,r6,_,_,r9,r10⟩:=h;refine⟨fun m hm=>by have:=(z3c r6).2 m hm;omega,?_,?_⟩
 · cases h128:hasF f 128 with
   |true =>
    rw[h128]at r9;obtain⟨q1,q2,q3,q4,q5⟩:=z1X (show ruIs x.ru=true from r9)
    exact⟨fun m hm=>by have:=(z3c q1).2 m hm;omega,fun m hm=>by have:=(z3c q2).2 m hm;omega,fun s hs=>by have:=q5 s hs;omega⟩
   |false =>
    rw[h128]at z7;have:=(z24 x.ru).1 z7;rw[this];exact⟨fun _ h=>(by cases h),fun _ h=>(by cases h),fun _ h=>(by cases h)⟩
 · intro l hl
   cases h256:hasF f 256 with
   |true =>
    rw[h256]at r10;have:=(z4x (show setB x.ls=true from r10)).2 l hl
    omega
   |false =>
    rw[h256]at z8;have:=zeG (show emI x.ls.length=true from z8)
    rw[List.length_eq_zero_iff.1 this]at hl;cases hl
theorem zhx (x y:Byt):((⟨x.toArray⟩:ByteArray).toList==(⟨y.toArray⟩:ByteArray).toList)=decide (x=y):=by
 rw[Bool.eq_iff_iff,decide_eq_true_eq,beq_iff_eq];constructor
 · intro h;have:=congrArg (fun s:ByteArray=>s.data.toList) (toList_inj h)
   simpa using this
 · intro h;rw[h]
theorem wf8c {n:Int} (h:(Lit.int .u8 n).wf=true):0≤n∧n<256:=by
 simp[Lit.wf,IntKind.min,IntKind.max,IntKind.bits,IntKind.signed]at h;omega
section
variable {H:Type} {enc:TypeId×Value→H} {W:World} {base:Nat} {v:Value} {d:DataW H} {ps:List MemPlace}
theorem z9w (hv:Value.okWide Tryz.prog W .any base 45 v) (h:DataW.Trod enc Tryz.prog W 0 (fun _=>true) true 45 v d ps):∃n:Nat,n<18446744073709551616∧Rep noM noR W (UN n) v:=by
 obtain⟨n,rfl⟩:=okWide_int Tryz.underlying45 hv;obtain⟨x,hx,m,hm,e⟩:=Reads.arg (P:=Tryz.prog) (t:=45) (fun f=>Reads.int Tryz.underlying45 f) rfl h
 simp only[List.cons.injEq,and_true]at e;subst e;obtain⟨h0,h1⟩:=wf64i hm;obtain⟨k,rfl⟩:=Int.eq_ofNat_of_zero_le h0;exact⟨k,by omega,hx⟩
theorem z6P (hv:Value.okWide Tryz.prog W .any base 5 v) (h:DataW.Trod enc Tryz.prog W 0 (fun _=>true) true 5 v d ps):∃c:UInt8,Rep noM noR W (bc c) v:=by
 obtain⟨n,rfl⟩:=okWide_int Tryz.underlying5 hv;obtain⟨x,hx,m,hm,e⟩:=Reads.arg (P:=Tryz.prog) (t:=5) (fun f=>Reads.int Tryz.underlying5 f) rfl h
 simp only[List.cons.injEq,and_true]at e;subst e;obtain⟨h0,h1⟩:=wf8c hm;obtain⟨k,rfl⟩:=Int.eq_ofNat_of_zero_le h0;refine⟨k.toUInt8,?_⟩;unfold bc;rw[toNat_toUInt8 (by omega)]
 exact hx
end
end Go.Proofs.YtmkmhhjkdaklbaaGreat
namespace Go.Proofs.YtmkmhhjkdaklbaaGreat
open Go Go.Ab Go.Cod
set_option maxRecDepth 100000
def oneRc:RcM:=⟨0,3,[1],0⟩
theorem zfc:rcIs oneRc=true:=by kernel_rfl
theorem zdq:z0G oneRc=[0,3,1,1,0]:=by
 unfold z0G putRc txtB;rw[if_pos zfc,z2c (n:=oneRc.ix.toNat) (by decide),z2c (n:=oneRc.ck) (by decide),z2c (n:=(⟨oneRc.bd.toArray⟩:ByteArray).size) (by decide)]
 rfl
theorem zeK:rdRc [0,3,1,1,0]=some oneRc:=by kernel_rfl
theorem zeL:rdRc [0,3,1,99,0]=none:=by kernel_rfl
theorem rd_b (σ:St):Ans Tryz.prog 24 [] σ (Bo true) σ:=by
 have q1:=fun s=>(z2m s [0,3,1,1,0] (by decide)).subR (z6J _)
 have q2:=fun s=>(z2m s [0,3,1,99,0] (by decide)).subR (z6J _)
 rw[zeK]at q1;rw[zeL]at q2;have p1:=fun s=>z2w s oneRc (by decide)
 have p2:=fun s=>z51 s oneRc (by decide)
 rw[zdq]at p1;rw[zfc]at p2;have w1:rcT (some oneRc)=.tup [rcV oneRc,Bo true]:=rfl;have w2:rcT none=.tup [rcV noRc,Bo false]:=rfl;rw[w1]at q1;rw[w2]at q2;unfold oneRc noRc rcV rcC at *;simp only[byv,List.map_cons,List.map_nil]at q1 q2;obtain⟨B1,e1⟩:∃B:Byt,B=[0,3,1,1,0]:=⟨_,rfl⟩;have h1:((⟨B1.toArray⟩:ByteArray).toList==(ByteArray.mk #[0,3,1,1,0]).toList)=true:=by rw[e1];decide +kernel
 have h2:((textOf [1]).toList==(ByteArray.mk #[1]).toList)=true:=by decide +kernel
 rw[←e1]at p1;have q1':∀s,Ans Tryz.prog 29 [.sl 1 [.pl (.int .u8 0),.pl (.int .u8 3),.pl (.int .u8 1),.pl (.int .u8 1),.pl (.int .u8 0)]] s (.tup [.agg [I 0,.pl (.int .u64 3),.sl 1 [.pl (.int .u8 1)],I 0],Bo true]) s:=q1;have q2':∀s,Ans Tryz.prog 29 [.sl 1 [.pl (.int .u8 0),.pl (.int .u8 3),.pl (.int .u8 1),.pl (.int .u8 99),.pl (.int .u8 0)]] s (.tup [.agg [I 0,.pl (.int .u64 0),.sl 1 [],I 0],Bo false]) s:=q2;have p1':∀s,Ans Tryz.prog 27 [.agg [.pl (.int .i64 0),.pl (.int .u64 3),.sl 1 [.pl (.int .u8 1)],.pl (.int .i64 0)]] s (.sl 1 (byv B1)) s:=p1;have p2':∀s,Ans Tryz.prog 25 [.agg [.pl (.int .i64 0),.pl (.int .u64 3),.sl 1 [.pl (.int .u8 1)],.pl (.int .i64 0)]] s (Bo true) s:=p2;have h4:byteL [AV.pl (.int .u8 1)]=some [1]:=rfl;refine Ans.of_run t24 ?_;simp -implicitDefEqProofs only[c24,r24,go_sem,List.append_assoc,List.cons_append,List.nil_append,List.length_append,List.length_cons,List.length_nil,g0,s0,g1,s1,g2,s2,g3,s3];refine CO.intro (q1' _) ?_;simp -implicitDefEqProofs only[go_sem,List.append_assoc,List.cons_append,List.nil_append,List.length_append,List.length_cons,List.length_nil,g0,s0,g1,s1,g2,s2,g3,s3];refine CO.intro (q2' _) ?_;simp -implicitDefEqProofs only[go_sem,List.append_assoc,List.cons_append,List.nil_append,List.length_append,List.length_cons,List.length_nil,g0,s0,g1,s1,g2,s2,g3,s3];refine CO.intro (p1' _) ?_
 simp -implicitDefEqProofs only[go_sem,List.append_assoc,List.cons_append,List.nil_append,List.length_append,List.length_cons,List.length_nil,g0,s0,g1,s1,g2,s2,g3,s3,z0o,bc,z1M,z1G,AV.isStr,h1,h2,h4];refine CO.intro (p2' _) ?_;simp -implicitDefEqProofs only[go_sem,List.append_assoc,List.cons_append,List.nil_append,List.length_append,List.length_cons,List.length_nil,g0,s0,g1,s1,g2,s2,g3,s3];exact Fini.ret rfl
end Go.Proofs.YtmkmhhjkdaklbaaGreat
namespace Go.Proofs.YtmkmhhjkdaklbaaGreat
open Go Go.Ab
set_option maxRecDepth 100000
def c8:ACode :=
 (sq_ [pr_ 9 (.boxr (.tmp 2)),
 pr_ 14 mf_]
 (.seq (sq_ [mv_ 26 4,
 pr_ 27 (.lenv (.tmp 26)),
 pr_ 28 (bk_ .gtr 27 .i64 800),
 mv_ 29 28,
 gp_ 30 29 false (mo_ 5),
 gp_ 31 29 false (.lenv (.tmp 30)),
 gp_ 32 29 false (bk_ .gtr 31 .i64 800),
 pr_ 33 (po_ 29 32)]
 (.cond (.tmp 33)
 (sq_ [cl_ 34 24 [],
 mv_ 14 34]
 .ret)
 .skip))
 (sq_ [pr_ 35 (.build [.pl (.int .i64 0),.pl (.int .i64 0),.pl (.int .i64 0),.pl (.int .i64 0),.pl (.int .i64 0),.pl (.int .i64 0),.pl (.int .i64 0),.pl (.int .i64 0)] [(0,1,(.const (.int .i64 0))),(1,1,(.const (.int .i64 4))),(2,1,(.const (.int .i64 5))),(3,1,(.const (.int .i64 6))),(4,1,(.const (.int .i64 7))),(5,1,(.const (.int .i64 8))),(6,1,(.const (.int .i64 9))),(7,1,(.const (.int .i64 10)))]),
 mv_ 36 3,
 pr_ 37 (bk_ .rem 36 .u8 8),
 pr_ 38 (.idxa 1 8 false (.tmp 35) (.tmp 37)),
 mv_ 15 38]
 (sq_ [mv_ 39 0,
 pr_ 40 (.convi .i64 (.tmp 39)),
 mv_ 41 1,
 pr_ 42 (bk_ .rem 41 .u64 1099511627777),
 pr_ 43 (lt_ 19 9),
 mv_ 44 15,
 cl_ 45 32 [(.tmp 40),(.tmp 42),(.tmp 43),(.tmp 44)],
 ⟨some 16,none,.fresh 4 16 (.tmp 45)⟩]
 (sq_ [pr_ 46 (lt_ 4 16),
 c1_ 47 27 46,
 mv_ 17 47]
 (sq_ [mv_ 49 17,
 c1_ 50 29 49,
 mv_ 48 50,
 pr_ 51 (ex_ 0 48),
 pr_ 52 (ex_ 1 48),
 ⟨some 18,none,.fresh 4 18 (.tmp 51)⟩,
 mv_ 19 52]
 (.seq (sq_ [mv_ 53 17,
 pr_ 54 (.lenv (.tmp 53)),
 pr_ 55 (bk_ .lss 54 .i64 1),
 mv_ 56 55,
 gp_ 57 56 false (mo_ 19),
 gp_ 58 56 false (no_ 57),
 pr_ 59 (po_ 56 58),
 mv_ 60 59,
 gp_ 61 60 false (lt_ 4 18),
 gp_ 62 60 false (lt_ 4 16),
 gc_ 63 60 false 31 [(.tmp 61),(.tmp 62)],
 gp_ 64 60 false (no_ 63),
 pr_ 65 (po_ 60 64)]
 (.cond (.tmp 65)
 (sq_ [pr_ 14 mf_]
 .ret)
 .skip))
 (sq_ [mv_ 67 17,
 pr_ 68 (.app 1 (.const (.slice none 0 0)) (.tmp 67)),
 mv_ 69 4,
 pr_ 70 (.app 1 (.tmp 68) (.tmp 69)),
 c1_ 71 29 70,
 mv_ 66 71,
 pr_ 72 (ex_ 0 66),
 pr_ 73 (ex_ 1 66),
 ⟨some 20,none,.fresh 4 20 (.tmp 72)⟩,
 mv_ 21 73]
 (.seq (sq_ [mv_ 74 6,
 pr_ 75 (bk_ .lss 74 .i64 0)]
 (.cond (.tmp 75)
 (.ops [pr_ 6 (mi_ .i64 0)])
 .skip))
 (sq_ [mv_ 77 17,
 mv_ 78 6,
 mv_ 79 17,
 pr_ 80 (.lenv (.tmp 79)),
 pr_ 81 (bt_ .rem 78 80),
 pr_ 82 (.slcv 1 (.tmp 77) none (some (.tmp 81))),
 c1_ 83 29 82,
 mv_ 76 83,
 pr_ 84 (ex_ 0 76),
 pr_ 85 (ex_ 1 76),
 ⟨some 22,none,.fresh 4 22 (.tmp 84)⟩,
 mv_ 23 85]
 (sq_ [mv_ 87 5,
 c1_ 88 29 87,
 mv_ 86 88,
 pr_ 89 (ex_ 0 86),
 pr_ 90 (ex_ 1 86),
 ⟨some 24,none,.fresh 4 24 (.tmp 89)⟩,
 mv_ 25 90]
 (.seq (.draw [⟨mv_ 91 21,[],false,0,0⟩,
 ⟨mv_ 92 4,[],false,0,0⟩,
 ⟨pr_ 93 (.lenv (.tmp 92)),[1],false,0,0⟩,
 ⟨pr_ 94 (bk_ .eql 93 .i64 0),[1,2],false,0,0⟩,
 ⟨pr_ 95 (.bin true .eql (.tmp 91) (.tmp 94)),[0,1,2,3],false,0,0⟩,
 ⟨mv_ 96 95,[0,1,2,3,4],false,0,0⟩,
 ⟨gp_ 97 96 true (mo_ 23),(List.range 6),false,0,0⟩,
 ⟨gp_ 98 96 true (no_ 97),(List.range 7),false,0,0⟩,
 ⟨pr_ 99 (pa_ 96 98),(List.range 8),false,0,0⟩,
 ⟨mv_ 100 99,(List.range 9),false,0,0⟩,
 ⟨gp_ 101 100 true (mo_ 25),(List.range 10),false,0,0⟩,
 ⟨gp_ 102 100 true (no_ 101),(List.range 11),false,0,0⟩,
 ⟨gp_ 103 100 true (mo_ 102),(List.range 12),false,0,0⟩,
 ⟨gp_ 104 103 false (lt_ 4 24),(List.range 13),false,0,0⟩,
 ⟨gc_ 105 103 false 27 [(.tmp 104)],(List.range 14),true,0,0⟩,
 ⟨gp_ 106 103 false (.b2s (.tmp 105)),(List.range 15),false,1,1⟩,
 ⟨gp_ 107 103 false (mo_ 5),(List.range 13),false,0,1⟩,
 ⟨gp_ 108 103 false (.b2s (.tmp 107)),[0,1,2,3,4,5,6,7,8,9,10,11,12,16],false,0,1⟩,
 ⟨gp_ 109 103 false (bt_ .eql 106 108),(List.range 18),false,1,1⟩,
 ⟨gp_ 110 100 true (po_ 103 109),(List.range 19),false,1,1⟩,
 ⟨pr_ 111 (pa_ 100 110),(List.range 20),false,1,1⟩,
 ⟨mv_ 112 111,(List.range 21),false,1,1⟩,
 ⟨gc_ 113 112 true 24 [],(List.range 22),true,0,0⟩,
 ⟨pr_ 114 (pa_ 112 113),(List.range 23),false,2,2⟩,
 ⟨mv_ 14 114,(List.range 24),false,2,2⟩])
 .ret))))))))))))
def o8:List Tmp:=[]
def r8:List RV:=[.tmp 14]
theorem t8:Text Tryz.prog 8 o8 c8 r8 115:=.mk_ Tryz.f8 rfl
def c9:ACode :=
 (sq_ [pr_ 12 (.boxr (.tmp 4)),
 pr_ 13 (.boxr (.tmp 5)),
 pr_ 16 mf_]
 (sq_ [pr_ 20 (.build [.pl (.int .i64 0),.pl (.int .i64 0),.pl (.int .i64 0),.pl (.int .i64 0),.pl (.int .i64 0),.pl (.int .i64 0),.pl (.int .i64 0),.pl (.int .i64 0)] [(0,1,(.const (.int .i64 0))),(1,1,(.const (.int .i64 4))),(2,1,(.const (.int .i64 5))),(3,1,(.const (.int .i64 6))),(4,1,(.const (.int .i64 7))),(5,1,(.const (.int .i64 8))),(6,1,(.const (.int .i64 9))),(7,1,(.const (.int .i64 10)))]),
 ⟨some 17,none,.fresh 8 17 (.tmp 20)⟩]
 (.seq (.draw [⟨mv_ 21 0,[],false,0,0⟩,
 ⟨pr_ 22 (.convi .i64 (.tmp 21)),[0],false,0,0⟩,
 ⟨mv_ 23 2,[],false,0,0⟩,
 ⟨pr_ 24 (bk_ .rem 23 .u64 1099511627777),[2],false,0,0⟩,
 ⟨pr_ 25 (lt_ 19 12),[],false,0,0⟩,
 ⟨mv_ 26 6,[],false,0,0⟩,
 ⟨pr_ 27 (bk_ .rem 26 .u8 8),[5],false,0,0⟩,
 ⟨pr_ 28 (.iadra 1 8 (.tmp 17) (.tmp 27)),[5,6],false,0,0⟩,
 ⟨pr_ 29 (lf_ 1 28),[5,6,7],false,0,0⟩,
 ⟨cl_ 30 32 [(.tmp 22),(.tmp 24),(.tmp 25),(.tmp 29)],(List.range 9),true,0,0⟩,
 ⟨⟨some 18,none,.flo 4⟩,[],false,0,1⟩,
 ⟨⟨some 18,none,.adopt false 18 4 (.tmp 30)⟩,(List.range 11),true,0,0⟩])
 (.seq (.draw [⟨mv_ 31 1,[],false,0,0⟩,
 ⟨pr_ 32 (.convi .i64 (.tmp 31)),[0],false,0,0⟩,
 ⟨mv_ 33 3,[],false,0,0⟩,
 ⟨pr_ 34 (bk_ .rem 33 .u64 1099511627777),[2],false,0,0⟩,
 ⟨pr_ 35 (lt_ 19 13),[],false,0,0⟩,
 ⟨mv_ 36 7,[],false,0,0⟩,
 ⟨pr_ 37 (bk_ .rem 36 .u8 8),[5],false,0,0⟩,
 ⟨pr_ 38 (.iadra 1 8 (.tmp 17) (.tmp 37)),[5,6],false,0,0⟩,
 ⟨pr_ 39 (lf_ 1 38),[5,6,7],false,0,0⟩,
 ⟨cl_ 40 32 [(.tmp 32),(.tmp 34),(.tmp 35),(.tmp 39)],(List.range 9),true,0,0⟩,
 ⟨⟨some 19,none,.flo 4⟩,[],false,0,1⟩,
 ⟨⟨some 19,none,.adopt false 19 4 (.tmp 40)⟩,(List.range 11),true,0,0⟩])
 (.seq (.draw [⟨pr_ 41 (lt_ 4 18),[],false,0,0⟩,
 ⟨c1_ 42 27 41,[0],true,0,0⟩,
 ⟨pr_ 43 (.b2s (.tmp 42)),[0,1],false,1,3⟩,
 ⟨pr_ 44 (lt_ 4 19),[],false,0,1⟩,
 ⟨c1_ 45 27 44,[0,1,3],true,0,0⟩,
 ⟨pr_ 46 (.b2s (.tmp 45)),[0,1,3,4],false,2,3⟩,
 ⟨pr_ 47 (bt_ .eql 43 46),(List.range 6),false,2,3⟩,
 ⟨pr_ 48 (lt_ 4 18),[],false,0,2⟩,
 ⟨pr_ 49 (lt_ 4 19),[],false,0,2⟩,
 ⟨cl_ 50 31 [(.tmp 48),(.tmp 49)],[0,1,3,4,7,8],true,0,0⟩,
 ⟨pr_ 51 (.bin true .eql (.tmp 47) (.tmp 50)),(List.range 10),false,3,3⟩,
 ⟨mv_ 52 51,(List.range 11),false,3,3⟩,
 ⟨gp_ 53 52 true (lt_ 4 18),(List.range 12),false,3,3⟩,
 ⟨gc_ 54 52 true 25 [(.tmp 53)],(List.range 13),true,0,0⟩,
 ⟨pr_ 55 (pa_ 52 54),(List.range 14),false,4,4⟩,
 ⟨mv_ 56 55,(List.range 15),false,4,4⟩,
 ⟨gc_ 57 56 true 24 [],(List.range 16),true,0,0⟩,
 ⟨pr_ 58 (pa_ 56 57),(List.range 17),false,5,5⟩,
 ⟨mv_ 16 58,(List.range 18),false,5,5⟩])
 .ret)))))
def o9:List Tmp:=[]
def r9:List RV:=[.tmp 16]
theorem t9:Text Tryz.prog 9 o9 c9 r9 59:=.mk_ Tryz.f9 rfl
end Go.Proofs.YtmkmhhjkdaklbaaGreat
namespace Go.Proofs.YtmkmhhjkdaklbaaGreat
open Go Go.Ab Go.Cod
set_option maxRecDepth 100000
def recOf (ix:Int) (ck:Nat) (a:AcM) (cd:Int):RcM:=⟨ix,ck,z1I (z08 a),cd⟩
theorem z7v (σ:St) (ix:Int) (ck:Nat) (a:AcM) (cd:Int):Ans Tryz.prog 32 [I ix,UN ck,acV a,I cd] σ (rcV (recOf ix ck a cd)) σ:=by
 have u1:=fun s=>z9t s a
 have m1:=z8u a;unfold recOf;generalize z08 a=r at u1 m1⊢;have p1:=fun s=>zdp s r (zhw m1)
 have hb:∀B,Bel σ.length (rcV ⟨ix,ck,B,cd⟩):=fun B=>zd6 _ _
 generalize z1I r=B at p1⊢;unfold acV acC at u1⊢;unfold reV reC at *;unfold rcV rcC at *;refine Ans.of_run' t32 (fun hbel _=>?_)
 simp -implicitDefEqProofs only[c32,r32,go_sem];refine CO.intro (u1 _) ?_;simp -implicitDefEqProofs only[go_sem];refine CO.intro (p1 _) ?_;simp -implicitDefEqProofs only[go_sem,g0,s0];exact tr_ (σ':=σ) (ex:=[_]) rfl (hb _) hbel
theorem zeM (ix:Int) (ck:Nat) {a:AcM} (ha:ActSz a) (cd:Int):bdB (recOf ix ck a cd).bd=true:=by
 have:=zdj (z8u a) (zdn ha) [];rw[List.append_nil]at this;show(wholeO (bodyR (z1I (z08 a)))).isSome=true;rw[this];rfl
theorem z5Y (ix:Int) (ck:Nat) (a:AcM) (cd:Int):(recOf ix ck a cd).bd.length≤4000:=z9v _
theorem z5Z {r:RcM} (h:rcIs r=true) (hb:r.bd.length≤4000):(putRc r).length≤4100∧1≤(putRc r).length:=by
 have h1:=z7o h;have h2:(putN r.ix.toNat).length≤10:=z0w (by omega)
 have h3:(putN r.ck).length≤10:=z0w (by omega)
 have h4:=z1W ⟨r.bd.toArray⟩ (by rw[z4i];omega)
 rw[z4i]at h4;unfold putRc;simp only[List.length_append,List.length_cons,List.length_nil];omega
theorem z60 {r:RcM} (hb:r.bd.length≤4000):(z0G r).length≤4100:=by
 unfold z0G;split
 · rename_i h;exact(z5Z h hb).1
 · exact Nat.zero_le _
theorem zeN:rdRc []=none:=rfl
theorem zbr {r:RcM} (hb:r.bd.length≤4000):rdRc (z0G r)=if rcIs r then some r else none:=by
 cases h:rcIs r with
 |true =>
  have:=(z5Z h hb).1;rw[z1S h,zaq h (by omega)];rfl
 |false =>
  have:z0G r=[]:=by unfold z0G;rw[h];rfl
  rw[this,zeN];rfl
def cdOf (k:Nat):Int:=[0,4,5,6,7,8,9,10].getD k 0
theorem z7w {k:Nat} (h:k<8):cdB (cdOf k)=true∧(List.drop (k*1) ([I 0,I 4,I 5,I 6,I 7,I 8,I 9,I 10]:List AV)).head?=some (I (cdOf k)):=by
 match k,h with
 |0,_|1,_|2,_|3,_|4,_|5,_|6,_|7,_=>exact⟨rfl,rfl⟩
theorem z7x {i:UInt8} {p:Nat} {a:AcM} (ha:ActSz a) {k:Nat} (hk:k<8):rcIs (recOf ((i.toNat:Nat):Int) (p%1099511627777) a (cdOf k))=true:=by
 have h1:=i.toNat_lt;have h2:=Nat.mod_lt p (show 0<1099511627777 by decide)
 have h3:=zeM ((i.toNat:Nat):Int) (p%1099511627777) ha (cdOf k);unfold rcIs;rw[h3];unfold recOf;simp only[(z7w hk).1,Bool.and_true,Bool.and_eq_true,decide_eq_true_eq];omega
end Go.Proofs.YtmkmhhjkdaklbaaGreat
namespace Go.Proofs.YtmkmhhjkdaklbaaGreat
open Go Go.Ab Go.Cod Go.ChangeShapes Go.WideShapes Go.ChangeAt Go.RowKit
set_option maxRecDepth 100000
theorem zgm {r:RcM} (h:rcIs r=true) (t:Byt) (hl:(z0G r++t).length<2^64):∃v:RcM,rcT (rdRc (z0G r++t))=.tup [rcV v,Bo (t.length==0)]:=by
 rw[z1S h]at hl⊢;rw[zdk h t hl]
 cases t with
 |nil=>exact⟨r,rfl⟩
 |cons _ _=>exact⟨noRc,rfl⟩
theorem zhy (b:Byt) (hl:b.length≤800):∃(y:RcM) (ok:Bool),rcT (rdRc b)=.tup [rcV y,Bo ok]∧(ok=true→y.bd.length≤800∧z0G y=b):=by
 cases h:rdRc b with
 |none=>exact⟨noRc,false,rfl,fun h=>by cases h⟩
 |some y =>
  obtain⟨h1,h2⟩:=z7s (by omega) h
  have:=z52 y;rw[←h1]at this;exact⟨y,true,rfl,fun _=>⟨by omega,by rw[z1S h2,←h1]⟩⟩
theorem tmod8 (c:UInt8):((c.toNat:Nat):Int).tmod 8=((c.toNat%8:Nat):Int):=rfl
theorem tmodC (n:Nat):((n:Nat):Int).tmod 1099511627777=((n%1099511627777:Nat):Int):=rfl
theorem wrap_u8 (c:UInt8):IntKind.i64.wrap ((c.toNat:Nat):Int)=((c.toNat:Nat):Int):=wrapI (by have:=c.toNat_lt;omega)
theorem z68 (ix:UInt8) (ck:Nat) (hck:ck<18446744073709551616) (a:AcM) (ha:ActSz a) (cd:UInt8) (tail raw:Byt) (c:Int) :
  Ans Tryz.prog 8 [bc ix,UN ck,acV a,bc cd,.sl 1 (byv tail),.sl 1 (byv raw),I c] [] (.pl (.bool true)) []:=by
 have d8:decide ((800:Int)<tail.length)=decide (800<tail.length):=decNN 800 _;have v8:decide ((800:Int)<raw.length)=decide (800<raw.length):=decNN 800 _;refine Ans.of_run t8 ?_;by_cases ht:800<tail.length
 · rw[decide_eq_true ht]at d8;unfold acV acC bc;simp -implicitDefEqProofs only[c8,r8,go_sem,z04,d8];refine CO.intro (rd_b _) ?_;simp -implicitDefEqProofs only[go_sem];exact Fini.trim2 (σ':=[]) rfl rfl (Nat.le_refl _) (.pl _) (fun o ho=>by cases ho)
 by_cases hr:800<raw.length
 · rw[decide_eq_false ht]at d8;rw[decide_eq_true hr]at v8;unfold acV acC bc;simp -implicitDefEqProofs only[c8,r8,go_sem,z04,d8,v8];refine CO.intro (rd_b _) ?_;simp -implicitDefEqProofs only[go_sem];exact Fini.trim2 (σ':=[]) rfl rfl (Nat.le_refl _) (.pl _) (fun o ho=>by cases ho)
 rw[decide_eq_false ht]at d8;rw[decide_eq_false hr]at v8;have hk8:cd.toNat%8<8:=Nat.mod_lt _ (by decide)
 have hix:=(z7w hk8).2;have hi:=z7x (i:=ix) (p:=ck) ha hk8;have hl:=z5Y ((ix.toNat:Nat):Int) (ck%1099511627777) a (cdOf (cd.toNat%8));have u1:=fun s=>z7v s ((ix.toNat:Nat):Int) (ck%1099511627777) a (cdOf (cd.toNat%8))
 generalize recOf ((ix.toNat:Nat):Int) (ck%1099511627777) a (cdOf (cd.toNat%8))=x at u1 hl hi;generalize cdOf (cd.toNat%8)=cdv at u1 hix;have t8:=tmod8 cd;have tC:=tmodC ck;have wx:=wrap_u8 ix;have k8:(((cd.toNat%8:Nat):Int)<((8:Nat):Int))=True:=eq_true (by omega)
 have k9:((cd.toNat%8+1)*1≤8)=True:=eq_true (by omega)
 have k0:((0:Int)≤((cd.toNat%8:Nat):Int))=True:=eq_true (Int.natCast_nonneg _);generalize cd.toNat%8=kk at t8 hix k8 k0 k9;generalize ck%1099511627777=kc at u1 tC;have p1:=fun s=>z2w s x (by omega)
 have hb:=z60 hl;have h1:1≤(z0G x).length:=by rw[z1S hi];exact(z5Z hi hl).2
 obtain⟨vt,hvt⟩:=zgm hi tail (by rw[List.length_append];omega)
 have hcut:∀k,k<(z0G x).length→rdRc ((z0G x).take k)=none:=fun k hk=>by
  rw[z1S hi]at hb hk⊢;exact zeI hi (by omega) hk
 have q1:=fun s=>(z2m s (z0G x) (by omega)).subR (z6J _)
 rw[zbr hl,hi]at q1;have w1:rcT (if true=true then some x else none)=.tup [rcV x,Bo true]:=rfl
 rw[w1]at q1;have s1:=fun s=>z6L s x x
 rw[z5W]at s1;generalize z0G x=b at p1 hb h1 hvt hcut q1;have q2:=fun s=>(z2m s (b++tail) (by rw[List.length_append];omega)).subR (z6J _)
 rw[hvt]at q2;obtain⟨y,ok,hy,hyo⟩:=zhy raw (by omega)
 have q3:=fun s=>(z2m s raw (by omega)).subR (z6J _)
 rw[hy]at q3
 obtain⟨k0',hk⟩:∃k0:Nat,(c<0∧k0=0)∨(c=k0):=by
  by_cases hc:c<0
  · exact⟨0,.inl ⟨hc,rfl⟩⟩
  · exact⟨c.toNat,.inr (by omega)⟩
 have hne:0<b.length:=by omega
 have hlt:k0'%b.length<b.length:=Nat.mod_lt _ hne;have q4:=fun s=>(z2m s (b.take (k0'%b.length)) (by rw[List.length_take];omega)).subR (z6J _)
 rw[hcut _ hlt]at q4;have w2:rcT none=.tup [rcV noRc,Bo false]:=rfl;rw[w2]at q4
 have he:b.isEmpty=false:=by cases b with
  |nil=>simp at hne
  |cons _ _=>rfl
 have l1:b.length≤4294967296:=by omega
 have l2:b.length+tail.length≤4294967296:=by omega
 have d1:decide ((b.length:Int)<1)=false:=by simp;omega
 have hz:((b.length:Int)=0)=False:=eq_false (by omega)
 have e2:((k0':Int).tmod b.length)=((k0'%b.length:Nat):Int):=rfl;have e3:(((k0'%b.length:Nat):Int)≤(b.length:Nat))=True:=eq_true (Int.ofNat_le.2 (Nat.le_of_lt hlt));have e4:((0:Int).tmod b.length)=((0%b.length:Nat):Int):=by simp
 have e0:=z8s ((tail.length:Nat)==0);have dt:((tail.length:Int)==0)=(tail.length==0):=by rw[Bool.eq_iff_iff,beq_iff_eq,beq_iff_eq];omega
 generalize ht0:(tail.length==0)=tz at *
 have p2:ok=true→∀s,Ans Tryz.prog 27 [rcV y] s (.sl 1 (byv raw)) s:=fun h s=>by
  have:=z2w s y (by have:=(hyo h).1;omega)
  rw[(hyo h).2]at this;exact this
 unfold acV acC at u1⊢;unfold rcV rcC noRc at *;simp only at *;have hbc:∀c:UInt8,bc c=.pl (.int .u8 ((c.toNat:Nat):Int)):=fun _=>rfl
 simp -implicitDefEqProofs only[c8,r8,go_sem,z04,d8,v8,hbc,t8,tC,wx,hix,k8,k9,k0,Int.toNat_natCast];refine CO.intro (u1 _) ?_;simp -implicitDefEqProofs only[go_sem];refine CO.intro (p1 _) ?_;simp -implicitDefEqProofs only[go_sem];refine CO.intro (q1 _) ?_;simp -implicitDefEqProofs only[go_sem,z04,d1];refine CO.intro (s1 _) ?_;simp -implicitDefEqProofs only[go_sem,z0o,bc,zbW,he,z04,l1,l2];rw[←z0l];refine CO.intro (Ans.shutArg (pre:=[]) (post:=[]) (xs:=byv (b++tail)) rfl (by rw[z04,List.length_append]) (q2 _)) ?_
 rcases hk with⟨hc,rfl⟩|rfl
 · have dc:decide (c<0)=true:=by simpa using hc
   simp -implicitDefEqProofs only[go_sem,dc,hz,e4,e3,z04,z3v,z3w];refine CO.intro (q4 _) ?_;simp -implicitDefEqProofs only[go_sem];refine CO.intro (q3 _) ?_
   cases hok:ok with
   |false =>
    simp -implicitDefEqProofs only[go_sem,z04,dt,e0];refine CD.intro (rd_b _) ?_;simp -implicitDefEqProofs only[go_sem];exact Fini.trim2 (σ':=[]) rfl rfl (Nat.le_refl _) (.pl _) (fun o ho=>by cases ho)
   |true =>
    simp -implicitDefEqProofs only[go_sem,z04,dt,e0];refine CD.intro (p2 hok _) ?_;simp -implicitDefEqProofs only[go_sem,z0o,bc,z1M,z1G,AV.isStr,BEq.rfl];refine CD.intro (rd_b _) ?_;simp -implicitDefEqProofs only[go_sem];exact Fini.trim2 (σ':=[]) rfl rfl (Nat.le_refl _) (.pl _) (fun o ho=>by cases ho)
 · have dc:decide ((k0':Int)<0)=false:=by simp
   simp -implicitDefEqProofs only[go_sem,dc,hz,e2,e3,z04,z3v,z3w];refine CO.intro (q4 _) ?_;simp -implicitDefEqProofs only[go_sem];refine CO.intro (q3 _) ?_
   cases hok:ok with
   |false =>
    simp -implicitDefEqProofs only[go_sem,z04,dt,e0];refine CD.intro (rd_b _) ?_;simp -implicitDefEqProofs only[go_sem];exact Fini.trim2 (σ':=[]) rfl rfl (Nat.le_refl _) (.pl _) (fun o ho=>by cases ho)
   |true =>
    simp -implicitDefEqProofs only[go_sem,z04,dt,e0];refine CD.intro (p2 hok _) ?_;simp -implicitDefEqProofs only[go_sem,z0o,bc,z1M,z1G,AV.isStr,BEq.rfl];refine CD.intro (rd_b _) ?_;simp -implicitDefEqProofs only[go_sem];exact Fini.trim2 (σ':=[]) rfl rfl (Nat.le_refl _) (.pl _) (fun o ho=>by cases ho)
end Go.Proofs.YtmkmhhjkdaklbaaGreat
