/- What an act draws: a request, at some of the ops. Printed by a program. No condition. -/
import Derived.Test.YtmkmhhjkdaklbaaGreatRg3as
import Derived.Test.YtmkmhhjkdaklbaaGreatRq2cs
import Derived.Test.YtmkmhhjkdaklbaaGreatProg
import Derived.Test.YtmkmhhjkdaklbaaGreatAbSteps
import Derived.Test.YtmkmhhjkdaklbaaGreatRl1s
import Derived.Test.YtmkmhhjkdaklbaaGreatRc3s
import Derived.Test.YtmkmhhjkdaklbaaGreatXVi2s
import Derived.Test.YtmkmhhjkdaklbaaGreatXPPar6s
import Derived.Test.YtmkmhhjkdaklbaaGreatXDr3s
set_option linter.unusedSimpArgs false
set_option linter.unusedVariables false
set_option linter.unusedSectionVars false
namespace Go.Proofs.YtmkmhhjkdaklbaaGreat
open Go Go.Ab Go.Cod
set_option maxRecDepth 100000
section
variable (σ:St)
set_option maxHeartbeats 4000000 in
theorem act_5 (a:AcM) (e:opA a=5):Ans Tryz.prog 41 [acV a] σ (reV (z05 a)) σ:=by
 have h1:=fun s=>z0a s a.who 0 6 (by decide) (by decide) (by decide)
 have h2:=fun s=>z0r s (inD a.who 0 6)
 have h3:∀s,Ans Tryz.prog 99 [I a.what,I 1,I 17] s (I 5) s:=fun s=>by
  have:=z0a s a.what 1 17 (by decide) (by decide) (by decide)
  have e:inD a.what 1 17=5:=e;rw[e]at this;exact this
 have hD:z05 a=silR a (baseR a):=by
  unfold z05;simp[e]
 rw[hD];unfold baseR silR;rw[e];generalize tokOf (inD a.who 0 6)=tk at h2⊢;generalize inD a.who 0 6=w at h1 h2;have k4:∀s,Ans Tryz.prog 79 [.sl 3 (a.ds.map dv),Bo true] s (.sl 3 (mvs3 (mustL true (z0m a.ds [])))) s:=fun s=>z2T s true a.ds a.hd
 have k5:=fun s=>z6g s a.sel a.lo a.hi
 unfold z48;generalize mustL true (z0m a.ds [])=M at k4⊢;generalize z0v a.sel a.lo a.hi=bd at k5⊢;obtain⟨ba,bl,bh⟩:=bd;unfold bandV at k5;simp only at k5⊢;have hz1:((a.st:Int)).tmod 60=((a.st%60:Nat):Int):=rfl;have hz2:((a.en:Int)).tmod 90=((a.en%90:Nat):Int):=rfl;refine Ans.subR (r:=.agg [Sx tk,I 5,I 0,Sx ⟨#[]⟩,UN (a.st%60),UN (a.en%90),I 0,mlV M,Bo ba,Fl bl,Fl bh,.nils,.nils,Bo false,Fl 0,Fl 0,.nils,.nils,Fl 0]) ?_ (.agg (.cons (.refl _) <| .cons (.refl _) <| .cons (.refl _) <| .cons (.refl _) <| .cons (.refl _) <| .cons (.refl _) <| .cons (.refl _) <| .cons (.refl _) <| .cons (.refl _) <| .cons (.refl _) <| .cons (.refl _) <| .cons (.nils 3) <| .cons (.nils 3) <| .cons (.refl _) <| .cons (.refl _) <| .cons (.refl _) <| .cons (.nils 1) <| .cons (.nils 2) <| .cons (.refl _) <| .nil))
 have hbl:Bel σ.length (.agg [Sx tk,I 5,I 0,Sx ⟨#[]⟩,UN (a.st%60),UN (a.en%90),I 0,mlV M,Bo ba,Fl bl,Fl bh,.nils,.nils,Bo false,Fl 0,Fl 0,.nils,.nils,Fl 0]):=.agg _ (fun i hi=>by
  have:∀y∈([Sx tk,I 5,I 0,Sx ⟨#[]⟩,UN (a.st%60),UN (a.en%90),I 0,mlV M,Bo ba,Fl bl,Fl bh,.nils,.nils,Bo false,Fl 0,Fl 0,.nils,.nils,Fl 0]:List AV),Bel σ.length y:=by
   intro y hy;simp only[List.mem_cons,List.not_mem_nil,or_false]at hy;rcases hy with rfl|rfl|rfl|rfl|rfl|rfl|rfl|rfl|rfl|rfl|rfl|rfl|rfl|rfl|rfl|rfl|rfl|rfl|rfl
   all_goals first|exact .pl _|exact .nils|exact z0h _ _|exact z0q _ _|exact z0k _ _
  exact this _ (List.getElem_mem hi))
 refine Ans.of_run' t41 (fun hbel _=>?_)
 unfold acV acC;simp -implicitDefEqProofs only[c41,r41,go_sem,z00];refine CS.intro h1 ?_;simp -implicitDefEqProofs only[go_sem,z00];refine CS.intro h2 ?_;simp -implicitDefEqProofs only[go_sem,z00];refine CS.intro h3 ?_;simp -implicitDefEqProofs only[go_sem,z00,List.append_assoc,List.length_append,g0,g1,s0,s1,hz1,hz2];refine CD.intro (k4 _) ?_;simp -implicitDefEqProofs only[go_sem,g0,g1,s0,s1,hz1,hz2];refine CD.intro (k5 _) ?_;simp -implicitDefEqProofs only[go_sem,g0,g1,s0,s1,hz1,hz2];exact tr_ (σ':=σ) (ex:=[_,_]) rfl hbl hbel
set_option maxHeartbeats 4000000 in
theorem act_6 (a:AcM) (e:opA a=6):Ans Tryz.prog 41 [acV a] σ (reV (z05 a)) σ:=by
 have h1:=fun s=>z0a s a.who 0 6 (by decide) (by decide) (by decide)
 have h2:=fun s=>z0r s (inD a.who 0 6)
 have h3:∀s,Ans Tryz.prog 99 [I a.what,I 1,I 17] s (I 6) s:=fun s=>by
  have:=z0a s a.what 1 17 (by decide) (by decide) (by decide)
  have e:inD a.what 1 17=6:=e;rw[e]at this;exact this
 have hD:z05 a=silR a { baseR a with id:=inD a.id 0 13 }:=by
  unfold z05;simp[e]
 rw[hD];unfold baseR silR;rw[e];generalize tokOf (inD a.who 0 6)=tk at h2⊢;generalize inD a.who 0 6=w at h1 h2;have k1:=fun s=>z0a s a.id 0 13 (by decide) (by decide) (by decide)
 generalize inD a.id 0 13=v1 at k1⊢;have k4:∀s,Ans Tryz.prog 79 [.sl 3 (a.ds.map dv),Bo true] s (.sl 3 (mvs3 (mustL true (z0m a.ds [])))) s:=fun s=>z2T s true a.ds a.hd
 have k5:=fun s=>z6g s a.sel a.lo a.hi
 unfold z48;generalize mustL true (z0m a.ds [])=M at k4⊢;generalize z0v a.sel a.lo a.hi=bd at k5⊢;obtain⟨ba,bl,bh⟩:=bd;unfold bandV at k5;simp only at k5⊢;have hz1:((a.st:Int)).tmod 60=((a.st%60:Nat):Int):=rfl;have hz2:((a.en:Int)).tmod 90=((a.en%90:Nat):Int):=rfl;refine Ans.subR (r:=.agg [Sx tk,I 6,I v1,Sx ⟨#[]⟩,UN (a.st%60),UN (a.en%90),I 0,mlV M,Bo ba,Fl bl,Fl bh,.nils,.nils,Bo false,Fl 0,Fl 0,.nils,.nils,Fl 0]) ?_ (.agg (.cons (.refl _) <| .cons (.refl _) <| .cons (.refl _) <| .cons (.refl _) <| .cons (.refl _) <| .cons (.refl _) <| .cons (.refl _) <| .cons (.refl _) <| .cons (.refl _) <| .cons (.refl _) <| .cons (.refl _) <| .cons (.nils 3) <| .cons (.nils 3) <| .cons (.refl _) <| .cons (.refl _) <| .cons (.refl _) <| .cons (.nils 1) <| .cons (.nils 2) <| .cons (.refl _) <| .nil))
 have hbl:Bel σ.length (.agg [Sx tk,I 6,I v1,Sx ⟨#[]⟩,UN (a.st%60),UN (a.en%90),I 0,mlV M,Bo ba,Fl bl,Fl bh,.nils,.nils,Bo false,Fl 0,Fl 0,.nils,.nils,Fl 0]):=.agg _ (fun i hi=>by
  have:∀y∈([Sx tk,I 6,I v1,Sx ⟨#[]⟩,UN (a.st%60),UN (a.en%90),I 0,mlV M,Bo ba,Fl bl,Fl bh,.nils,.nils,Bo false,Fl 0,Fl 0,.nils,.nils,Fl 0]:List AV),Bel σ.length y:=by
   intro y hy;simp only[List.mem_cons,List.not_mem_nil,or_false]at hy;rcases hy with rfl|rfl|rfl|rfl|rfl|rfl|rfl|rfl|rfl|rfl|rfl|rfl|rfl|rfl|rfl|rfl|rfl|rfl|rfl
   all_goals first|exact .pl _|exact .nils|exact z0h _ _|exact z0q _ _|exact z0k _ _
  exact this _ (List.getElem_mem hi))
 refine Ans.of_run' t41 (fun hbel _=>?_)
 unfold acV acC;simp -implicitDefEqProofs only[c41,r41,go_sem,z00];refine CS.intro h1 ?_;simp -implicitDefEqProofs only[go_sem,z00];refine CS.intro h2 ?_;simp -implicitDefEqProofs only[go_sem,z00];refine CS.intro h3 ?_;simp -implicitDefEqProofs only[go_sem,z00,List.append_assoc,List.length_append,g0,g1,s0,s1,hz1,hz2];refine CO.intro (k1 _) ?_;simp -implicitDefEqProofs only[go_sem,g0,g1,s0,s1,hz1,hz2];refine CD.intro (k4 _) ?_;simp -implicitDefEqProofs only[go_sem,g0,g1,s0,s1,hz1,hz2];refine CD.intro (k5 _) ?_;simp -implicitDefEqProofs only[go_sem,g0,g1,s0,s1,hz1,hz2];exact tr_ (σ':=σ) (ex:=[_,_]) rfl hbl hbel
set_option maxHeartbeats 4000000 in
theorem act_7 (a:AcM) (e:opA a=7):Ans Tryz.prog 41 [acV a] σ (reV (z05 a)) σ:=by
 have h1:=fun s=>z0a s a.who 0 6 (by decide) (by decide) (by decide)
 have h2:=fun s=>z0r s (inD a.who 0 6)
 have h3:∀s,Ans Tryz.prog 99 [I a.what,I 1,I 17] s (I 7) s:=fun s=>by
  have:=z0a s a.what 1 17 (by decide) (by decide) (by decide)
  have e:inD a.what 1 17=7:=e;rw[e]at this;exact this
 have hD:z05 a={ baseR a with id:=inD a.id 0 20 }:=by
  unfold z05;simp[e]
 rw[hD];unfold baseR;rw[e];generalize tokOf (inD a.who 0 6)=tk at h2⊢;generalize inD a.who 0 6=w at h1 h2;have k1:=fun s=>z0a s a.id 0 20 (by decide) (by decide) (by decide)
 generalize inD a.id 0 20=v1 at k1⊢;refine Ans.subR (r:=.agg [Sx tk,I 7,I v1,Sx ⟨#[]⟩,UN 0,UN 0,I 0,.nils,Bo false,Fl 0,Fl 0,.nils,.nils,Bo false,Fl 0,Fl 0,.nils,.nils,Fl 0]) ?_ (.agg (.cons (.refl _) <| .cons (.refl _) <| .cons (.refl _) <| .cons (.refl _) <| .cons (.refl _) <| .cons (.refl _) <| .cons (.refl _) <| .cons (.nils 3) <| .cons (.refl _) <| .cons (.refl _) <| .cons (.refl _) <| .cons (.nils 3) <| .cons (.nils 3) <| .cons (.refl _) <| .cons (.refl _) <| .cons (.refl _) <| .cons (.nils 1) <| .cons (.nils 2) <| .cons (.refl _) <| .nil))
 have hbl:Bel σ.length (.agg [Sx tk,I 7,I v1,Sx ⟨#[]⟩,UN 0,UN 0,I 0,.nils,Bo false,Fl 0,Fl 0,.nils,.nils,Bo false,Fl 0,Fl 0,.nils,.nils,Fl 0]):=.agg _ (fun i hi=>by
  have:∀y∈([Sx tk,I 7,I v1,Sx ⟨#[]⟩,UN 0,UN 0,I 0,.nils,Bo false,Fl 0,Fl 0,.nils,.nils,Bo false,Fl 0,Fl 0,.nils,.nils,Fl 0]:List AV),Bel σ.length y:=by
   intro y hy;simp only[List.mem_cons,List.not_mem_nil,or_false]at hy;rcases hy with rfl|rfl|rfl|rfl|rfl|rfl|rfl|rfl|rfl|rfl|rfl|rfl|rfl|rfl|rfl|rfl|rfl|rfl|rfl
   all_goals first|exact .pl _|exact .nils|exact z0h _ _|exact z0q _ _|exact z0k _ _
  exact this _ (List.getElem_mem hi))
 refine Ans.of_run' t41 (fun hbel _=>?_)
 unfold acV acC;simp -implicitDefEqProofs only[c41,r41,go_sem,z00];refine CS.intro h1 ?_;simp -implicitDefEqProofs only[go_sem,z00];refine CS.intro h2 ?_;simp -implicitDefEqProofs only[go_sem,z00];refine CS.intro h3 ?_;simp -implicitDefEqProofs only[go_sem,z00,List.append_assoc,List.length_append,g0,g1,s0,s1];refine CO.intro (k1 _) ?_;simp -implicitDefEqProofs only[go_sem,g0,g1,s0,s1];exact tr_ (σ':=σ) (ex:=[_,_]) rfl hbl hbel
set_option maxHeartbeats 4000000 in
theorem act_8 (a:AcM) (e:opA a=8):Ans Tryz.prog 41 [acV a] σ (reV (z05 a)) σ:=by
 have h1:=fun s=>z0a s a.who 0 6 (by decide) (by decide) (by decide)
 have h2:=fun s=>z0r s (inD a.who 0 6)
 have h3:∀s,Ans Tryz.prog 99 [I a.what,I 1,I 17] s (I 8) s:=fun s=>by
  have:=z0a s a.what 1 17 (by decide) (by decide) (by decide)
  have e:inD a.what 1 17=8:=e;rw[e]at this;exact this
 have hD:z05 a={ baseR a with sta:=inD a.sta 0 3 }:=by
  unfold z05;simp[e]
 rw[hD];unfold baseR;rw[e];generalize tokOf (inD a.who 0 6)=tk at h2⊢;generalize inD a.who 0 6=w at h1 h2;have k1:=fun s=>z0a s a.sta 0 3 (by decide) (by decide) (by decide)
 generalize inD a.sta 0 3=v1 at k1⊢;refine Ans.subR (r:=.agg [Sx tk,I 8,I 0,Sx ⟨#[]⟩,UN 0,UN 0,I v1,.nils,Bo false,Fl 0,Fl 0,.nils,.nils,Bo false,Fl 0,Fl 0,.nils,.nils,Fl 0]) ?_ (.agg (.cons (.refl _) <| .cons (.refl _) <| .cons (.refl _) <| .cons (.refl _) <| .cons (.refl _) <| .cons (.refl _) <| .cons (.refl _) <| .cons (.nils 3) <| .cons (.refl _) <| .cons (.refl _) <| .cons (.refl _) <| .cons (.nils 3) <| .cons (.nils 3) <| .cons (.refl _) <| .cons (.refl _) <| .cons (.refl _) <| .cons (.nils 1) <| .cons (.nils 2) <| .cons (.refl _) <| .nil))
 have hbl:Bel σ.length (.agg [Sx tk,I 8,I 0,Sx ⟨#[]⟩,UN 0,UN 0,I v1,.nils,Bo false,Fl 0,Fl 0,.nils,.nils,Bo false,Fl 0,Fl 0,.nils,.nils,Fl 0]):=.agg _ (fun i hi=>by
  have:∀y∈([Sx tk,I 8,I 0,Sx ⟨#[]⟩,UN 0,UN 0,I v1,.nils,Bo false,Fl 0,Fl 0,.nils,.nils,Bo false,Fl 0,Fl 0,.nils,.nils,Fl 0]:List AV),Bel σ.length y:=by
   intro y hy;simp only[List.mem_cons,List.not_mem_nil,or_false]at hy;rcases hy with rfl|rfl|rfl|rfl|rfl|rfl|rfl|rfl|rfl|rfl|rfl|rfl|rfl|rfl|rfl|rfl|rfl|rfl|rfl
   all_goals first|exact .pl _|exact .nils|exact z0h _ _|exact z0q _ _|exact z0k _ _
  exact this _ (List.getElem_mem hi))
 refine Ans.of_run' t41 (fun hbel _=>?_)
 unfold acV acC;simp -implicitDefEqProofs only[c41,r41,go_sem,z00];refine CS.intro h1 ?_;simp -implicitDefEqProofs only[go_sem,z00];refine CS.intro h2 ?_;simp -implicitDefEqProofs only[go_sem,z00];refine CS.intro h3 ?_;simp -implicitDefEqProofs only[go_sem,z00,List.append_assoc,List.length_append,g0,g1,s0,s1];refine CO.intro (k1 _) ?_;simp -implicitDefEqProofs only[go_sem,g0,g1,s0,s1];exact tr_ (σ':=σ) (ex:=[_,_]) rfl hbl hbel
end
section
variable (σ:St)
set_option maxHeartbeats 4000000 in
theorem act_9 (a:AcM) (e:opA a=9):Ans Tryz.prog 41 [acV a] σ (reV (z05 a)) σ:=by
 have h1:=fun s=>z0a s a.who 0 6 (by decide) (by decide) (by decide)
 have h2:=fun s=>z0r s (inD a.who 0 6)
 have h3:∀s,Ans Tryz.prog 99 [I a.what,I 1,I 17] s (I 9) s:=fun s=>by
  have:=z0a s a.what 1 17 (by decide) (by decide) (by decide)
  have e:inD a.what 1 17=9:=e;rw[e]at this;exact this
 have hD:z05 a={ baseR a with ru:=z2d a.ru }:=by
  unfold z05;simp[e]
 rw[hD];unfold baseR;rw[e];generalize tokOf (inD a.who 0 6)=tk at h2⊢;generalize inD a.who 0 6=w at h1 h2;have k1:=fun s=>zcG s a.ru
 unfold duV duC at k1;generalize z2d a.ru=ru at k1⊢;obtain⟨rs,rt,ra,rl,rh,re⟩:=ru;unfold ruV at k1;simp only at k1⊢;refine Ans.subR (r:=.agg [Sx tk,I 9,I 0,Sx ⟨#[]⟩,UN 0,UN 0,I 0,.nils,Bo false,Fl 0,Fl 0,mlV rs,mlV rt,Bo ra,Fl rl,Fl rh,.sl 1 (txs re),.nils,Fl 0]) ?_ (.agg (.cons (.refl _) <| .cons (.refl _) <| .cons (.refl _) <| .cons (.refl _) <| .cons (.refl _) <| .cons (.refl _) <| .cons (.refl _) <| .cons (.nils 3) <| .cons (.refl _) <| .cons (.refl _) <| .cons (.refl _) <| .cons (.refl _) <| .cons (.refl _) <| .cons (.refl _) <| .cons (.refl _) <| .cons (.refl _) <| .cons (.refl _) <| .cons (.nils 2) <| .cons (.refl _) <| .nil))
 have hbl:Bel σ.length (.agg [Sx tk,I 9,I 0,Sx ⟨#[]⟩,UN 0,UN 0,I 0,.nils,Bo false,Fl 0,Fl 0,mlV rs,mlV rt,Bo ra,Fl rl,Fl rh,.sl 1 (txs re),.nils,Fl 0]):=.agg _ (fun i hi=>by
  have:∀y∈([Sx tk,I 9,I 0,Sx ⟨#[]⟩,UN 0,UN 0,I 0,.nils,Bo false,Fl 0,Fl 0,mlV rs,mlV rt,Bo ra,Fl rl,Fl rh,.sl 1 (txs re),.nils,Fl 0]:List AV),Bel σ.length y:=by
   intro y hy;simp only[List.mem_cons,List.not_mem_nil,or_false]at hy;rcases hy with rfl|rfl|rfl|rfl|rfl|rfl|rfl|rfl|rfl|rfl|rfl|rfl|rfl|rfl|rfl|rfl|rfl|rfl|rfl
   all_goals first|exact .pl _|exact .nils|exact z0h _ _|exact z0q _ _|exact z0k _ _
  exact this _ (List.getElem_mem hi))
 refine Ans.of_run' t41 (fun hbel _=>?_)
 unfold acV acC;simp -implicitDefEqProofs only[c41,r41,go_sem,z00];refine CS.intro h1 ?_;simp -implicitDefEqProofs only[go_sem,z00];refine CS.intro h2 ?_;simp -implicitDefEqProofs only[go_sem,z00];refine CS.intro h3 ?_;simp -implicitDefEqProofs only[go_sem,z00,List.append_assoc,List.length_append,g0,g1,s0,s1];refine CO.intro (k1 _) ?_;simp -implicitDefEqProofs only[go_sem,g0,g1,s0,s1];exact tr_ (σ':=σ) (ex:=[_,_]) rfl hbl hbel
set_option maxHeartbeats 4000000 in
theorem zfc (a:AcM) (e:opA a=10):Ans Tryz.prog 41 [acV a] σ (reV (z05 a)) σ:=by
 have h1:=fun s=>z0a s a.who 0 6 (by decide) (by decide) (by decide)
 have h2:=fun s=>z0r s (inD a.who 0 6)
 have h3:∀s,Ans Tryz.prog 99 [I a.what,I 1,I 17] s (I 10) s:=fun s=>by
  have:=z0a s a.what 1 17 (by decide) (by decide) (by decide)
  have e:inD a.what 1 17=10:=e;rw[e]at this;exact this
 have hD:z05 a={ baseR a with id:=inD a.id 0 20 }:=by
  unfold z05;simp[e]
 rw[hD];unfold baseR;rw[e];generalize tokOf (inD a.who 0 6)=tk at h2⊢;generalize inD a.who 0 6=w at h1 h2;have k1:=fun s=>z0a s a.id 0 20 (by decide) (by decide) (by decide)
 generalize inD a.id 0 20=v1 at k1⊢;refine Ans.subR (r:=.agg [Sx tk,I 10,I v1,Sx ⟨#[]⟩,UN 0,UN 0,I 0,.nils,Bo false,Fl 0,Fl 0,.nils,.nils,Bo false,Fl 0,Fl 0,.nils,.nils,Fl 0]) ?_ (.agg (.cons (.refl _) <| .cons (.refl _) <| .cons (.refl _) <| .cons (.refl _) <| .cons (.refl _) <| .cons (.refl _) <| .cons (.refl _) <| .cons (.nils 3) <| .cons (.refl _) <| .cons (.refl _) <| .cons (.refl _) <| .cons (.nils 3) <| .cons (.nils 3) <| .cons (.refl _) <| .cons (.refl _) <| .cons (.refl _) <| .cons (.nils 1) <| .cons (.nils 2) <| .cons (.refl _) <| .nil))
 have hbl:Bel σ.length (.agg [Sx tk,I 10,I v1,Sx ⟨#[]⟩,UN 0,UN 0,I 0,.nils,Bo false,Fl 0,Fl 0,.nils,.nils,Bo false,Fl 0,Fl 0,.nils,.nils,Fl 0]):=.agg _ (fun i hi=>by
  have:∀y∈([Sx tk,I 10,I v1,Sx ⟨#[]⟩,UN 0,UN 0,I 0,.nils,Bo false,Fl 0,Fl 0,.nils,.nils,Bo false,Fl 0,Fl 0,.nils,.nils,Fl 0]:List AV),Bel σ.length y:=by
   intro y hy;simp only[List.mem_cons,List.not_mem_nil,or_false]at hy;rcases hy with rfl|rfl|rfl|rfl|rfl|rfl|rfl|rfl|rfl|rfl|rfl|rfl|rfl|rfl|rfl|rfl|rfl|rfl|rfl
   all_goals first|exact .pl _|exact .nils|exact z0h _ _|exact z0q _ _|exact z0k _ _
  exact this _ (List.getElem_mem hi))
 refine Ans.of_run' t41 (fun hbel _=>?_)
 unfold acV acC;simp -implicitDefEqProofs only[c41,r41,go_sem,z00];refine CS.intro h1 ?_;simp -implicitDefEqProofs only[go_sem,z00];refine CS.intro h2 ?_;simp -implicitDefEqProofs only[go_sem,z00];refine CS.intro h3 ?_;simp -implicitDefEqProofs only[go_sem,z00,List.append_assoc,List.length_append,g0,g1,s0,s1];refine CO.intro (k1 _) ?_;simp -implicitDefEqProofs only[go_sem,g0,g1,s0,s1];exact tr_ (σ':=σ) (ex:=[_,_]) rfl hbl hbel
set_option maxHeartbeats 4000000 in
theorem zfd (a:AcM) (e:opA a=11):Ans Tryz.prog 41 [acV a] σ (reV (z05 a)) σ:=by
 have h1:=fun s=>z0a s a.who 0 6 (by decide) (by decide) (by decide)
 have h2:=fun s=>z0r s (inD a.who 0 6)
 have h3:∀s,Ans Tryz.prog 99 [I a.what,I 1,I 17] s (I 11) s:=fun s=>by
  have:=z0a s a.what 1 17 (by decide) (by decide) (by decide)
  have e:inD a.what 1 17=11:=e;rw[e]at this;exact this
 have hD:z05 a={ baseR a with ls:=z1K a.ns,val:=a.val }:=by
  unfold z05;simp[e]
 rw[hD];unfold baseR;rw[e];generalize tokOf (inD a.who 0 6)=tk at h2⊢;generalize inD a.who 0 6=w at h1 h2;have k1:=fun s=>zb8 s a.ns
 generalize z1K a.ns=ls at k1⊢;refine Ans.subR (r:=.agg [Sx tk,I 11,I 0,Sx ⟨#[]⟩,UN 0,UN 0,I 0,.nils,Bo false,Fl 0,Fl 0,.nils,.nils,Bo false,Fl 0,Fl 0,.nils,lsV ls,Fl a.val]) ?_ (.agg (.cons (.refl _) <| .cons (.refl _) <| .cons (.refl _) <| .cons (.refl _) <| .cons (.refl _) <| .cons (.refl _) <| .cons (.refl _) <| .cons (.nils 3) <| .cons (.refl _) <| .cons (.refl _) <| .cons (.refl _) <| .cons (.nils 3) <| .cons (.nils 3) <| .cons (.refl _) <| .cons (.refl _) <| .cons (.refl _) <| .cons (.nils 1) <| .cons (.refl _) <| .cons (.refl _) <| .nil))
 have hbl:Bel σ.length (.agg [Sx tk,I 11,I 0,Sx ⟨#[]⟩,UN 0,UN 0,I 0,.nils,Bo false,Fl 0,Fl 0,.nils,.nils,Bo false,Fl 0,Fl 0,.nils,lsV ls,Fl a.val]):=.agg _ (fun i hi=>by
  have:∀y∈([Sx tk,I 11,I 0,Sx ⟨#[]⟩,UN 0,UN 0,I 0,.nils,Bo false,Fl 0,Fl 0,.nils,.nils,Bo false,Fl 0,Fl 0,.nils,lsV ls,Fl a.val]:List AV),Bel σ.length y:=by
   intro y hy;simp only[List.mem_cons,List.not_mem_nil,or_false]at hy;rcases hy with rfl|rfl|rfl|rfl|rfl|rfl|rfl|rfl|rfl|rfl|rfl|rfl|rfl|rfl|rfl|rfl|rfl|rfl|rfl
   all_goals first|exact .pl _|exact .nils|exact z0h _ _|exact z0q _ _|exact z0k _ _
  exact this _ (List.getElem_mem hi))
 refine Ans.of_run' t41 (fun hbel _=>?_)
 unfold acV acC;simp -implicitDefEqProofs only[c41,r41,go_sem,z00];refine CS.intro h1 ?_;simp -implicitDefEqProofs only[go_sem,z00];refine CS.intro h2 ?_;simp -implicitDefEqProofs only[go_sem,z00];refine CS.intro h3 ?_;simp -implicitDefEqProofs only[go_sem,z00,List.append_assoc,List.length_append,g0,g1,s0,s1];refine CD.intro (k1 _) ?_;simp -implicitDefEqProofs only[go_sem,g0,g1,s0,s1];exact tr_ (σ':=σ) (ex:=[_,_]) rfl hbl hbel
set_option maxHeartbeats 4000000 in
theorem zfe (a:AcM) (e:opA a=12):Ans Tryz.prog 41 [acV a] σ (reV (z05 a)) σ:=by
 have h1:=fun s=>z0a s a.who 0 6 (by decide) (by decide) (by decide)
 have h2:=fun s=>z0r s (inD a.who 0 6)
 have h3:∀s,Ans Tryz.prog 99 [I a.what,I 1,I 17] s (I 12) s:=fun s=>by
  have:=z0a s a.what 1 17 (by decide) (by decide) (by decide)
  have e:inD a.what 1 17=12:=e;rw[e]at this;exact this
 have hD:z05 a={ baseR a with id:=inD a.id 0 20 }:=by
  unfold z05;simp[e]
 rw[hD];unfold baseR;rw[e];generalize tokOf (inD a.who 0 6)=tk at h2⊢;generalize inD a.who 0 6=w at h1 h2;have k1:=fun s=>z0a s a.id 0 20 (by decide) (by decide) (by decide)
 generalize inD a.id 0 20=v1 at k1⊢;refine Ans.subR (r:=.agg [Sx tk,I 12,I v1,Sx ⟨#[]⟩,UN 0,UN 0,I 0,.nils,Bo false,Fl 0,Fl 0,.nils,.nils,Bo false,Fl 0,Fl 0,.nils,.nils,Fl 0]) ?_ (.agg (.cons (.refl _) <| .cons (.refl _) <| .cons (.refl _) <| .cons (.refl _) <| .cons (.refl _) <| .cons (.refl _) <| .cons (.refl _) <| .cons (.nils 3) <| .cons (.refl _) <| .cons (.refl _) <| .cons (.refl _) <| .cons (.nils 3) <| .cons (.nils 3) <| .cons (.refl _) <| .cons (.refl _) <| .cons (.refl _) <| .cons (.nils 1) <| .cons (.nils 2) <| .cons (.refl _) <| .nil))
 have hbl:Bel σ.length (.agg [Sx tk,I 12,I v1,Sx ⟨#[]⟩,UN 0,UN 0,I 0,.nils,Bo false,Fl 0,Fl 0,.nils,.nils,Bo false,Fl 0,Fl 0,.nils,.nils,Fl 0]):=.agg _ (fun i hi=>by
  have:∀y∈([Sx tk,I 12,I v1,Sx ⟨#[]⟩,UN 0,UN 0,I 0,.nils,Bo false,Fl 0,Fl 0,.nils,.nils,Bo false,Fl 0,Fl 0,.nils,.nils,Fl 0]:List AV),Bel σ.length y:=by
   intro y hy;simp only[List.mem_cons,List.not_mem_nil,or_false]at hy;rcases hy with rfl|rfl|rfl|rfl|rfl|rfl|rfl|rfl|rfl|rfl|rfl|rfl|rfl|rfl|rfl|rfl|rfl|rfl|rfl
   all_goals first|exact .pl _|exact .nils|exact z0h _ _|exact z0q _ _|exact z0k _ _
  exact this _ (List.getElem_mem hi))
 refine Ans.of_run' t41 (fun hbel _=>?_)
 unfold acV acC;simp -implicitDefEqProofs only[c41,r41,go_sem,z00];refine CS.intro h1 ?_;simp -implicitDefEqProofs only[go_sem,z00];refine CS.intro h2 ?_;simp -implicitDefEqProofs only[go_sem,z00];refine CS.intro h3 ?_;simp -implicitDefEqProofs only[go_sem,z00,List.append_assoc,List.length_append,g0,g1,s0,s1];refine CO.intro (k1 _) ?_;simp -implicitDefEqProofs only[go_sem,g0,g1,s0,s1];exact tr_ (σ':=σ) (ex:=[_,_]) rfl hbl hbel
set_option maxHeartbeats 4000000 in
theorem zff (a:AcM) (e:opA a=13):Ans Tryz.prog 41 [acV a] σ (reV (z05 a)) σ:=by
 have h1:=fun s=>z0a s a.who 0 6 (by decide) (by decide) (by decide)
 have h2:=fun s=>z0r s (inD a.who 0 6)
 have h3:∀s,Ans Tryz.prog 99 [I a.what,I 1,I 17] s (I 13) s:=fun s=>by
  have:=z0a s a.what 1 17 (by decide) (by decide) (by decide)
  have e:inD a.what 1 17=13:=e;rw[e]at this;exact this
 have hD:z05 a={ baseR a with mt:=mustL false (z0m a.ds []) }:=by
  unfold z05;simp[e]
 rw[hD];unfold baseR;rw[e];generalize tokOf (inD a.who 0 6)=tk at h2⊢;generalize inD a.who 0 6=w at h1 h2;have k4:∀s,Ans Tryz.prog 79 [.sl 3 (a.ds.map dv),Bo false] s (.sl 3 (mvs3 (mustL false (z0m a.ds [])))) s:=fun s=>z2T s false a.ds a.hd
 generalize mustL false (z0m a.ds [])=M at k4⊢;refine Ans.subR (r:=.agg [Sx tk,I 13,I 0,Sx ⟨#[]⟩,UN 0,UN 0,I 0,mlV M,Bo false,Fl 0,Fl 0,.nils,.nils,Bo false,Fl 0,Fl 0,.nils,.nils,Fl 0]) ?_ (.agg (.cons (.refl _) <| .cons (.refl _) <| .cons (.refl _) <| .cons (.refl _) <| .cons (.refl _) <| .cons (.refl _) <| .cons (.refl _) <| .cons (.refl _) <| .cons (.refl _) <| .cons (.refl _) <| .cons (.refl _) <| .cons (.nils 3) <| .cons (.nils 3) <| .cons (.refl _) <| .cons (.refl _) <| .cons (.refl _) <| .cons (.nils 1) <| .cons (.nils 2) <| .cons (.refl _) <| .nil))
 have hbl:Bel σ.length (.agg [Sx tk,I 13,I 0,Sx ⟨#[]⟩,UN 0,UN 0,I 0,mlV M,Bo false,Fl 0,Fl 0,.nils,.nils,Bo false,Fl 0,Fl 0,.nils,.nils,Fl 0]):=.agg _ (fun i hi=>by
  have:∀y∈([Sx tk,I 13,I 0,Sx ⟨#[]⟩,UN 0,UN 0,I 0,mlV M,Bo false,Fl 0,Fl 0,.nils,.nils,Bo false,Fl 0,Fl 0,.nils,.nils,Fl 0]:List AV),Bel σ.length y:=by
   intro y hy;simp only[List.mem_cons,List.not_mem_nil,or_false]at hy;rcases hy with rfl|rfl|rfl|rfl|rfl|rfl|rfl|rfl|rfl|rfl|rfl|rfl|rfl|rfl|rfl|rfl|rfl|rfl|rfl
   all_goals first|exact .pl _|exact .nils|exact z0h _ _|exact z0q _ _|exact z0k _ _
  exact this _ (List.getElem_mem hi))
 refine Ans.of_run' t41 (fun hbel _=>?_)
 unfold acV acC;simp -implicitDefEqProofs only[c41,r41,go_sem,z00];refine CS.intro h1 ?_;simp -implicitDefEqProofs only[go_sem,z00];refine CS.intro h2 ?_;simp -implicitDefEqProofs only[go_sem,z00];refine CS.intro h3 ?_;simp -implicitDefEqProofs only[go_sem,z00,List.append_assoc,List.length_append,g0,g1,s0,s1];refine CO.intro (k4 _) ?_;simp -implicitDefEqProofs only[go_sem,g0,g1,s0,s1];exact tr_ (σ':=σ) (ex:=[_,_]) rfl hbl hbel
end
section
variable (σ:St)
set_option maxHeartbeats 4000000 in
theorem zfg (a:AcM) (e:opA a=14):Ans Tryz.prog 41 [acV a] σ (reV (z05 a)) σ:=by
 have h1:=fun s=>z0a s a.who 0 6 (by decide) (by decide) (by decide)
 have h2:=fun s=>z0r s (inD a.who 0 6)
 have h3:∀s,Ans Tryz.prog 99 [I a.what,I 1,I 17] s (I 14) s:=fun s=>by
  have:=z0a s a.what 1 17 (by decide) (by decide) (by decide)
  have e:inD a.what 1 17=14:=e;rw[e]at this;exact this
 have hD:z05 a=baseR a:=by
  unfold z05;simp[e]
 rw[hD];unfold baseR;rw[e];generalize tokOf (inD a.who 0 6)=tk at h2⊢;generalize inD a.who 0 6=w at h1 h2;refine Ans.subR (r:=.agg [Sx tk,I 14,I 0,Sx ⟨#[]⟩,UN 0,UN 0,I 0,.nils,Bo false,Fl 0,Fl 0,.nils,.nils,Bo false,Fl 0,Fl 0,.nils,.nils,Fl 0]) ?_ (.agg (.cons (.refl _) <| .cons (.refl _) <| .cons (.refl _) <| .cons (.refl _) <| .cons (.refl _) <| .cons (.refl _) <| .cons (.refl _) <| .cons (.nils 3) <| .cons (.refl _) <| .cons (.refl _) <| .cons (.refl _) <| .cons (.nils 3) <| .cons (.nils 3) <| .cons (.refl _) <| .cons (.refl _) <| .cons (.refl _) <| .cons (.nils 1) <| .cons (.nils 2) <| .cons (.refl _) <| .nil))
 have hbl:Bel σ.length (.agg [Sx tk,I 14,I 0,Sx ⟨#[]⟩,UN 0,UN 0,I 0,.nils,Bo false,Fl 0,Fl 0,.nils,.nils,Bo false,Fl 0,Fl 0,.nils,.nils,Fl 0]):=.agg _ (fun i hi=>by
  have:∀y∈([Sx tk,I 14,I 0,Sx ⟨#[]⟩,UN 0,UN 0,I 0,.nils,Bo false,Fl 0,Fl 0,.nils,.nils,Bo false,Fl 0,Fl 0,.nils,.nils,Fl 0]:List AV),Bel σ.length y:=by
   intro y hy;simp only[List.mem_cons,List.not_mem_nil,or_false]at hy;rcases hy with rfl|rfl|rfl|rfl|rfl|rfl|rfl|rfl|rfl|rfl|rfl|rfl|rfl|rfl|rfl|rfl|rfl|rfl|rfl
   all_goals first|exact .pl _|exact .nils|exact z0h _ _|exact z0q _ _|exact z0k _ _
  exact this _ (List.getElem_mem hi))
 refine Ans.of_run' t41 (fun hbel _=>?_)
 unfold acV acC;simp -implicitDefEqProofs only[c41,r41,go_sem,z00];refine CS.intro h1 ?_;simp -implicitDefEqProofs only[go_sem,z00];refine CS.intro h2 ?_;simp -implicitDefEqProofs only[go_sem,z00];refine CS.intro h3 ?_;simp -implicitDefEqProofs only[go_sem,z00,List.append_assoc,List.length_append,g0,g1,s0,s1];exact tr_ (σ':=σ) (ex:=[_,_]) rfl hbl hbel
set_option maxHeartbeats 4000000 in
theorem zfh (a:AcM) (e:opA a=15):Ans Tryz.prog 41 [acV a] σ (reV (z05 a)) σ:=by
 have h1:=fun s=>z0a s a.who 0 6 (by decide) (by decide) (by decide)
 have h2:=fun s=>z0r s (inD a.who 0 6)
 have h3:∀s,Ans Tryz.prog 99 [I a.what,I 1,I 17] s (I 15) s:=fun s=>by
  have:=z0a s a.what 1 17 (by decide) (by decide) (by decide)
  have e:inD a.what 1 17=15:=e;rw[e]at this;exact this
 have hD:z05 a={ baseR a with id:=inD a.id 0 20 }:=by
  unfold z05;simp[e]
 rw[hD];unfold baseR;rw[e];generalize tokOf (inD a.who 0 6)=tk at h2⊢;generalize inD a.who 0 6=w at h1 h2;have k1:=fun s=>z0a s a.id 0 20 (by decide) (by decide) (by decide)
 generalize inD a.id 0 20=v1 at k1⊢;refine Ans.subR (r:=.agg [Sx tk,I 15,I v1,Sx ⟨#[]⟩,UN 0,UN 0,I 0,.nils,Bo false,Fl 0,Fl 0,.nils,.nils,Bo false,Fl 0,Fl 0,.nils,.nils,Fl 0]) ?_ (.agg (.cons (.refl _) <| .cons (.refl _) <| .cons (.refl _) <| .cons (.refl _) <| .cons (.refl _) <| .cons (.refl _) <| .cons (.refl _) <| .cons (.nils 3) <| .cons (.refl _) <| .cons (.refl _) <| .cons (.refl _) <| .cons (.nils 3) <| .cons (.nils 3) <| .cons (.refl _) <| .cons (.refl _) <| .cons (.refl _) <| .cons (.nils 1) <| .cons (.nils 2) <| .cons (.refl _) <| .nil))
 have hbl:Bel σ.length (.agg [Sx tk,I 15,I v1,Sx ⟨#[]⟩,UN 0,UN 0,I 0,.nils,Bo false,Fl 0,Fl 0,.nils,.nils,Bo false,Fl 0,Fl 0,.nils,.nils,Fl 0]):=.agg _ (fun i hi=>by
  have:∀y∈([Sx tk,I 15,I v1,Sx ⟨#[]⟩,UN 0,UN 0,I 0,.nils,Bo false,Fl 0,Fl 0,.nils,.nils,Bo false,Fl 0,Fl 0,.nils,.nils,Fl 0]:List AV),Bel σ.length y:=by
   intro y hy;simp only[List.mem_cons,List.not_mem_nil,or_false]at hy;rcases hy with rfl|rfl|rfl|rfl|rfl|rfl|rfl|rfl|rfl|rfl|rfl|rfl|rfl|rfl|rfl|rfl|rfl|rfl|rfl
   all_goals first|exact .pl _|exact .nils|exact z0h _ _|exact z0q _ _|exact z0k _ _
  exact this _ (List.getElem_mem hi))
 refine Ans.of_run' t41 (fun hbel _=>?_)
 unfold acV acC;simp -implicitDefEqProofs only[c41,r41,go_sem,z00];refine CS.intro h1 ?_;simp -implicitDefEqProofs only[go_sem,z00];refine CS.intro h2 ?_;simp -implicitDefEqProofs only[go_sem,z00];refine CS.intro h3 ?_;simp -implicitDefEqProofs only[go_sem,z00,List.append_assoc,List.length_append,g0,g1,s0,s1];refine CO.intro (k1 _) ?_;simp -implicitDefEqProofs only[go_sem,g0,g1,s0,s1];exact tr_ (σ':=σ) (ex:=[_,_]) rfl hbl hbel
set_option maxHeartbeats 4000000 in
theorem zfi (a:AcM) (e:opA a=16):Ans Tryz.prog 41 [acV a] σ (reV (z05 a)) σ:=by
 have h1:=fun s=>z0a s a.who 0 6 (by decide) (by decide) (by decide)
 have h2:=fun s=>z0r s (inD a.who 0 6)
 have h3:∀s,Ans Tryz.prog 99 [I a.what,I 1,I 17] s (I 16) s:=fun s=>by
  have:=z0a s a.what 1 17 (by decide) (by decide) (by decide)
  have e:inD a.what 1 17=16:=e;rw[e]at this;exact this
 have hD:z05 a=baseR a:=by
  unfold z05;simp[e]
 rw[hD];unfold baseR;rw[e];generalize tokOf (inD a.who 0 6)=tk at h2⊢;generalize inD a.who 0 6=w at h1 h2;refine Ans.subR (r:=.agg [Sx tk,I 16,I 0,Sx ⟨#[]⟩,UN 0,UN 0,I 0,.nils,Bo false,Fl 0,Fl 0,.nils,.nils,Bo false,Fl 0,Fl 0,.nils,.nils,Fl 0]) ?_ (.agg (.cons (.refl _) <| .cons (.refl _) <| .cons (.refl _) <| .cons (.refl _) <| .cons (.refl _) <| .cons (.refl _) <| .cons (.refl _) <| .cons (.nils 3) <| .cons (.refl _) <| .cons (.refl _) <| .cons (.refl _) <| .cons (.nils 3) <| .cons (.nils 3) <| .cons (.refl _) <| .cons (.refl _) <| .cons (.refl _) <| .cons (.nils 1) <| .cons (.nils 2) <| .cons (.refl _) <| .nil))
 have hbl:Bel σ.length (.agg [Sx tk,I 16,I 0,Sx ⟨#[]⟩,UN 0,UN 0,I 0,.nils,Bo false,Fl 0,Fl 0,.nils,.nils,Bo false,Fl 0,Fl 0,.nils,.nils,Fl 0]):=.agg _ (fun i hi=>by
  have:∀y∈([Sx tk,I 16,I 0,Sx ⟨#[]⟩,UN 0,UN 0,I 0,.nils,Bo false,Fl 0,Fl 0,.nils,.nils,Bo false,Fl 0,Fl 0,.nils,.nils,Fl 0]:List AV),Bel σ.length y:=by
   intro y hy;simp only[List.mem_cons,List.not_mem_nil,or_false]at hy;rcases hy with rfl|rfl|rfl|rfl|rfl|rfl|rfl|rfl|rfl|rfl|rfl|rfl|rfl|rfl|rfl|rfl|rfl|rfl|rfl
   all_goals first|exact .pl _|exact .nils|exact z0h _ _|exact z0q _ _|exact z0k _ _
  exact this _ (List.getElem_mem hi))
 refine Ans.of_run' t41 (fun hbel _=>?_)
 unfold acV acC;simp -implicitDefEqProofs only[c41,r41,go_sem,z00];refine CS.intro h1 ?_;simp -implicitDefEqProofs only[go_sem,z00];refine CS.intro h2 ?_;simp -implicitDefEqProofs only[go_sem,z00];refine CS.intro h3 ?_;simp -implicitDefEqProofs only[go_sem,z00,List.append_assoc,List.length_append,g0,g1,s0,s1];exact tr_ (σ':=σ) (ex:=[_,_]) rfl hbl hbel
set_option maxHeartbeats 4000000 in
theorem zfj (a:AcM) (e:opA a=17):Ans Tryz.prog 41 [acV a] σ (reV (z05 a)) σ:=by
 have h1:=fun s=>z0a s a.who 0 6 (by decide) (by decide) (by decide)
 have h2:=fun s=>z0r s (inD a.who 0 6)
 have h3:∀s,Ans Tryz.prog 99 [I a.what,I 1,I 17] s (I 17) s:=fun s=>by
  have:=z0a s a.what 1 17 (by decide) (by decide) (by decide)
  have e:inD a.what 1 17=17:=e;rw[e]at this;exact this
 have hD:z05 a=baseR a:=by
  unfold z05;simp[e]
 rw[hD];unfold baseR;rw[e];generalize tokOf (inD a.who 0 6)=tk at h2⊢;generalize inD a.who 0 6=w at h1 h2;refine Ans.subR (r:=.agg [Sx tk,I 17,I 0,Sx ⟨#[]⟩,UN 0,UN 0,I 0,.nils,Bo false,Fl 0,Fl 0,.nils,.nils,Bo false,Fl 0,Fl 0,.nils,.nils,Fl 0]) ?_ (.agg (.cons (.refl _) <| .cons (.refl _) <| .cons (.refl _) <| .cons (.refl _) <| .cons (.refl _) <| .cons (.refl _) <| .cons (.refl _) <| .cons (.nils 3) <| .cons (.refl _) <| .cons (.refl _) <| .cons (.refl _) <| .cons (.nils 3) <| .cons (.nils 3) <| .cons (.refl _) <| .cons (.refl _) <| .cons (.refl _) <| .cons (.nils 1) <| .cons (.nils 2) <| .cons (.refl _) <| .nil))
 have hbl:Bel σ.length (.agg [Sx tk,I 17,I 0,Sx ⟨#[]⟩,UN 0,UN 0,I 0,.nils,Bo false,Fl 0,Fl 0,.nils,.nils,Bo false,Fl 0,Fl 0,.nils,.nils,Fl 0]):=.agg _ (fun i hi=>by
  have:∀y∈([Sx tk,I 17,I 0,Sx ⟨#[]⟩,UN 0,UN 0,I 0,.nils,Bo false,Fl 0,Fl 0,.nils,.nils,Bo false,Fl 0,Fl 0,.nils,.nils,Fl 0]:List AV),Bel σ.length y:=by
   intro y hy;simp only[List.mem_cons,List.not_mem_nil,or_false]at hy;rcases hy with rfl|rfl|rfl|rfl|rfl|rfl|rfl|rfl|rfl|rfl|rfl|rfl|rfl|rfl|rfl|rfl|rfl|rfl|rfl
   all_goals first|exact .pl _|exact .nils|exact z0h _ _|exact z0q _ _|exact z0k _ _
  exact this _ (List.getElem_mem hi))
 refine Ans.of_run' t41 (fun hbel _=>?_)
 unfold acV acC;simp -implicitDefEqProofs only[c41,r41,go_sem,z00];refine CS.intro h1 ?_;simp -implicitDefEqProofs only[go_sem,z00];refine CS.intro h2 ?_;simp -implicitDefEqProofs only[go_sem,z00];refine CS.intro h3 ?_;simp -implicitDefEqProofs only[go_sem,z00,List.append_assoc,List.length_append,g0,g1,s0,s1];exact tr_ (σ':=σ) (ex:=[_,_]) rfl hbl hbel
end
theorem z3v (σ:St) (a:AcM):Ans Tryz.prog 41 [acV a] σ (reV (z05 a)) σ:=by
 have hr:=z7m a;rcases ops17 (opA a) with e|e|e|e|e|e|e|e|e|e|e|e|e|e|e|e|e|e
 · exact act_1 σ a e
 · exact act_2 σ a e
 · exact act_3 σ a e
 · exact act_4 σ a e
 · exact act_5 σ a e
 · exact act_6 σ a e
 · exact act_7 σ a e
 · exact act_8 σ a e
 · exact act_9 σ a e
 · exact zfc σ a e
 · exact zfd σ a e
 · exact zfe σ a e
 · exact zff σ a e
 · exact zfg σ a e
 · exact zfh σ a e
 · exact zfi σ a e
 · exact zfj σ a e
 · omega
theorem z_all:emS ⟨#[]⟩=true∧emU 0=true∧emI 0=true∧noBd (false,0,0)=true∧noRl noRu=true∧zF 0=true∧idR 0=true∧clkB 0=true∧staR 0=true∧listB []=true:=by decide +kernel
theorem zdo {n:Int} (h0:0≤n) (h1:n≤6):tokB (tokOf n)=true:=by
 have e:inD n 0 7=n:=by unfold inD;rw[if_pos (by omega)]
 unfold tokOf;rw[e];obtain⟨k,rfl⟩:=Int.eq_ofNat_of_zero_le h0;have:k<7:=by omega
 match k,this with
 |0,_|1,_|2,_|3,_|4,_|5,_|6,_=>decide +kernel
theorem id_ok (n lo hi:Int) (h0:0≤lo) (h:lo≤hi) (h1:hi≤2147483647):idR (inD n lo hi)=true:=by
 have:=z2V n lo hi h;unfold idR;simp only[Bool.and_eq_true,decide_eq_true_eq];omega
theorem z5P (n lo hi:Int) (h:lo≤hi):lo≤emodW n lo hi∧emodW n lo hi≤hi:=by
 unfold emodW;have h3:=Int.emod_nonneg n (show hi-lo+1≠0 by omega)
 have h4:=Int.emod_lt_of_pos n (show 0<hi-lo+1 by omega)
 omega
theorem zdp (n k:Nat) (h:0<k) (h1:k≤1099511627776):clkB (n%k)=true:=by
 have:=Nat.mod_lt n h;unfold clkB;exact decide_eq_true (by omega)
theorem zfk (n:Int):staR (inD n 0 3)=true:=by
 have:=z2V n 0 3 (by decide)
 unfold staR;simp only[Bool.and_eq_true,decide_eq_true_eq];omega
theorem zcZ (a:AcM):(z05 a).op=opA a:=by
 unfold z05;simp only
 repeat' split
 all_goals rfl
theorem zbD (a:AcM):(z05 a).tok=tokOf (inD a.who 0 6):=by
 unfold z05;simp only
 repeat' split
 all_goals rfl
set_option maxHeartbeats 4000000 in
theorem z5f (a:AcM):mayR (z05 a)=true:=by
 have hr:=z7m a;obtain⟨z1,z2,z3,z4,z5,z6,z7,z8,z9,z10⟩:=z_all;have i20:=id_ok a.id 0 20 (by decide) (by decide) (by decide)
 have i7:=id_ok a.id 0 7 (by decide) (by decide) (by decide)
 have i13:=id_ok a.id 0 13 (by decide) (by decide) (by decide)
 have tk:=zdo (z5P a.sta 0 6 (by decide)).1 (z5P a.sta 0 6 (by decide)).2
 have c1:=zdp a.st 60 (by decide) (by decide)
 have c2:=zdp a.en 90 (by decide) (by decide)
 have s3:=zfk a.sta;obtain⟨m1,m2,_⟩:=z5b a.ds;have m3:emI (mustL true (z0m a.ds [])).length=false:=m2;have m4:listB (mustL false (z0m a.ds []))=true:=z5L a.ds;have bm:=z9i a.sel a.lo a.hi;have ri:=zcM a.ru;have ls:=z6t a.ns;unfold mayR;rw[zcZ];unfold z05 baseR silR z48;generalize emodW a.sta 0 6=q1 at tk⊢;generalize inD a.id 0 20=v20 at i20⊢;generalize inD a.id 0 7=v7 at i7⊢;generalize inD a.id 0 13=v13 at i13⊢;generalize inD a.sta 0 3=v3 at s3⊢;generalize mustL true (z0m a.ds [])=M at m1 m3⊢;generalize mustL false (z0m a.ds [])=M' at m4⊢;generalize z0v a.sel a.lo a.hi=bd at bm⊢;generalize z2d a.ru=ru at ri⊢;generalize z1K a.ns=L at ls⊢;generalize opA a=op at hr⊢;generalize tokOf (inD a.who 0 6)=tok0;rcases ops17 op with e|e|e|e|e|e|e|e|e|e|e|e|e|e|e|e|e|e
 · have hf:fOf op=(0,true):=by rw[e];rfl
   rw[hf];simp[e,zeroB,z0i,hs_0,x0,z1,z2,z3,z4,z5,z6,z7,z8,z9,z10,i20,i7,i13,tk,c1,c2,s3,m1,m3,m4,bm,ri,ls]
 · have hf:fOf op=(1,true):=by rw[e];rfl
   rw[hf];simp[e,zeroB,z0i,hs_1,x0,z1,z2,z3,z4,z5,z6,z7,z8,z9,z10,i20,i7,i13,tk,c1,c2,s3,m1,m3,m4,bm,ri,ls]
 · have hf:fOf op=(3,true):=by rw[e];rfl
   rw[hf];simp[e,zeroB,z0i,hs_3,x0,z1,z2,z3,z4,z5,z6,z7,z8,z9,z10,i20,i7,i13,tk,c1,c2,s3,m1,m3,m4,bm,ri,ls]
 · have hf:fOf op=(3,true):=by rw[e];rfl
   rw[hf];simp[e,zeroB,z0i,hs_3,x0,z1,z2,z3,z4,z5,z6,z7,z8,z9,z10,i20,i7,i13,tk,c1,c2,s3,m1,m3,m4,bm,ri,ls]
 · have hf:fOf op=(116,true):=by rw[e];rfl
   rw[hf];simp[e,zeroB,z0i,z7i,x0,z1,z2,z3,z4,z5,z6,z7,z8,z9,z10,i20,i7,i13,tk,c1,c2,s3,m1,m3,m4,bm,ri,ls]
 · have hf:fOf op=(117,true):=by rw[e];rfl
   rw[hf];simp[e,zeroB,z0i,z7j,x0,z1,z2,z3,z4,z5,z6,z7,z8,z9,z10,i20,i7,i13,tk,c1,c2,s3,m1,m3,m4,bm,ri,ls]
 · have hf:fOf op=(1,true):=by rw[e];rfl
   rw[hf];simp[e,zeroB,z0i,hs_1,x0,z1,z2,z3,z4,z5,z6,z7,z8,z9,z10,i20,i7,i13,tk,c1,c2,s3,m1,m3,m4,bm,ri,ls]
 · have hf:fOf op=(8,true):=by rw[e];rfl
   rw[hf];simp[e,zeroB,z0i,hs_8,x0,z1,z2,z3,z4,z5,z6,z7,z8,z9,z10,i20,i7,i13,tk,c1,c2,s3,m1,m3,m4,bm,ri,ls]
 · have hf:fOf op=(128,true):=by rw[e];rfl
   rw[hf];simp[e,zeroB,z0i,hs_128,x0,z1,z2,z3,z4,z5,z6,z7,z8,z9,z10,i20,i7,i13,tk,c1,c2,s3,m1,m3,m4,bm,ri,ls]
 · have hf:fOf op=(1,true):=by rw[e];rfl
   rw[hf];simp[e,zeroB,z0i,hs_1,x0,z1,z2,z3,z4,z5,z6,z7,z8,z9,z10,i20,i7,i13,tk,c1,c2,s3,m1,m3,m4,bm,ri,ls]
 · have hf:fOf op=(768,true):=by rw[e];rfl
   rw[hf];simp[e,zeroB,z0i,hs_768,x0,z1,z2,z3,z4,z5,z6,z7,z8,z9,z10,i20,i7,i13,tk,c1,c2,s3,m1,m3,m4,bm,ri,ls]
 · have hf:fOf op=(1,true):=by rw[e];rfl
   rw[hf];simp[e,zeroB,z0i,hs_1,x0,z1,z2,z3,z4,z5,z6,z7,z8,z9,z10,i20,i7,i13,tk,c1,c2,s3,m1,m3,m4,bm,ri,ls]
 · have hf:fOf op=(16,true):=by rw[e];rfl
   rw[hf];simp[e,zeroB,z0i,hs_16,x0,z1,z2,z3,z4,z5,z6,z7,z8,z9,z10,i20,i7,i13,tk,c1,c2,s3,m1,m3,m4,bm,ri,ls]
 · have hf:fOf op=(0,true):=by rw[e];rfl
   rw[hf];simp[e,zeroB,z0i,hs_0,x0,z1,z2,z3,z4,z5,z6,z7,z8,z9,z10,i20,i7,i13,tk,c1,c2,s3,m1,m3,m4,bm,ri,ls]
 · have hf:fOf op=(1,true):=by rw[e];rfl
   rw[hf];simp[e,zeroB,z0i,hs_1,x0,z1,z2,z3,z4,z5,z6,z7,z8,z9,z10,i20,i7,i13,tk,c1,c2,s3,m1,m3,m4,bm,ri,ls]
 · have hf:fOf op=(0,true):=by rw[e];rfl
   rw[hf];simp[e,zeroB,z0i,hs_0,x0,z1,z2,z3,z4,z5,z6,z7,z8,z9,z10,i20,i7,i13,tk,c1,c2,s3,m1,m3,m4,bm,ri,ls]
 · have hf:fOf op=(0,true):=by rw[e];rfl
   rw[hf];simp[e,zeroB,z0i,hs_0,x0,z1,z2,z3,z4,z5,z6,z7,z8,z9,z10,i20,i7,i13,tk,c1,c2,s3,m1,m3,m4,bm,ri,ls]
 · omega
theorem z49 (a:AcM):reIs (z05 a)=true:=by
 unfold reIs;have hr:=z2V a.who 0 6 (by decide)
 rw[zbD,zdo hr.1 hr.2,z5f];rfl
end Go.Proofs.YtmkmhhjkdaklbaaGreat
namespace Go.Proofs.YtmkmhhjkdaklbaaGreat
open Go Go.Ab
set_option maxRecDepth 100000
def c42:ACode :=
 (sq_ [pr_ 2 (.boxr (.tmp 0)),
 pr_ 3 (.boxr (.tmp 1)),
 pr_ 4 mf_]
 (.seq (.draw [⟨pr_ 5 (fa_ 0 2),[],false,0,0⟩,
 ⟨pr_ 6 (lf_ 1 5),[0],false,0,0⟩,
 ⟨pr_ 7 (fa_ 0 3),[],false,0,0⟩,
 ⟨pr_ 8 (lf_ 1 7),[2],false,0,0⟩,
 ⟨pr_ 9 (bt_ .eql 6 8),[0,1,2,3],false,0,0⟩,
 ⟨mv_ 10 9,[0,1,2,3,4],false,0,0⟩,
 ⟨gp_ 11 10 true (fa_ 1 2),(List.range 6),false,0,0⟩,
 ⟨gp_ 12 10 true (lf_ 1 11),(List.range 7),false,0,0⟩,
 ⟨gp_ 13 10 true (fa_ 1 3),(List.range 6),false,0,0⟩,
 ⟨gp_ 14 10 true (lf_ 1 13),[0,1,2,3,4,5,8],false,0,0⟩,
 ⟨gp_ 15 10 true (bt_ .eql 12 14),(List.range 10),false,0,0⟩,
 ⟨pr_ 16 (pa_ 10 15),(List.range 11),false,0,0⟩,
 ⟨mv_ 17 16,(List.range 12),false,0,0⟩,
 ⟨gp_ 18 17 true (fa_ 2 2),(List.range 13),false,0,0⟩,
 ⟨gp_ 19 17 true (lf_ 1 18),(List.range 14),false,0,0⟩,
 ⟨gp_ 20 17 true (fa_ 2 3),(List.range 13),false,0,0⟩,
 ⟨gp_ 21 17 true (lf_ 1 20),[0,1,2,3,4,5,6,7,8,9,10,11,12,15],false,0,0⟩,
 ⟨gp_ 22 17 true (bt_ .eql 19 21),(List.range 17),false,0,0⟩,
 ⟨pr_ 23 (pa_ 17 22),(List.range 18),false,0,0⟩,
 ⟨mv_ 24 23,(List.range 19),false,0,0⟩,
 ⟨gp_ 25 24 true (fa_ 3 2),(List.range 20),false,0,0⟩,
 ⟨gp_ 26 24 true (lf_ 1 25),(List.range 21),false,0,0⟩,
 ⟨gp_ 27 24 true (fa_ 3 3),(List.range 20),false,0,0⟩,
 ⟨gp_ 28 24 true (lf_ 1 27),[0,1,2,3,4,5,6,7,8,9,10,11,12,13,14,15,16,17,18,19,22],false,0,0⟩,
 ⟨gp_ 29 24 true (bt_ .eql 26 28),(List.range 24),false,0,0⟩,
 ⟨pr_ 30 (pa_ 24 29),(List.range 25),false,0,0⟩,
 ⟨mv_ 31 30,(List.range 26),false,0,0⟩,
 ⟨gp_ 32 31 true (fa_ 4 2),(List.range 27),false,0,0⟩,
 ⟨gp_ 33 31 true (lf_ 1 32),(List.range 28),false,0,0⟩,
 ⟨gp_ 34 31 true (fa_ 4 3),(List.range 27),false,0,0⟩,
 ⟨gp_ 35 31 true (lf_ 1 34),[0,1,2,3,4,5,6,7,8,9,10,11,12,13,14,15,16,17,18,19,20,21,22,23,24,25,26,29],false,0,0⟩,
 ⟨gp_ 36 31 true (bt_ .eql 33 35),(List.range 31),false,0,0⟩,
 ⟨pr_ 37 (pa_ 31 36),(List.range 32),false,0,0⟩,
 ⟨mv_ 38 37,(List.range 33),false,0,0⟩,
 ⟨gp_ 39 38 true (fa_ 5 2),(List.range 34),false,0,0⟩,
 ⟨gp_ 40 38 true (lf_ 1 39),(List.range 35),false,0,0⟩,
 ⟨gp_ 41 38 true (fa_ 5 3),(List.range 34),false,0,0⟩,
 ⟨gp_ 42 38 true (lf_ 1 41),[0,1,2,3,4,5,6,7,8,9,10,11,12,13,14,15,16,17,18,19,20,21,22,23,24,25,26,27,28,29,30,31,32,33,36],false,0,0⟩,
 ⟨gp_ 43 38 true (bt_ .eql 40 42),(List.range 38),false,0,0⟩,
 ⟨pr_ 44 (pa_ 38 43),(List.range 39),false,0,0⟩,
 ⟨mv_ 45 44,(List.range 40),false,0,0⟩,
 ⟨gp_ 46 45 true (fa_ 6 2),(List.range 41),false,0,0⟩,
 ⟨gp_ 47 45 true (lf_ 1 46),(List.range 42),false,0,0⟩,
 ⟨gp_ 48 45 true (fa_ 6 3),(List.range 41),false,0,0⟩,
 ⟨gp_ 49 45 true (lf_ 1 48),[0,1,2,3,4,5,6,7,8,9,10,11,12,13,14,15,16,17,18,19,20,21,22,23,24,25,26,27,28,29,30,31,32,33,34,35,36,37,38,39,40,43],false,0,0⟩,
 ⟨gp_ 50 45 true (bt_ .eql 47 49),(List.range 45),false,0,0⟩,
 ⟨pr_ 51 (pa_ 45 50),(List.range 46),false,0,0⟩,
 ⟨mv_ 52 51,(List.range 47),false,0,0⟩,
 ⟨gp_ 53 52 true (fa_ 7 2),(List.range 48),false,0,0⟩,
 ⟨gp_ 54 52 true (lf_ 1 53),(List.range 49),false,0,0⟩,
 ⟨gp_ 55 52 true (fa_ 7 3),(List.range 48),false,0,0⟩,
 ⟨gp_ 56 52 true (lf_ 1 55),[0,1,2,3,4,5,6,7,8,9,10,11,12,13,14,15,16,17,18,19,20,21,22,23,24,25,26,27,28,29,30,31,32,33,34,35,36,37,38,39,40,41,42,43,44,45,46,47,50],false,0,0⟩,
 ⟨gc_ 57 52 true 77 [(.tmp 54),(.tmp 56)],(List.range 52),true,0,0⟩,
 ⟨pr_ 58 (pa_ 52 57),(List.range 53),false,1,1⟩,
 ⟨mv_ 59 58,(List.range 54),false,1,1⟩,
 ⟨gp_ 60 59 true (fa_ 8 2),(List.range 55),false,1,1⟩,
 ⟨gp_ 61 59 true (lt_ 3 60),(List.range 56),false,1,1⟩,
 ⟨gp_ 62 59 true (fa_ 8 3),(List.range 55),false,1,1⟩,
 ⟨gp_ 63 59 true (lt_ 3 62),[0,1,2,3,4,5,6,7,8,9,10,11,12,13,14,15,16,17,18,19,20,21,22,23,24,25,26,27,28,29,30,31,32,33,34,35,36,37,38,39,40,41,42,43,44,45,46,47,48,49,50,51,52,53,54,57],false,1,1⟩,
 ⟨gc_ 64 59 true 78 [(.tmp 61),(.tmp 63)],(List.range 59),true,0,0⟩,
 ⟨pr_ 65 (pa_ 59 64),(List.range 60),false,2,2⟩,
 ⟨mv_ 66 65,(List.range 61),false,2,2⟩,
 ⟨gp_ 67 66 true (fa_ 11 2),(List.range 62),false,2,2⟩,
 ⟨gp_ 68 66 true (lt_ 6 67),(List.range 63),false,2,2⟩,
 ⟨gp_ 69 66 true (fa_ 11 3),(List.range 62),false,2,2⟩,
 ⟨gp_ 70 66 true (lt_ 6 69),[0,1,2,3,4,5,6,7,8,9,10,11,12,13,14,15,16,17,18,19,20,21,22,23,24,25,26,27,28,29,30,31,32,33,34,35,36,37,38,39,40,41,42,43,44,45,46,47,48,49,50,51,52,53,54,55,56,57,58,59,60,61,64],false,2,2⟩,
 ⟨gc_ 71 66 true 21 [(.tmp 68),(.tmp 70)],(List.range 66),true,0,0⟩,
 ⟨pr_ 72 (pa_ 66 71),(List.range 67),false,3,3⟩,
 ⟨mv_ 73 72,(List.range 68),false,3,3⟩,
 ⟨gp_ 74 73 true (fa_ 17 2),(List.range 69),false,3,3⟩,
 ⟨gp_ 75 73 true (lf_ 1 74),(List.range 70),false,3,3⟩,
 ⟨gp_ 76 73 true (fa_ 17 3),(List.range 69),false,3,3⟩,
 ⟨gp_ 77 73 true (lf_ 1 76),[0,1,2,3,4,5,6,7,8,9,10,11,12,13,14,15,16,17,18,19,20,21,22,23,24,25,26,27,28,29,30,31,32,33,34,35,36,37,38,39,40,41,42,43,44,45,46,47,48,49,50,51,52,53,54,55,56,57,58,59,60,61,62,63,64,65,66,67,68,71],false,3,3⟩,
 ⟨gc_ 78 73 true 102 [(.tmp 75),(.tmp 77)],(List.range 73),true,0,0⟩,
 ⟨pr_ 79 (pa_ 73 78),(List.range 74),false,4,4⟩,
 ⟨mv_ 80 79,(List.range 75),false,4,4⟩,
 ⟨gp_ 81 80 true (fa_ 18 2),(List.range 76),false,4,4⟩,
 ⟨gp_ 82 80 true (lf_ 1 81),(List.range 77),false,4,4⟩,
 ⟨gc_ 83 80 true 48 [(.tmp 82)],(List.range 78),true,0,0⟩,
 ⟨gp_ 84 80 true (fa_ 18 3),(List.range 76),false,4,5⟩,
 ⟨gp_ 85 80 true (lf_ 1 84),[0,1,2,3,4,5,6,7,8,9,10,11,12,13,14,15,16,17,18,19,20,21,22,23,24,25,26,27,28,29,30,31,32,33,34,35,36,37,38,39,40,41,42,43,44,45,46,47,48,49,50,51,52,53,54,55,56,57,58,59,60,61,62,63,64,65,66,67,68,69,70,71,72,73,74,75,79],false,4,5⟩,
 ⟨gc_ 86 80 true 48 [(.tmp 85)],(List.range 81),true,0,0⟩,
 ⟨gp_ 87 80 true (bt_ .eql 83 86),(List.range 82),false,6,6⟩,
 ⟨pr_ 88 (pa_ 80 87),(List.range 83),false,6,6⟩,
 ⟨mv_ 4 88,(List.range 84),false,6,6⟩])
 .ret))
def o42:List Tmp:=[]
def r42:List RV:=[.tmp 4]
theorem t42:Text Tryz.prog 42 o42 c42 r42 89:=.mk_ Tryz.f42 rfl
def c102:ACode :=
 (sq_ [pr_ 4 mf_]
 (.seq (sq_ [mv_ 6 0,
 pr_ 7 (.lenv (.tmp 6)),
 mv_ 8 1,
 pr_ 9 (.lenv (.tmp 8)),
 pr_ 10 (bt_ .neq 7 9)]
 (.cond (.tmp 10)
 (sq_ [pr_ 4 mf_]
 .ret)
 .skip))
 (.seq (sq_ [pr_ 5 (mi_ .i64 0)]
 (.block 0 (.loop [2,3,4,6,7,8,9,10,11,12,13,14,15,16,17,18,19,20,21,22,23,24,25] (.seq (sq_ [mv_ 11 5,
 mv_ 12 0,
 pr_ 13 (.lenv (.tmp 12)),
 pr_ 14 (bt_ .lss 11 13)]
 (.cond (.tmp 14)
 .skip
 (.exit 0)))
 (.seq (.block 1 (.seq (.draw [⟨mv_ 17 0,[],false,0,0⟩,
 ⟨mv_ 18 5,[],false,0,0⟩,
 ⟨pr_ 19 (.iadrs 2 (.tmp 17) (.tmp 18)),[0,1],false,0,0⟩,
 ⟨pr_ 20 (lt_ 2 19),[0,1,2],false,0,0⟩,
 ⟨mv_ 21 1,[],false,0,0⟩,
 ⟨mv_ 22 5,[],false,0,0⟩,
 ⟨pr_ 23 (.iadrs 2 (.tmp 21) (.tmp 22)),[4,5],false,0,0⟩,
 ⟨pr_ 24 (lt_ 2 23),[4,5,6],false,0,0⟩,
 ⟨pr_ 25 (.eqa true [.str,.str] (.tmp 20) (.tmp 24)),(List.range 8),false,0,0⟩])
 (.cond (.tmp 25)
 (sq_ [pr_ 4 mf_]
 .ret)
 .skip)))
 (.ops [mv_ 15 5,
 pr_ 16 (bk_ .add 15 .i64 1),
 mv_ 5 16]))))))
 (sq_ [pr_ 4 mt_]
 .ret))))
def o102:List Tmp:=[]
def r102:List RV:=[.tmp 4]
theorem t102:Text Tryz.prog 102 o102 c102 r102 26:=.mk_ Tryz.f102 rfl
end Go.Proofs.YtmkmhhjkdaklbaaGreat
namespace Go.Proofs.YtmkmhhjkdaklbaaGreat
open Go Go.Ab Go.Cod
set_option maxRecDepth 100000
def preS (L:List Lab) (i:Nat):Byt:=putN L.length++z0O putLb (L.take i)
theorem z7q (L:List Lab) (i:Nat) (h:i<L.length):preS L (i+1)=preS L i++(txtB L[i].1++txtB L[i].2):=by
 unfold preS z0O;rw[List.take_succ_eq_append_getElem h,List.flatMap_append,List.append_assoc];simp[putLb]
theorem z9m (L:List Lab):preS L L.length=z3e L:=by unfold preS z3e z1T;rw[List.take_length]
theorem z7r (L:List Lab):preS L 0=putN L.length:=by unfold preS z0O;simp
theorem z6u {L:List Lab} (h:setB L=true):∀i,i≤L.length→(preS L i).length≤10+60*i
 |0,_=>by rw[z7r];have:=z0w (n:=L.length) (by have:=(z46 h).1;omega);omega
 |i+1,hi=>by
  have ih:=z6u h i (by omega)
  have hx:=(z46 h).2 L[i] (List.getElem_mem (by omega))
  have h1:=z1m L[i].1 (by omega)
  have h2:=z1m L[i].2 (by omega)
  rw[z7q L i (by omega),List.length_append,List.length_append]
  omega
def z23 (L:List Lab):Byt:=if setB L then z3e L else[]
section
variable (σ:St)
theorem za0 (L:List Lab):Ans Tryz.prog 92 [.sl 2 (lvs L)] σ (.sl 1 (byv (z23 L))) σ:=by
 have hi:=fun s=>z1u s L
 unfold z23
 cases hR:setB L with
 |false =>
  have:Ans Tryz.prog 92 [.sl 2 (lvs L)] σ .nils σ:=by
   refine Ans.of_run t92 ?_;simp -implicitDefEqProofs only[c92,r92,go_sem];refine CO.intro (hi _) ?_;rw[hR];simp -implicitDefEqProofs only[go_sem];exact Fini.ret rfl
  exact this.subR (.nils 1)
 |true =>
  obtain⟨h1,h2⟩:=z46 hR;have hpl:=z6u hR;have n1:=fun s=>z6a s L.length (by omega)
  rw[←z7r]at n1;have hw:=z1N (n:=L.length) (by omega)
  refine Ans.of_run' t92 (fun hbel _=>?_)
  simp -implicitDefEqProofs only[c92,r92,go_sem];refine CO.intro (hi _) ?_;rw[hR];simp -implicitDefEqProofs only[go_sem,z0g,hw];refine CO.intro (n1 _) ?_;simp -implicitDefEqProofs only[go_sem,z0g];refine Go.Ab.L.count L.length (fun i=>mkE 31 [(3,.osl σ.length (preS L i).length),(13,.sl 2 (lvs L)),(14,I L.length),(15,I i)]) (fun i=>σ++[.row 1 (byv (preS L i))]) ?_ ?_ rfl rfl
  · intro i hi J hJ;have hx:=lvs_D L i hi;rw[List.getD_eq_getElem?_getD,List.getElem?_eq_getElem hi,Option.getD_some]at hx;have hs:=h2 L[i] (List.getElem_mem hi);have hp:=hpl (i+1) (by omega)
    rw[z7q L i hi]at hJ hp;generalize L[i]=s at hx hs hJ hp;generalize preS L i=pre at hJ hp⊢;have hin:=wrap_succ (i:=i) (by omega)
    rw[List.length_append,List.length_append]at hp hJ;have l1:pre.length+(txtB s.1).length≤4294967296:=by omega
    have l2:pre.length+(txtB s.1).length+(txtB s.2).length≤4294967296:=by omega
    simp -implicitDefEqProofs only[mkE,go_sem,z0g,z0j hi,dec_lt hi,hx];refine CO.intro (z1y _ s.1 (by omega)) ?_
    simp -implicitDefEqProofs only[go_sem,g0,s0,z06,z15,bc,l1];refine CO.intro (z1y _ s.2 (by omega)) ?_
    simp -implicitDefEqProofs only[go_sem,g0,s0,z06,z15,bc,l1,l2,hin,List.length_append];simp only[z0Z,List.append_assoc,Nat.add_assoc]at hJ⊢;exact hJ
  · intro J;have d0:decide ((L.length:Int)<L.length)=false:=by simp
    simp -implicitDefEqProofs only[mkE,go_sem,z0g,d0,g0,s0,z06,z9m];exact Fini.trim2 (σ':=σ) (ex:=[_]) rfl rfl (Nat.le_refl _) (z1x _ _) hbel
end
def opC (op:Int):UInt8:=op.toNat.toUInt8
def layF (f k:Int) (ps:List Byt) (B:Byt):Byt:=if hasF f k then B++ps.flatten else B
def putB1 (f:Int) (r:ReM):Byt:=layF f 4 [putN r.st,putN r.en] (layF f 2 [txtB r.txt] (layF f 1 [putN r.id.toNat] [opC r.op]))
def putB2 (f:Int) (r:ReM):Byt:=layF f 64 [putBd (r.any,r.lo,r.hi)] (layF f 16 [z0B r.mt] (layF f 8 [[opC r.sta]] (putB1 f r)))
def z0s (f:Int) (r:ReM):Byt:=layF f 512 [putV r.val] (layF f 256 [z23 r.ls] (layF f 128 [z1e r.ru] (putB2 f r)))
def z0N (r:ReM):Byt:=if mayR r then z0s (fOf r.op).1 r else[]
def laid (σ:St) (B:Byt):St:=σ++[.row 1 (byv B),.box [.osl σ.length B.length]]
theorem z6v {c:Int} (h:0≤c) (h1:c≤17):IntKind.u8.wrap c=(((opC c).toNat:Nat):Int):=by
 obtain⟨n,rfl⟩:=Int.eq_ofNat_of_zero_le h;have:n<18:=by omega
 match n,this with
 |0,_|1,_|2,_|3,_|4,_|5,_|6,_|7,_|8,_|9,_|10,_|11,_|12,_|13,_|14,_|15,_|16,_|17,_=>rfl
section
variable (σ:St)
theorem z2F (f k:Int) (ps:List Byt) (B:Byt) (hp:hasF f k=true→0<ps.flatten.length) (hps:ps.length≤100) (hl:ps.flatten.length≤1000000) (hB:B.length≤1000000) :
  Ans Tryz.prog 91 [I k,.sl 1 (bsv ps),.rp [I f],.ptr (σ.length+1) 0] (laid σ B) (.tup []) (laid σ (layF f k ps B)):=by
 have e:decide (0<aI f k)=hasF f k:=rfl;unfold layF
 cases hF:hasF f k with
 |false =>
  rw[hF]at e;unfold laid;refine Ans.of_run t91 ?_;simp -implicitDefEqProofs only[c91,r91,go_sem,e];exact Fini.normal rfl
 |true =>
  rw[hF]at e;have hc:=fun s=>z78 s ps hps (hp hF) hl
  have q1:B.length+ps.flatten.length≤4294967296:=by omega
  unfold laid;refine Ans.of_run t91 ?_;simp -implicitDefEqProofs only[c91,r91,go_sem,e,g1];refine CD.intro (hc _) ?_;simp -implicitDefEqProofs only[go_sem,g0,s0,g1,s1,z06,z15,bc,q1];simp only[if_true,z0Z,List.length_append];exact Fini.normal rfl
theorem z0o {f k:Int} {ps:List Byt} {B:Byt} {n m:Nat} (hB:B.length≤n) (hp:hasF f k=true→ps.flatten.length≤m):(layF f k ps B).length≤n+m:=by
 unfold layF;split
 · rename_i h;have:=hp h;rw[List.length_append];omega
 · omega
structure BdOk (r:ReM):Prop where
 op0:0≤r.op
 op1:r.op≤17
 id0:0≤r.id
 id1:r.id≤2147483647
 txt:r.txt.size≤16
 st:r.st≤1099511627776
 en:r.en≤1099511627776
 sta0:0≤r.sta
 sta1:r.sta≤3
 mt:listB r.mt=true
 ru:hasF (fOf r.op).1 128=true→ruIs r.ru=true
 ls:hasF (fOf r.op).1 256=true→setB r.ls=true
theorem bd_ok {r:ReM} (h:mayR r=true):BdOk r:=by
 have hop:1≤r.op∧r.op≤17:=by
  have:(fOf r.op).2=true:=by unfold mayR at h;simp only[Bool.and_eq_true]at h;exact h.1
  unfold fOf at this;split at this
  · assumption
  · cases this
 unfold mayR at h;simp only[Bool.and_eq_true]at h;obtain⟨_,hz,hr⟩:=h;unfold zeroB at hz;unfold z0i idR clkB staR at hr;simp only[Bool.and_eq_true,Bool.or_eq_true,decide_eq_true_eq,Bool.not_eq_true']at hz hr;obtain⟨hid,htx,hst,hen,hsta,hmt,_,_,hru,hls⟩:=hr;refine⟨by omega,hop.2,hid.1,hid.2,?_,by omega,by omega,hsta.1,hsta.2,hmt,fun h=>?_,fun h=>?_⟩
 · rcases htx with h|h
   · rcases hz.2.1 with h'|h'
     · rw[h]at h';cases h'
     · unfold emS at h';have:=eq_of_beq h';rw[ByteArray.toList_eq,ByteArray.toList_eq]at this;have h0:r.txt.size=0:=by rw[←z1S,this];rfl
       omega
   · unfold tokB at h;simp only[Bool.and_eq_true,decide_eq_true_eq]at h;omega
 · rcases hru with h'|h'
   · rw[h]at h';cases h'
   · exact h'
 · rcases hls with h'|h'
   · rw[h]at h';cases h'
   · exact h'
theorem z5g {M:List Mtr} (h:listB M=true):0<([z0B M]:List Byt).flatten.length∧([z0B M]:List Byt).flatten.length≤510:=by
 have e:z0B M=putL M:=by unfold z0B;rw[h];rfl
 have:=z6n M;have:=z6m h;simp only[List.flatten_cons,List.flatten_nil,List.append_nil,e];omega
theorem z7s {r:RuM} (h:ruIs r=true):0<([z1e r]:List Byt).flatten.length∧([z1e r]:List Byt).flatten.length≤100000:=by
 have e:z1e r=putR r:=by unfold z1e;rw[h];rfl
 have h0:=z6l r;have h1:=z4s h r.eq.length (Nat.le_refl _);have h5:=(z1t h).2.2.2.1;rw[h0]at h1
 have hp:0<(putR r).length:=by
  have:=z6n r.src;unfold putR;simp only[List.length_append];omega
 simp only[List.flatten_cons,List.flatten_nil,List.append_nil,e];omega
theorem z7t {L:List Lab} (h:setB L=true):0<([z23 L]:List Byt).flatten.length∧([z23 L]:List Byt).flatten.length≤1000:=by
 have e:z23 L=z3e L:=by unfold z23;rw[h];rfl
 have h0:=z9m L;have h1:=z6u h L.length (Nat.le_refl _);have h2:=(z46 h).1;rw[h0]at h1
 have hp:0<(z3e L).length:=by
  have:=z41 L.length;unfold z3e z1T
  cases h:putN L.length with
  |nil=>exact absurd h this
  |cons a b=>simp
 simp only[List.flatten_cons,List.flatten_nil,List.append_nil,e];omega
end
theorem zbE (r:RuM):([z1e r]:List Byt).flatten.length≤100000:=by
 cases h:ruIs r with
 |true=>exact(z7s h).2
 |false=>unfold z1e;rw[h];exact Nat.zero_le _
theorem z8n (L:List Lab):([z23 L]:List Byt).flatten.length≤1000:=by
 cases h:setB L with
 |true=>exact(z7t h).2
 |false=>unfold z23;rw[h];exact Nat.zero_le _
section
variable (σ:St)
set_option maxHeartbeats 4000000 in
theorem z6w (r:ReM):Ans Tryz.prog 37 [reV r] σ (.sl 1 (byv (z0N r))) σ:=by
 have hi:=fun s=>z1v s r
 unfold z0N
 cases hM:mayR r with
 |false =>
  have:Ans Tryz.prog 37 [reV r] σ .nils σ:=by
   refine Ans.of_run t37 ?_;unfold reV reC at hi⊢;simp -implicitDefEqProofs only[c37,r37,go_sem];refine CO.intro (hi _) ?_;rw[hM];simp -implicitDefEqProofs only[go_sem];exact Fini.ret rfl
  exact this.subR (.nils 1)
 |true =>
  obtain⟨op0,op1,id0,id1,htx,hst,hen,sta0,sta1,hmt,hru,hls⟩:=bd_ok hM;rw[if_pos rfl];unfold z0s putB2 putB1;have hf:=fun s=>z0U s r.op
  generalize (fOf r.op).1=f at hf hru hls⊢;generalize (fOf r.op).2=ok at hf;have p1:=z0w (n:=r.id.toNat) (by omega)
  have p2:=z1m r.txt (by omega)
  have p3:=z0w (n:=r.st) (by omega)
  have p4:=z0w (n:=r.en) (by omega)
  have p5:=z5g hmt;have p6:=z3O (r.any,r.lo,r.hi);have p6':0<(putBd (r.any,r.lo,r.hi)).length:=by unfold putBd;split<;>simp
  have p7:=zbE r.ru;have p8:=z8n r.ls;have y1:0<(putN r.id.toNat).length:=List.length_pos_iff.2 (z41 _)
  have y2:0<(txtB r.txt).length:=by
   have:0<(putN r.txt.size).length:=List.length_pos_iff.2 (z41 _);unfold txtB;rw[List.length_append];omega
  have y3:0<(putN r.st).length:=List.length_pos_iff.2 (z41 _);have f1:∀b:Byt,([b]:List Byt).flatten=b:=fun b=>by simp
  have f2:∀b c:Byt,([b,c]:List Byt).flatten.length=b.length+c.length:=fun b c=>by simp
  have L1:=z2F σ f 1 [putN r.id.toNat] [opC r.op] (fun _=>by rw[f1];omega) (by simp) (by rw[f1];omega) (by simp)
  have n1:(layF f 1 [putN r.id.toNat] [opC r.op]).length≤1+10:=z0o (by simp) (fun _=>by rw[f1];omega)
  generalize layF f 1 [putN r.id.toNat] [opC r.op]=B1 at L1 n1⊢;have L2:=z2F σ f 2 [txtB r.txt] B1 (fun _=>by rw[f1];omega) (by simp) (by rw[f1];omega) (by omega)
  have n2:(layF f 2 [txtB r.txt] B1).length≤11+40:=z0o n1 (fun _=>by rw[f1];omega)
  generalize layF f 2 [txtB r.txt] B1=B2 at L2 n2⊢;have L3:=z2F σ f 4 [putN r.st,putN r.en] B2 (fun _=>by rw[f2];omega) (by simp) (by rw[f2];omega) (by omega)
  have n3:(layF f 4 [putN r.st,putN r.en] B2).length≤51+20:=z0o n2 (fun _=>by rw[f2];omega)
  generalize layF f 4 [putN r.st,putN r.en] B2=B3 at L3 n3⊢;have L4:=z2F σ f 8 [[opC r.sta]] B3 (fun _=>by simp) (by simp) (by simp) (by omega)
  have n4:(layF f 8 [[opC r.sta]] B3).length≤71+1:=z0o n3 (fun _=>by simp)
  generalize layF f 8 [[opC r.sta]] B3=B4 at L4 n4⊢;have L5:=z2F σ f 16 [z0B r.mt] B4 (fun _=>by omega) (by simp) (by omega) (by omega)
  have n5:(layF f 16 [z0B r.mt] B4).length≤72+510:=z0o n4 (fun _=>by omega)
  generalize layF f 16 [z0B r.mt] B4=B5 at L5 n5⊢;have L6:=z2F σ f 64 [putBd (r.any,r.lo,r.hi)] B5 (fun _=>by rw[f1];omega) (by simp) (by rw[f1];omega) (by omega)
  have n6:(layF f 64 [putBd (r.any,r.lo,r.hi)] B5).length≤582+17:=z0o n5 (fun _=>by rw[f1];omega)
  generalize layF f 64 [putBd (r.any,r.lo,r.hi)] B5=B6 at L6 n6⊢;have L7:=z2F σ f 128 [z1e r.ru] B6 (fun h=>(z7s (hru h)).1) (by simp) (by omega) (by omega)
  have n7:(layF f 128 [z1e r.ru] B6).length≤599+100000:=z0o n6 (fun _=>by omega)
  generalize layF f 128 [z1e r.ru] B6=B7 at L7 n7⊢;have L8:=z2F σ f 256 [z23 r.ls] B7 (fun h=>(z7t (hls h)).1) (by simp) (by omega) (by omega)
  have n8:(layF f 256 [z23 r.ls] B7).length≤100599+1000:=z0o n7 (fun _=>by omega)
  generalize layF f 256 [z23 r.ls] B7=B8 at L8 n8⊢;have L9:=z2F σ f 512 [putV r.val] B8 (fun _=>by rw[f1];exact Nat.zero_lt_succ _) (by simp) (by rw[f1];exact Nat.le_of_ble_eq_true rfl) (by omega)
  generalize layF f 512 [putV r.val] B8=B9 at L9⊢;have m1:=fun s=>z9d s r.id.toNat (by omega)
  have m2:=fun s=>z1y s r.txt (by omega)
  have m3:=fun s=>z9d s r.st (by omega)
  have m4:=fun s=>z9d s r.en (by omega)
  have m5:=fun s=>z43 s r.mt
  have m6:=fun s=>z57 s (r.any,r.lo,r.hi)
  have m7:=fun s=>z8e s r.ru
  have m8:=fun s=>za0 s r.ls
  have m9:=fun s=>z2A s r.val
  have mA:=fun s=>z3t s (bitsF r.val)
  have w1:IntKind.u64.wrap r.id=((r.id.toNat:Nat):Int):=by
   rw[show r.id=((r.id.toNat:Nat):Int) from by omega,z1N (by omega)];rfl
  have w2:=z6v op0 op1;have w3:=z6v sta0 (by omega)
  clear p1 p2 p3 p4 p5 p6 p6' p7 p8 y1 y2 y3 f1 f2 n1 n2 n3 n4 n5 n6 n7 n8 hru hls hmt;obtain⟨tok,op,id,txt,st,en,sta,mt,any,lo,hi',⟨src,tgt,ra,rl,rh,eq⟩,ls,val⟩:=r;simp only at *;refine Ans.of_run' t37 (fun hbel _=>?_)
  unfold reV reC at hi⊢;unfold bandV at m6;unfold ruV at m7;simp -implicitDefEqProofs only[c37,r37,go_sem];refine CO.intro (hi _) ?_;rw[hM];simp -implicitDefEqProofs only[go_sem,w2,g0,g1,s0,s1,List.append_assoc,List.length_append];refine CO.intro (hf _) ?_;simp -implicitDefEqProofs only[go_sem,w1];refine CO.intro (m1 _) ?_;simp -implicitDefEqProofs only[go_sem];refine CO.intro L1 ?_;simp -implicitDefEqProofs only[go_sem];refine CO.intro (m2 _) ?_;simp -implicitDefEqProofs only[go_sem];refine CO.intro L2 ?_;simp -implicitDefEqProofs only[go_sem];refine CD.intro (m3 _) ?_;simp -implicitDefEqProofs only[go_sem];refine CD.intro (m4 _) ?_;simp -implicitDefEqProofs only[go_sem];refine CD.intro L3 ?_;simp -implicitDefEqProofs only[go_sem,w3];refine CO.intro L4 ?_;simp -implicitDefEqProofs only[go_sem];refine CO.intro (m5 _) ?_;simp -implicitDefEqProofs only[go_sem];refine CO.intro L5 ?_;simp -implicitDefEqProofs only[go_sem];refine CO.intro (m6 _) ?_;simp -implicitDefEqProofs only[go_sem];refine CO.intro L6 ?_;simp -implicitDefEqProofs only[go_sem];refine CO.intro (m7 _) ?_;simp -implicitDefEqProofs only[go_sem];refine CO.intro L7 ?_;simp -implicitDefEqProofs only[go_sem];refine CO.intro (m8 _) ?_;simp -implicitDefEqProofs only[go_sem];refine CO.intro L8 ?_;simp -implicitDefEqProofs only[go_sem];refine CO.intro (m9 _) ?_;simp -implicitDefEqProofs only[go_sem];refine CO.intro (mA _) ?_;simp -implicitDefEqProofs only[go_sem];refine CO.intro L9 ?_;unfold laid;simp -implicitDefEqProofs only[go_sem,g0,g1,s0,s1,z06]
  exact Fini.trim2 (σ':=σ) (ex:=[_,_]) rfl rfl (Nat.le_refl _) (z1x _ _) hbel
end
def z17 (r:ReM):Byt:=if reIs r then txtB r.tok++z0N r else[]
theorem za1 (r:ReM):(z0N r).length≤200000:=by
 unfold z0N
 cases hM:mayR r with
 |false=>exact Nat.zero_le _
 |true =>
  obtain⟨op0,op1,id0,id1,htx,hst,hen,sta0,sta1,hmt,hru,hls⟩:=bd_ok hM;rw[if_pos rfl];unfold z0s putB2 putB1;have f1:∀b:Byt,([b]:List Byt).flatten=b:=fun b=>by simp
  have f2:∀b c:Byt,([b,c]:List Byt).flatten.length=b.length+c.length:=fun b c=>by simp
  refine Nat.le_trans (z0o (n:=101600) (m:=8) (z0o (n:=100600) (m:=1000) (z0o (n:=600) (m:=100000) (z0o (n:=583) (m:=17) (z0o (n:=73) (m:=510) (z0o (n:=72) (m:=1) (z0o (n:=52) (m:=20) (z0o (n:=12) (m:=40) (z0o (n:=2) (m:=10) (by simp) ?_) ?_) ?_) ?_) ?_) ?_) ?_) ?_) ?_) (by decide)<;>intro _
  · rw[f1];exact z0w (by omega)
  · rw[f1];have:=z1m r.txt (by omega);omega
  · rw[f2];have:=z0w (n:=r.st) (by omega);have:=z0w (n:=r.en) (by omega);omega
  · simp
  · exact(z5g hmt).2
  · rw[f1];exact z3O _
  · exact zbE _
  · exact z8n _
  · rw[f1];exact Nat.le_of_eq (z1E _)
theorem z24 {r:ReM} (h:reIs r=true):r.tok.size≤16∧4≤r.tok.size∧mayR r=true:=by
 unfold reIs tokB at h;simp only[Bool.and_eq_true,decide_eq_true_eq]at h;exact⟨h.1.2,h.1.1,h.2⟩
section
variable (σ:St)
theorem z25 (r:ReM):Ans Tryz.prog 39 [reV r] σ (.sl 1 (byv (z17 r))) σ:=by
 have hi:=fun s=>z9k s r
 unfold z17
 cases hM:reIs r with
 |false =>
  have:Ans Tryz.prog 39 [reV r] σ .nils σ:=by
   refine Ans.of_run t39 ?_;unfold reV reC at hi⊢;simp -implicitDefEqProofs only[c39,r39,go_sem];refine CO.intro (hi _) ?_;rw[hM];simp -implicitDefEqProofs only[go_sem];exact Fini.ret rfl
  exact this.subR (.nils 1)
 |true =>
  obtain⟨ht,_,_⟩:=z24 hM;have hl:=za1 r;have m1:=fun s=>z4X s r.tok (by omega)
  have m2:=fun s=>z6w s r
  have p1:=z1m r.tok (by omega)
  rw[if_pos rfl];generalize z0N r=B at hl m2⊢;have q1:(txtB r.tok).length+B.length≤4294967296:=by omega
  have hbb:=fun n=>z1x n (txtB r.tok++B)
  simp only[z0Z]at hbb⊢;refine Ans.of_run' t39 (fun hbel _=>?_)
  unfold reV reC at hi m2⊢;simp -implicitDefEqProofs only[c39,r39,go_sem];refine CO.intro (hi _) ?_;rw[hM];simp -implicitDefEqProofs only[go_sem];refine CD.intro (m1 _) ?_;simp -implicitDefEqProofs only[go_sem];refine CD.intro (m2 _) ?_;simp -implicitDefEqProofs only[go_sem,g0,s0,z06,z15,bc,q1,List.length_append];exact Fini.trim2 (σ':=σ) (ex:=[_]) rfl rfl (Nat.le_refl _) (hbb _) hbel
end
theorem z18 {α β:Type} {rd:Rd α} {wr:α→Byt} {ok:α→Prop} (h:Fits rd wr ok) (f:α→β) (g:β→α) (hgf:∀a,g (f a)=a):Fits (z1h rd f) (fun r=>wr (g r)) (fun r=>ok (g r)∧f (g r)=r) :=
 dress_fits h (fun a ha=>⟨⟨by rw[hgf];exact ha,by rw[hgf]⟩,by rw[hgf]⟩) (fun b hb=>hb)
theorem z9n (c:UInt8):opC ((c.toNat:Nat):Int)=c:=by
 unfold opC;rw[Int.toNat_natCast];simp
theorem z1F {n:Int} (h0:0≤n) (h1:n≤17):(((opC n).toNat:Nat):Int)=n:=by
 have:=z6v h0 h1;rw[←this];obtain⟨k,rfl⟩:=Int.eq_ofNat_of_zero_le h0;have:k<18:=by omega
 match k,this with
 |0,_|1,_|2,_|3,_|4,_|5,_|6,_|7,_|8,_|9,_|10,_|11,_|12,_|13,_|14,_|15,_|16,_|17,_=>rfl
theorem z2G (s:ByteArray):emS s=true↔s=⟨#[]⟩:=by
 unfold emS;rw[beq_iff_eq];exact⟨toList_inj,fun h=>by rw[h]⟩
theorem z2H (n:Nat):emU n=true↔n=0:=by unfold emU;rw[beq_iff_eq];omega
theorem z2e {α:Type} (l:List α):emI l.length=true↔l=[]:=by
 unfold emI;rw[beq_iff_eq,←List.length_eq_zero_iff];omega
theorem z3g (v:Nat):zF v=true↔v=0:=by
 unfold zF;rw[beq_iff_eq];exact⟨fun h=>z44 (Int.ofNat.inj h),fun h=>by rw[h,z0Y];rfl⟩
theorem z1w (x:Bnd):noBd x=true↔x=(false,0,0):=by
 obtain⟨a,lo,hi⟩:=x;unfold noBd;simp only[Bool.and_eq_true,z3g,Bool.not_eq_true',Prod.mk.injEq]
theorem z1G (r:RuM):noRl r=true↔r=noRu:=by
 obtain⟨a,b,c,lo,hi,e⟩:=r;unfold noRl noRu;simp only[Bool.and_eq_true,z2e,z1w,RuM.mk.injEq,Prod.mk.injEq];constructor
 · rintro⟨rfl,rfl,rfl,rfl,rfl,rfl⟩;simp
 · rintro⟨rfl,rfl,rfl,rfl,rfl,rfl⟩;simp
def mkI (op:Int) (n:Nat):ReM:={ x0 op with id:=(n:Nat) }
def mkIT (op:Int) (p:Nat×ByteArray):ReM:={ x0 op with id:=(p.1:Nat),txt:=p.2 }
def mkZ (op:Int) (c:UInt8):ReM:={ x0 op with sta:=(c.toNat:Nat) }
def mkR (op:Int) (r:RuM):ReM:={ x0 op with ru:=r }
def mkLV (op:Int) (p:List Lab×Nat):ReM:={ x0 op with ls:=p.1,val:=p.2 }
def mkMt (op:Int) (M:List Mtr):ReM:={ x0 op with mt:=M }
structure ReSz (r:ReM):Prop where
 tok:r.tok=⟨#[]⟩
 val:r.val<2^64∧bitsF r.val=r.val
 bd:r.lo<2^64∧r.hi<2^64
 ru:r.ru.lo<2^64∧r.ru.hi<2^64
theorem fit_0 (op:Int):Fits (clR 0 op) (fun r=>[]) (fun r=>r=x0 op):=⟨fun a t h=>by rw[h];rfl,fun b a t h=>by have h:(some (x0 op,b):Option (ReM×Byt))=some (a,t):=h;simp only[Option.some.injEq,Prod.mk.injEq]at h;exact⟨h.1.symm,h.2⟩⟩
theorem fit_1 (op:Int):Fits (clR 1 op) (fun r=>putN r.id.toNat) (fun r=>(r.id.toNat≤2147483647)∧(mkI op) ((fun r=>r.id.toNat) r)=r):=z18 (z1q (most:=2147483647) (by decide)) (mkI op) (fun r=>r.id.toNat) (fun _=>rfl)
theorem fit_3 (op:Int):Fits (clR 3 op) (fun r=>putN r.id.toNat++txtB r.txt) (fun r=>(r.id.toNat≤2147483647∧r.txt.size≤16)∧(mkIT op) ((fun r=>(r.id.toNat,r.txt)) r)=r):=z18 (z0G (z1q (most:=2147483647) (by decide)) (z1I (most:=16) (by decide))) (mkIT op) (fun r=>(r.id.toNat,r.txt)) (fun _=>rfl)
theorem zbF (op:Int):Fits (clR 116 op) (fun r=>putN r.st++(putN r.en++(putL r.mt++putBd (r.any,r.lo,r.hi)))) (fun r=>(r.st≤1099511627776∧r.en≤1099511627776∧listB r.mt=true∧(bMay (r.any,r.lo,r.hi)=true∧bSz (r.any,r.lo,r.hi)))∧(mk116 op) ((fun r=>(r.st,r.en,r.mt,r.any,r.lo,r.hi)) r)=r):=z18 (z0G (z1q (most:=1099511627776) (by decide)) (z0G (z1q (most:=1099511627776) (by decide)) (z0G z2r band_fits))) (mk116 op) (fun r=>(r.st,r.en,r.mt,r.any,r.lo,r.hi)) (fun _=>rfl)
theorem zbG (op:Int):Fits (clR 117 op) (fun r=>putN r.id.toNat++(putN r.st++(putN r.en++(putL r.mt++putBd (r.any,r.lo,r.hi))))) (fun r=>(r.id.toNat≤2147483647∧r.st≤1099511627776∧r.en≤1099511627776∧listB r.mt=true∧(bMay (r.any,r.lo,r.hi)=true∧bSz (r.any,r.lo,r.hi)))∧(mk117 op) ((fun r=>(r.id.toNat,r.st,r.en,r.mt,r.any,r.lo,r.hi)) r)=r):=z18 (z0G (z1q (most:=2147483647) (by decide)) (z0G (z1q (most:=1099511627776) (by decide)) (z0G (z1q (most:=1099511627776) (by decide)) (z0G z2r band_fits)))) (mk117 op) (fun r=>(r.id.toNat,r.st,r.en,r.mt,r.any,r.lo,r.hi)) (fun _=>rfl)
theorem fit_8 (op:Int):Fits (clR 8 op) (fun r=>[opC r.sta]) (fun r=>(True)∧(mkZ op) ((fun r=>opC r.sta) r)=r):=z18 byte_fits (mkZ op) (fun r=>opC r.sta) (fun c=>z9n c)
theorem zbH (op:Int):Fits (clR 128 op) (fun r=>putR r.ru) (fun r=>(ruIs r.ru=true∧ruSz r.ru)∧(mkR op) ((fun r=>r.ru) r)=r):=z18 ru_fits (mkR op) (fun r=>r.ru) (fun _=>rfl)
theorem zbI (op:Int):Fits (clR 768 op) (fun r=>z3e r.ls++putV r.val) (fun r=>(setB r.ls=true∧(r.val<2^64∧bitsF r.val=r.val))∧(mkLV op) ((fun r=>(r.ls,r.val)) r)=r):=z18 (z0G set_fits val_fits) (mkLV op) (fun r=>(r.ls,r.val)) (fun _=>rfl)
theorem zdq (op:Int):Fits (clR 16 op) (fun r=>putL r.mt) (fun r=>(listB r.mt=true)∧(mkMt op) ((fun r=>r.mt) r)=r):=z18 z2r (mkMt op) (fun r=>r.mt) (fun _=>rfl)
theorem cls_0 {r:ReM} (hm:mayR r=true) (hs:ReSz r) (hf:(fOf r.op).1=0):(r=x0 r.op)∧z0s 0 r=opC r.op::([]):=by
 have hok:=bd_ok hm;unfold mayR at hm;rw[hf]at hm;simp only[Bool.and_eq_true]at hm;obtain⟨_,hz,hr⟩:=hm;unfold zeroB at hz;unfold z0i at hr;simp only[hs_0,Bool.true_or,Bool.false_or,Bool.not_true,Bool.not_false,Bool.true_and,Bool.and_true,Bool.and_eq_true,z2G,z2H,z2e,z3g,z1w,z1G,beq_iff_eq,Prod.mk.injEq]at hz hr;obtain⟨op0,op1,id0,id1,htx,hst,hen,sta0,sta1,hmt,hru,hls⟩:=hok;obtain⟨h1,h2,h3,h4⟩:=hs;have hid:((r.id.toNat:Nat):Int)=r.id:=by omega
 have hsta:=z1F sta0 (by omega)
 have eL:z0B r.mt=putL r.mt:=by unfold z0B;rw[hmt];rfl
 rw[hf]at hru hls;refine⟨?_,by simp[z0s,putB2,putB1,layF,hs_0]⟩
 obtain⟨tok,op,id,txt,st,en,sta,mt,any,lo,hi,ru,ls,val⟩:=r;simp only[x0,mk116,mk117,mkI,mkIT,mkZ,mkR,mkLV,mkMt,ReM.mk.injEq]at *
 simp_all
theorem cls_1 {r:ReM} (hm:mayR r=true) (hs:ReSz r) (hf:(fOf r.op).1=1):((r.id.toNat≤2147483647)∧(mkI r.op) ((fun r=>r.id.toNat) r)=r)∧z0s 1 r=opC r.op::(putN r.id.toNat):=by
 have hok:=bd_ok hm;unfold mayR at hm;rw[hf]at hm;simp only[Bool.and_eq_true]at hm;obtain⟨_,hz,hr⟩:=hm;unfold zeroB at hz;unfold z0i at hr;simp only[hs_1,Bool.true_or,Bool.false_or,Bool.not_true,Bool.not_false,Bool.true_and,Bool.and_true,Bool.and_eq_true,z2G,z2H,z2e,z3g,z1w,z1G,beq_iff_eq,Prod.mk.injEq]at hz hr;obtain⟨op0,op1,id0,id1,htx,hst,hen,sta0,sta1,hmt,hru,hls⟩:=hok;obtain⟨h1,h2,h3,h4⟩:=hs;have hid:((r.id.toNat:Nat):Int)=r.id:=by omega
 have hsta:=z1F sta0 (by omega)
 have eL:z0B r.mt=putL r.mt:=by unfold z0B;rw[hmt];rfl
 rw[hf]at hru hls;refine⟨⟨by omega,?_⟩,by simp[z0s,putB2,putB1,layF,hs_1]⟩
 obtain⟨tok,op,id,txt,st,en,sta,mt,any,lo,hi,ru,ls,val⟩:=r;simp only[x0,mk116,mk117,mkI,mkIT,mkZ,mkR,mkLV,mkMt,ReM.mk.injEq]at *
 simp_all
theorem cls_3 {r:ReM} (hm:mayR r=true) (hs:ReSz r) (hf:(fOf r.op).1=3):((r.id.toNat≤2147483647∧r.txt.size≤16)∧(mkIT r.op) ((fun r=>(r.id.toNat,r.txt)) r)=r)∧z0s 3 r=opC r.op::(putN r.id.toNat++txtB r.txt):=by
 have hok:=bd_ok hm;unfold mayR at hm;rw[hf]at hm;simp only[Bool.and_eq_true]at hm;obtain⟨_,hz,hr⟩:=hm;unfold zeroB at hz;unfold z0i at hr;simp only[hs_3,Bool.true_or,Bool.false_or,Bool.not_true,Bool.not_false,Bool.true_and,Bool.and_true,Bool.and_eq_true,z2G,z2H,z2e,z3g,z1w,z1G,beq_iff_eq,Prod.mk.injEq]at hz hr;obtain⟨op0,op1,id0,id1,htx,hst,hen,sta0,sta1,hmt,hru,hls⟩:=hok;obtain⟨h1,h2,h3,h4⟩:=hs;have hid:((r.id.toNat:Nat):Int)=r.id:=by omega
 have hsta:=z1F sta0 (by omega)
 have eL:z0B r.mt=putL r.mt:=by unfold z0B;rw[hmt];rfl
 rw[hf]at hru hls;refine⟨⟨⟨by omega,htx⟩,?_⟩,by simp[z0s,putB2,putB1,layF,hs_3]⟩
 obtain⟨tok,op,id,txt,st,en,sta,mt,any,lo,hi,ru,ls,val⟩:=r;simp only[x0,mk116,mk117,mkI,mkIT,mkZ,mkR,mkLV,mkMt,ReM.mk.injEq]at *
 simp_all
theorem z8o {r:ReM} (hm:mayR r=true) (hs:ReSz r) (hf:(fOf r.op).1=116):((r.st≤1099511627776∧r.en≤1099511627776∧listB r.mt=true∧(bMay (r.any,r.lo,r.hi)=true∧bSz (r.any,r.lo,r.hi)))∧(mk116 r.op) ((fun r=>(r.st,r.en,r.mt,r.any,r.lo,r.hi)) r)=r)∧z0s 116 r=opC r.op::(putN r.st++(putN r.en++(putL r.mt++putBd (r.any,r.lo,r.hi)))):=by
 have hok:=bd_ok hm;unfold mayR at hm;rw[hf]at hm;simp only[Bool.and_eq_true]at hm;obtain⟨_,hz,hr⟩:=hm;unfold zeroB at hz;unfold z0i at hr;simp only[z7i,Bool.true_or,Bool.false_or,Bool.not_true,Bool.not_false,Bool.true_and,Bool.and_true,Bool.and_eq_true,z2G,z2H,z2e,z3g,z1w,z1G,beq_iff_eq,Prod.mk.injEq]at hz hr;obtain⟨op0,op1,id0,id1,htx,hst,hen,sta0,sta1,hmt,hru,hls⟩:=hok;obtain⟨h1,h2,h3,h4⟩:=hs;have hid:((r.id.toNat:Nat):Int)=r.id:=by omega
 have hsta:=z1F sta0 (by omega)
 have eL:z0B r.mt=putL r.mt:=by unfold z0B;rw[hmt];rfl
 rw[hf]at hru hls;refine⟨⟨⟨hst,hen,hmt,hr.2.2.2.2.2.2,h3⟩,?_⟩,by simp[z0s,putB2,putB1,layF,z7i,eL]⟩
 obtain⟨tok,op,id,txt,st,en,sta,mt,any,lo,hi,ru,ls,val⟩:=r;simp only[x0,mk116,mk117,mkI,mkIT,mkZ,mkR,mkLV,mkMt,ReM.mk.injEq]at *
 simp_all
theorem z8p {r:ReM} (hm:mayR r=true) (hs:ReSz r) (hf:(fOf r.op).1=117):((r.id.toNat≤2147483647∧r.st≤1099511627776∧r.en≤1099511627776∧listB r.mt=true∧(bMay (r.any,r.lo,r.hi)=true∧bSz (r.any,r.lo,r.hi)))∧(mk117 r.op) ((fun r=>(r.id.toNat,r.st,r.en,r.mt,r.any,r.lo,r.hi)) r)=r)∧z0s 117 r=opC r.op::(putN r.id.toNat++(putN r.st++(putN r.en++(putL r.mt++putBd (r.any,r.lo,r.hi))))):=by
 have hok:=bd_ok hm;unfold mayR at hm;rw[hf]at hm;simp only[Bool.and_eq_true]at hm;obtain⟨_,hz,hr⟩:=hm;unfold zeroB at hz;unfold z0i at hr;simp only[z7j,Bool.true_or,Bool.false_or,Bool.not_true,Bool.not_false,Bool.true_and,Bool.and_true,Bool.and_eq_true,z2G,z2H,z2e,z3g,z1w,z1G,beq_iff_eq,Prod.mk.injEq]at hz hr;obtain⟨op0,op1,id0,id1,htx,hst,hen,sta0,sta1,hmt,hru,hls⟩:=hok;obtain⟨h1,h2,h3,h4⟩:=hs;have hid:((r.id.toNat:Nat):Int)=r.id:=by omega
 have hsta:=z1F sta0 (by omega)
 have eL:z0B r.mt=putL r.mt:=by unfold z0B;rw[hmt];rfl
 rw[hf]at hru hls;refine⟨⟨⟨by omega,hst,hen,hmt,hr.2.2.2.2.2.2,h3⟩,?_⟩,by simp[z0s,putB2,putB1,layF,z7j,eL]⟩
 obtain⟨tok,op,id,txt,st,en,sta,mt,any,lo,hi,ru,ls,val⟩:=r;simp only[x0,mk116,mk117,mkI,mkIT,mkZ,mkR,mkLV,mkMt,ReM.mk.injEq]at *
 simp_all
theorem cls_8 {r:ReM} (hm:mayR r=true) (hs:ReSz r) (hf:(fOf r.op).1=8):((True)∧(mkZ r.op) ((fun r=>opC r.sta) r)=r)∧z0s 8 r=opC r.op::([opC r.sta]):=by
 have hok:=bd_ok hm;unfold mayR at hm;rw[hf]at hm;simp only[Bool.and_eq_true]at hm;obtain⟨_,hz,hr⟩:=hm;unfold zeroB at hz;unfold z0i at hr;simp only[hs_8,Bool.true_or,Bool.false_or,Bool.not_true,Bool.not_false,Bool.true_and,Bool.and_true,Bool.and_eq_true,z2G,z2H,z2e,z3g,z1w,z1G,beq_iff_eq,Prod.mk.injEq]at hz hr;obtain⟨op0,op1,id0,id1,htx,hst,hen,sta0,sta1,hmt,hru,hls⟩:=hok;obtain⟨h1,h2,h3,h4⟩:=hs;have hid:((r.id.toNat:Nat):Int)=r.id:=by omega
 have hsta:=z1F sta0 (by omega)
 have eL:z0B r.mt=putL r.mt:=by unfold z0B;rw[hmt];rfl
 rw[hf]at hru hls;refine⟨⟨trivial,?_⟩,by simp[z0s,putB2,putB1,layF,hs_8]⟩
 obtain⟨tok,op,id,txt,st,en,sta,mt,any,lo,hi,ru,ls,val⟩:=r;simp only[x0,mk116,mk117,mkI,mkIT,mkZ,mkR,mkLV,mkMt,ReM.mk.injEq]at *
 simp_all
theorem z8q {r:ReM} (hm:mayR r=true) (hs:ReSz r) (hf:(fOf r.op).1=128):((ruIs r.ru=true∧ruSz r.ru)∧(mkR r.op) ((fun r=>r.ru) r)=r)∧z0s 128 r=opC r.op::(putR r.ru):=by
 have hok:=bd_ok hm;unfold mayR at hm;rw[hf]at hm;simp only[Bool.and_eq_true]at hm;obtain⟨_,hz,hr⟩:=hm;unfold zeroB at hz;unfold z0i at hr;simp only[hs_128,Bool.true_or,Bool.false_or,Bool.not_true,Bool.not_false,Bool.true_and,Bool.and_true,Bool.and_eq_true,z2G,z2H,z2e,z3g,z1w,z1G,beq_iff_eq,Prod.mk.injEq]at hz hr;obtain⟨op0,op1,id0,id1,htx,hst,hen,sta0,sta1,hmt,hru,hls⟩:=hok;obtain⟨h1,h2,h3,h4⟩:=hs;have hid:((r.id.toNat:Nat):Int)=r.id:=by omega
 have hsta:=z1F sta0 (by omega)
 have eL:z0B r.mt=putL r.mt:=by unfold z0B;rw[hmt];rfl
 rw[hf]at hru hls;have eR:z1e r.ru=putR r.ru:=by unfold z1e;rw[hru hs_128.2.2.2.2.2.2.2.1];rfl
 refine⟨⟨⟨hru hs_128.2.2.2.2.2.2.2.1,h4⟩,?_⟩,by simp[z0s,putB2,putB1,layF,hs_128,eR]⟩
 obtain⟨tok,op,id,txt,st,en,sta,mt,any,lo,hi,ru,ls,val⟩:=r;simp only[x0,mk116,mk117,mkI,mkIT,mkZ,mkR,mkLV,mkMt,ReM.mk.injEq]at *
 simp_all
theorem z8r {r:ReM} (hm:mayR r=true) (hs:ReSz r) (hf:(fOf r.op).1=768):((setB r.ls=true∧(r.val<2^64∧bitsF r.val=r.val))∧(mkLV r.op) ((fun r=>(r.ls,r.val)) r)=r)∧z0s 768 r=opC r.op::(z3e r.ls++putV r.val):=by
 have hok:=bd_ok hm;unfold mayR at hm;rw[hf]at hm;simp only[Bool.and_eq_true]at hm;obtain⟨_,hz,hr⟩:=hm;unfold zeroB at hz;unfold z0i at hr;simp only[hs_768,Bool.true_or,Bool.false_or,Bool.not_true,Bool.not_false,Bool.true_and,Bool.and_true,Bool.and_eq_true,z2G,z2H,z2e,z3g,z1w,z1G,beq_iff_eq,Prod.mk.injEq]at hz hr;obtain⟨op0,op1,id0,id1,htx,hst,hen,sta0,sta1,hmt,hru,hls⟩:=hok;obtain⟨h1,h2,h3,h4⟩:=hs;have hid:((r.id.toNat:Nat):Int)=r.id:=by omega
 have hsta:=z1F sta0 (by omega)
 have eL:z0B r.mt=putL r.mt:=by unfold z0B;rw[hmt];rfl
 rw[hf]at hru hls;have eS:z23 r.ls=z3e r.ls:=by unfold z23;rw[hls hs_768.2.2.2.2.2.2.2.2.1];rfl
 refine⟨⟨⟨hls hs_768.2.2.2.2.2.2.2.2.1,h2⟩,?_⟩,by simp[z0s,putB2,putB1,layF,hs_768,eS]⟩
 obtain⟨tok,op,id,txt,st,en,sta,mt,any,lo,hi,ru,ls,val⟩:=r;simp only[x0,mk116,mk117,mkI,mkIT,mkZ,mkR,mkLV,mkMt,ReM.mk.injEq]at *
 simp_all
theorem zbJ {r:ReM} (hm:mayR r=true) (hs:ReSz r) (hf:(fOf r.op).1=16):((listB r.mt=true)∧(mkMt r.op) ((fun r=>r.mt) r)=r)∧z0s 16 r=opC r.op::(putL r.mt):=by
 have hok:=bd_ok hm;unfold mayR at hm;rw[hf]at hm;simp only[Bool.and_eq_true]at hm;obtain⟨_,hz,hr⟩:=hm;unfold zeroB at hz;unfold z0i at hr;simp only[hs_16,Bool.true_or,Bool.false_or,Bool.not_true,Bool.not_false,Bool.true_and,Bool.and_true,Bool.and_eq_true,z2G,z2H,z2e,z3g,z1w,z1G,beq_iff_eq,Prod.mk.injEq]at hz hr;obtain⟨op0,op1,id0,id1,htx,hst,hen,sta0,sta1,hmt,hru,hls⟩:=hok;obtain⟨h1,h2,h3,h4⟩:=hs;have hid:((r.id.toNat:Nat):Int)=r.id:=by omega
 have hsta:=z1F sta0 (by omega)
 have eL:z0B r.mt=putL r.mt:=by unfold z0B;rw[hmt];rfl
 rw[hf]at hru hls;refine⟨⟨hmt,?_⟩,by simp[z0s,putB2,putB1,layF,hs_16,eL]⟩
 obtain⟨tok,op,id,txt,st,en,sta,mt,any,lo,hi,ru,ls,val⟩:=r;simp only[x0,mk116,mk117,mkI,mkIT,mkZ,mkR,mkLV,mkMt,ReM.mk.injEq]at *
 simp_all
theorem zel {op:Int} {r:ReM} (h:r=x0 op):ReSz r:=by
 subst h;have z:(0:Nat)<2^64:=by decide
 exact⟨rfl,⟨z,z0Y⟩,⟨z,z⟩,⟨z,z⟩⟩
theorem zem {op:Int} {r:ReM} (h:(r.id.toNat≤2147483647)∧(mkI op) ((fun r=>r.id.toNat) r)=r):ReSz r:=⟨by rw[←h.2];rfl,(by rw[←h.2];exact(show(0:Nat)<2^64∧bitsF 0=0 from⟨by decide,z0Y⟩)),(by rw[←h.2];show(0:Nat)<2^64∧(0:Nat)<2^64;decide),(by rw[←h.2];show(0:Nat)<2^64∧(0:Nat)<2^64;decide)⟩
theorem zen {op:Int} {r:ReM} (h:(r.id.toNat≤2147483647∧r.txt.size≤16)∧(mkIT op) ((fun r=>(r.id.toNat,r.txt)) r)=r):ReSz r:=⟨by rw[←h.2];rfl,(by rw[←h.2];exact(show(0:Nat)<2^64∧bitsF 0=0 from⟨by decide,z0Y⟩)),(by rw[←h.2];show(0:Nat)<2^64∧(0:Nat)<2^64;decide),(by rw[←h.2];show(0:Nat)<2^64∧(0:Nat)<2^64;decide)⟩
theorem zbK {op:Int} {r:ReM} (h:(r.st≤1099511627776∧r.en≤1099511627776∧listB r.mt=true∧(bMay (r.any,r.lo,r.hi)=true∧bSz (r.any,r.lo,r.hi)))∧(mk116 op) ((fun r=>(r.st,r.en,r.mt,r.any,r.lo,r.hi)) r)=r):ReSz r:=⟨by rw[←h.2];rfl,(by rw[←h.2];exact(show(0:Nat)<2^64∧bitsF 0=0 from⟨by decide,z0Y⟩)),h.1.2.2.2.2,(by rw[←h.2];show(0:Nat)<2^64∧(0:Nat)<2^64;decide)⟩
theorem zbL {op:Int} {r:ReM} (h:(r.id.toNat≤2147483647∧r.st≤1099511627776∧r.en≤1099511627776∧listB r.mt=true∧(bMay (r.any,r.lo,r.hi)=true∧bSz (r.any,r.lo,r.hi)))∧(mk117 op) ((fun r=>(r.id.toNat,r.st,r.en,r.mt,r.any,r.lo,r.hi)) r)=r):ReSz r:=⟨by rw[←h.2];rfl,(by rw[←h.2];exact(show(0:Nat)<2^64∧bitsF 0=0 from⟨by decide,z0Y⟩)),h.1.2.2.2.2.2,(by rw[←h.2];show(0:Nat)<2^64∧(0:Nat)<2^64;decide)⟩
theorem zeo {op:Int} {r:ReM} (h:(True)∧(mkZ op) ((fun r=>opC r.sta) r)=r):ReSz r:=⟨by rw[←h.2];rfl,(by rw[←h.2];exact(show(0:Nat)<2^64∧bitsF 0=0 from⟨by decide,z0Y⟩)),(by rw[←h.2];show(0:Nat)<2^64∧(0:Nat)<2^64;decide),(by rw[←h.2];show(0:Nat)<2^64∧(0:Nat)<2^64;decide)⟩
theorem zbM {op:Int} {r:ReM} (h:(ruIs r.ru=true∧ruSz r.ru)∧(mkR op) ((fun r=>r.ru) r)=r):ReSz r:=⟨by rw[←h.2];rfl,(by rw[←h.2];exact(show(0:Nat)<2^64∧bitsF 0=0 from⟨by decide,z0Y⟩)),(by rw[←h.2];show(0:Nat)<2^64∧(0:Nat)<2^64;decide),h.1.2⟩
theorem zbN {op:Int} {r:ReM} (h:(setB r.ls=true∧(r.val<2^64∧bitsF r.val=r.val))∧(mkLV op) ((fun r=>(r.ls,r.val)) r)=r):ReSz r:=⟨by rw[←h.2];rfl,h.1.2,(by rw[←h.2];show(0:Nat)<2^64∧(0:Nat)<2^64;decide),(by rw[←h.2];show(0:Nat)<2^64∧(0:Nat)<2^64;decide)⟩
theorem zd0 {op:Int} {r:ReM} (h:(listB r.mt=true)∧(mkMt op) ((fun r=>r.mt) r)=r):ReSz r:=⟨by rw[←h.2];rfl,(by rw[←h.2];exact(show(0:Nat)<2^64∧bitsF 0=0 from⟨by decide,z0Y⟩)),(by rw[←h.2];show(0:Nat)<2^64∧(0:Nat)<2^64;decide),(by rw[←h.2];show(0:Nat)<2^64∧(0:Nat)<2^64;decide)⟩
theorem za2 {b:Byt} {x:ReM} {t:Byt} (h:bodyR b=some (x,t)):mayR x=true:=by
 cases b with
 |nil=>cases h
 |cons c u =>
  have h:onlyR (clR (fOf (c.toNat:Int)).1 (c.toNat:Int)) mayR u=some (x,t):=h;simp only[onlyR]at h
  cases h3:clR (fOf (c.toNat:Int)).1 (c.toNat:Int) u with
  |none=>simp[h3]at h
  |some y =>
   simp only[h3,Option.bind_some]at h;split at h
   · rename_i hm;simp only[Option.some.injEq]at h;subst h;exact hm
   · cases h
theorem body_fits:Fits bodyR z0N (fun r=>mayR r=true∧ReSz r) where
 fwd r t h:=by
  obtain⟨hm,hs⟩:=h;have hok:=bd_ok hm;have hc:z0N r=z0s (fOf r.op).1 r:=by unfold z0N;rw[hm];rfl
  have hop:=z1F hok.op0 hok.op1
  have fin:∀(f:Int) (w:Byt),(fOf r.op).1=f→z0s f r=opC r.op::w→clR f r.op (w++t)=some (r,t)→bodyR (z0N r++t)=some (r,t):=by
   intro f w hf hw hcl;rw[hc,hf,hw];show onlyR (clR (fOf (((opC r.op).toNat:Nat):Int)).1 (((opC r.op).toNat:Nat):Int)) mayR (w++t)=some (r,t);rw[hop,hf];simp only[onlyR,hcl,Option.bind_some,hm,if_true]
  have hmem:=z5d r.op;generalize hf:(fOf r.op).1=f at hmem;simp only[List.mem_cons,List.not_mem_nil,or_false]at hmem;rcases hmem with rfl|rfl|rfl|rfl|rfl|rfl|rfl|rfl|rfl
  · exact fin _ _ hf (cls_0 hm hs hf).2 ((fit_0 r.op).fwd r t (cls_0 hm hs hf).1)
  · exact fin _ _ hf (cls_1 hm hs hf).2 ((fit_1 r.op).fwd r t (cls_1 hm hs hf).1)
  · exact fin _ _ hf (cls_3 hm hs hf).2 ((fit_3 r.op).fwd r t (cls_3 hm hs hf).1)
  · exact fin _ _ hf (z8o hm hs hf).2 ((zbF r.op).fwd r t (z8o hm hs hf).1)
  · exact fin _ _ hf (z8p hm hs hf).2 ((zbG r.op).fwd r t (z8p hm hs hf).1)
  · exact fin _ _ hf (cls_8 hm hs hf).2 ((fit_8 r.op).fwd r t (cls_8 hm hs hf).1)
  · exact fin _ _ hf (z8q hm hs hf).2 ((zbH r.op).fwd r t (z8q hm hs hf).1)
  · exact fin _ _ hf (z8r hm hs hf).2 ((zbI r.op).fwd r t (z8r hm hs hf).1)
  · exact fin _ _ hf (zbJ hm hs hf).2 ((zdq r.op).fwd r t (zbJ hm hs hf).1)
 bwd b r t h:=by
  have hm:=za2 h
  cases b with
  |nil=>cases h
  |cons c u =>
   have h:onlyR (clR (fOf (c.toNat:Int)).1 (c.toNat:Int)) mayR u=some (r,t):=h
   have h3:clR (fOf (c.toNat:Int)).1 (c.toNat:Int) u=some (r,t):=by
    simp only[onlyR]at h
    cases h3:clR (fOf (c.toNat:Int)).1 (c.toNat:Int) u with
    |none=>simp[h3]at h
    |some y =>
     simp only[h3,Option.bind_some]at h;split at h
     · exact h
     · cases h
   have hop:=zdn h3;have hoc:opC r.op=c:=by rw[hop];exact z9n c
   have hc:z0N r=z0s (fOf r.op).1 r:=by unfold z0N;rw[hm];rfl
   rw[←hop]at h3
   have fin:∀(f:Int) (w:Byt),(fOf r.op).1=f→z0s f r=opC r.op::w→u=w++t→c::u=z0N r++t:=by
    intro f w hf hw hu;rw[hc,hf,hw,hoc,hu];rfl
   have hmem:=z5d r.op;generalize hf:(fOf r.op).1=f at hmem h3;simp only[List.mem_cons,List.not_mem_nil,or_false]at hmem;rcases hmem with rfl|rfl|rfl|rfl|rfl|rfl|rfl|rfl|rfl
   · have k:=(fit_0 r.op).bwd u r t h3;have s:=zel k.1;exact⟨⟨hm,s⟩,fin _ _ hf (cls_0 hm s hf).2 k.2⟩
   · have k:=(fit_1 r.op).bwd u r t h3;have s:=zem k.1;exact⟨⟨hm,s⟩,fin _ _ hf (cls_1 hm s hf).2 k.2⟩
   · have k:=(fit_3 r.op).bwd u r t h3;have s:=zen k.1;exact⟨⟨hm,s⟩,fin _ _ hf (cls_3 hm s hf).2 k.2⟩
   · have k:=(zbF r.op).bwd u r t h3;have s:=zbK k.1;exact⟨⟨hm,s⟩,fin _ _ hf (z8o hm s hf).2 k.2⟩
   · have k:=(zbG r.op).bwd u r t h3;have s:=zbL k.1;exact⟨⟨hm,s⟩,fin _ _ hf (z8p hm s hf).2 k.2⟩
   · have k:=(fit_8 r.op).bwd u r t h3;have s:=zeo k.1;exact⟨⟨hm,s⟩,fin _ _ hf (cls_8 hm s hf).2 k.2⟩
   · have k:=(zbH r.op).bwd u r t h3;have s:=zbM k.1;exact⟨⟨hm,s⟩,fin _ _ hf (z8q hm s hf).2 k.2⟩
   · have k:=(zbI r.op).bwd u r t h3;have s:=zbN k.1;exact⟨⟨hm,s⟩,fin _ _ hf (z8r hm s hf).2 k.2⟩
   · have k:=(zdq r.op).bwd u r t h3;have s:=zd0 k.1;exact⟨⟨hm,s⟩,fin _ _ hf (zbJ hm s hf).2 k.2⟩
structure RqSz (r:ReM):Prop where
 val:r.val<2^64∧bitsF r.val=r.val
 bd:r.lo<2^64∧r.hi<2^64
 ru:r.ru.lo<2^64∧r.ru.hi<2^64
def noTok (r:ReM):ReM:={ r with tok:=⟨#[]⟩ }
theorem zd1 (r:ReM) (s:ByteArray):mayR { r with tok:=s }=mayR r:=rfl
theorem za3 (r:ReM):z0N (noTok r)=z0N r:=rfl
theorem req_fits:Fits reqR z17 (fun r=>reIs r=true∧RqSz r):=by
 refine dress_fits (z0G (z2n (z1I (most:=16) (by decide)) tokB) body_fits) (g:=fun r=>(r.tok,noTok r)) (fun a h=>?_) (fun r h=>?_)
 · obtain⟨s,x⟩:=a;obtain⟨⟨h1,h2⟩,hm,hs⟩:=h;have hi:reIs { x with tok:=s }=true:=by unfold reIs;rw[zd1,hm];simp only[h2,Bool.and_self]
   refine⟨⟨hi,hs.val,hs.bd,hs.ru⟩,?_⟩;unfold z17;rw[if_pos hi];rfl
 · obtain⟨hi,hs⟩:=h;obtain⟨t1,t2,hm⟩:=z24 hi;have ht:tokB r.tok=true:=by unfold reIs at hi;simp only[Bool.and_eq_true]at hi;exact hi.1
   exact⟨⟨⟨t1,ht⟩,hm,rfl,hs.val,hs.bd,hs.ru⟩,rfl⟩
end Go.Proofs.YtmkmhhjkdaklbaaGreat
