/- What an act draws: a request, at some of the ops. Printed by a program. No condition. -/
import Derived.Test.YteakobbdgehlgaaGreatDoorKRg3bH
import Derived.Test.YteakobbdgehlgaaGreatDoorKRb1H
import Derived.Test.YteakobbdgehlgaaGreatDoorKRq1H
import Derived.Test.YteakobbdgehlgaaGreatDoorKShA1H
set_option linter.unusedSimpArgs false
set_option linter.unusedVariables false
set_option linter.unusedSectionVars false
namespace Go.Proofs.YteakobbdgehlgaaGreatDoor
open Go Go.Ab Go.Cod
set_option maxRecDepth 100000
section
variable (σ:St)
set_option maxHeartbeats 4000000 in
theorem act_9 (a:AcM) (e:opA a=9):Ans Tryz.prog 47 [acV a] σ (reV (z08 a)) σ:=by
 have h1:=fun s=>z0d s a.who 0 6 (by decide) (by decide) (by decide)
 have h2:=fun s=>z0H s (inD a.who 0 6)
 have h3:∀s,Ans Tryz.prog 85 [I a.what,I 1,I 17] s (I 9) s:=fun s=>by
  have:=z0d s a.what 1 17 (by decide) (by decide) (by decide)
  have e:inD a.what 1 17=9:=e;rw[e]at this;exact this
 have hD:z08 a={ baseR a with ru:=z3U a.ru }:=by
  unfold z08;simp[e]
 rw[hD];unfold baseR;rw[e];generalize tokOf (inD a.who 0 6)=tk at h2⊢;generalize inD a.who 0 6=w at h1 h2;have k1:=fun s=>zeB s a.ru
 unfold duV duC at k1;generalize z3U a.ru=ru at k1⊢;obtain⟨rs,rt,ra,rl,rh,re⟩:=ru;unfold ruV at k1;simp only at k1⊢;refine Ans.subR (r:=.agg [Sx tk,I 9,I 0,Sx ⟨#[]⟩,UN 0,UN 0,I 0,.nils,Bo false,Fl 0,Fl 0,mlV rs,mlV rt,Bo ra,Fl rl,Fl rh,.sl 1 (txs re),.nils,Fl 0]) ?_ (.agg (.cons (.refl _) <| .cons (.refl _) <| .cons (.refl _) <| .cons (.refl _) <| .cons (.refl _) <| .cons (.refl _) <| .cons (.refl _) <| .cons (.nils 3) <| .cons (.refl _) <| .cons (.refl _) <| .cons (.refl _) <| .cons (.refl _) <| .cons (.refl _) <| .cons (.refl _) <| .cons (.refl _) <| .cons (.refl _) <| .cons (.refl _) <| .cons (.nils 2) <| .cons (.refl _) <| .nil))
 have hbl:Bel σ.length (.agg [Sx tk,I 9,I 0,Sx ⟨#[]⟩,UN 0,UN 0,I 0,.nils,Bo false,Fl 0,Fl 0,mlV rs,mlV rt,Bo ra,Fl rl,Fl rh,.sl 1 (txs re),.nils,Fl 0]):=.agg _ (fun i hi=>by
  have:∀y∈([Sx tk,I 9,I 0,Sx ⟨#[]⟩,UN 0,UN 0,I 0,.nils,Bo false,Fl 0,Fl 0,mlV rs,mlV rt,Bo ra,Fl rl,Fl rh,.sl 1 (txs re),.nils,Fl 0]:List AV),Bel σ.length y:=by
   intro y hy;simp only[List.mem_cons,List.not_mem_nil,or_false]at hy;rcases hy with rfl|rfl|rfl|rfl|rfl|rfl|rfl|rfl|rfl|rfl|rfl|rfl|rfl|rfl|rfl|rfl|rfl|rfl|rfl
   all_goals first|exact .pl _|exact .nils|exact z0q _ _|exact z0G _ _|exact z0t _ _
  exact this _ (List.getElem_mem hi))
 refine Ans.of_run' t47 (fun hbel _=>?_)
 unfold acV acC;simp -implicitDefEqProofs only[c47,r47,go_sem,z00];refine CS.intro h1 ?_;simp -implicitDefEqProofs only[go_sem,z00];refine CS.intro h2 ?_;simp -implicitDefEqProofs only[go_sem,z00];refine CS.intro h3 ?_;simp -implicitDefEqProofs only[go_sem,z00,List.append_assoc,List.length_append,g0,g1,s0,s1];refine CO.intro (k1 _) ?_;simp -implicitDefEqProofs only[go_sem,g0,g1,s0,s1];exact Fini.trim2 (σ':=σ) (ex:=[_,_]) (by simp -implicitDefEqProofs only[go_sem,resA,z01,rvA,oneOf,g0]<;>rfl) rfl (Nat.le_refl _) hbl hbel
set_option maxHeartbeats 4000000 in
theorem zhY (a:AcM) (e:opA a=10):Ans Tryz.prog 47 [acV a] σ (reV (z08 a)) σ:=by
 have h1:=fun s=>z0d s a.who 0 6 (by decide) (by decide) (by decide)
 have h2:=fun s=>z0H s (inD a.who 0 6)
 have h3:∀s,Ans Tryz.prog 85 [I a.what,I 1,I 17] s (I 10) s:=fun s=>by
  have:=z0d s a.what 1 17 (by decide) (by decide) (by decide)
  have e:inD a.what 1 17=10:=e;rw[e]at this;exact this
 have hD:z08 a={ baseR a with id:=inD a.id 0 20 }:=by
  unfold z08;simp[e]
 rw[hD];unfold baseR;rw[e];generalize tokOf (inD a.who 0 6)=tk at h2⊢;generalize inD a.who 0 6=w at h1 h2;have k1:=fun s=>z0d s a.id 0 20 (by decide) (by decide) (by decide)
 generalize inD a.id 0 20=v1 at k1⊢;refine Ans.subR (r:=.agg [Sx tk,I 10,I v1,Sx ⟨#[]⟩,UN 0,UN 0,I 0,.nils,Bo false,Fl 0,Fl 0,.nils,.nils,Bo false,Fl 0,Fl 0,.nils,.nils,Fl 0]) ?_ (.agg (.cons (.refl _) <| .cons (.refl _) <| .cons (.refl _) <| .cons (.refl _) <| .cons (.refl _) <| .cons (.refl _) <| .cons (.refl _) <| .cons (.nils 3) <| .cons (.refl _) <| .cons (.refl _) <| .cons (.refl _) <| .cons (.nils 3) <| .cons (.nils 3) <| .cons (.refl _) <| .cons (.refl _) <| .cons (.refl _) <| .cons (.nils 1) <| .cons (.nils 2) <| .cons (.refl _) <| .nil))
 have hbl:Bel σ.length (.agg [Sx tk,I 10,I v1,Sx ⟨#[]⟩,UN 0,UN 0,I 0,.nils,Bo false,Fl 0,Fl 0,.nils,.nils,Bo false,Fl 0,Fl 0,.nils,.nils,Fl 0]):=.agg _ (fun i hi=>by
  have:∀y∈([Sx tk,I 10,I v1,Sx ⟨#[]⟩,UN 0,UN 0,I 0,.nils,Bo false,Fl 0,Fl 0,.nils,.nils,Bo false,Fl 0,Fl 0,.nils,.nils,Fl 0]:List AV),Bel σ.length y:=by
   intro y hy;simp only[List.mem_cons,List.not_mem_nil,or_false]at hy;rcases hy with rfl|rfl|rfl|rfl|rfl|rfl|rfl|rfl|rfl|rfl|rfl|rfl|rfl|rfl|rfl|rfl|rfl|rfl|rfl
   all_goals first|exact .pl _|exact .nils|exact z0q _ _|exact z0G _ _|exact z0t _ _
  exact this _ (List.getElem_mem hi))
 refine Ans.of_run' t47 (fun hbel _=>?_)
 unfold acV acC;simp -implicitDefEqProofs only[c47,r47,go_sem,z00];refine CS.intro h1 ?_;simp -implicitDefEqProofs only[go_sem,z00];refine CS.intro h2 ?_;simp -implicitDefEqProofs only[go_sem,z00];refine CS.intro h3 ?_;simp -implicitDefEqProofs only[go_sem,z00,List.append_assoc,List.length_append,g0,g1,s0,s1];refine CO.intro (k1 _) ?_;simp -implicitDefEqProofs only[go_sem,g0,g1,s0,s1];exact Fini.trim2 (σ':=σ) (ex:=[_,_]) (by simp -implicitDefEqProofs only[go_sem,resA,z01,rvA,oneOf,g0]<;>rfl) rfl (Nat.le_refl _) hbl hbel
set_option maxHeartbeats 4000000 in
theorem zhZ (a:AcM) (e:opA a=11):Ans Tryz.prog 47 [acV a] σ (reV (z08 a)) σ:=by
 have h1:=fun s=>z0d s a.who 0 6 (by decide) (by decide) (by decide)
 have h2:=fun s=>z0H s (inD a.who 0 6)
 have h3:∀s,Ans Tryz.prog 85 [I a.what,I 1,I 17] s (I 11) s:=fun s=>by
  have:=z0d s a.what 1 17 (by decide) (by decide) (by decide)
  have e:inD a.what 1 17=11:=e;rw[e]at this;exact this
 have hD:z08 a={ baseR a with ls:=z29 a.ns,val:=a.val }:=by
  unfold z08;simp[e]
 rw[hD];unfold baseR;rw[e];generalize tokOf (inD a.who 0 6)=tk at h2⊢;generalize inD a.who 0 6=w at h1 h2;have k1:=fun s=>zd0 s a.ns
 generalize z29 a.ns=ls at k1⊢;refine Ans.subR (r:=.agg [Sx tk,I 11,I 0,Sx ⟨#[]⟩,UN 0,UN 0,I 0,.nils,Bo false,Fl 0,Fl 0,.nils,.nils,Bo false,Fl 0,Fl 0,.nils,lsV ls,Fl a.val]) ?_ (.agg (.cons (.refl _) <| .cons (.refl _) <| .cons (.refl _) <| .cons (.refl _) <| .cons (.refl _) <| .cons (.refl _) <| .cons (.refl _) <| .cons (.nils 3) <| .cons (.refl _) <| .cons (.refl _) <| .cons (.refl _) <| .cons (.nils 3) <| .cons (.nils 3) <| .cons (.refl _) <| .cons (.refl _) <| .cons (.refl _) <| .cons (.nils 1) <| .cons (.refl _) <| .cons (.refl _) <| .nil))
 have hbl:Bel σ.length (.agg [Sx tk,I 11,I 0,Sx ⟨#[]⟩,UN 0,UN 0,I 0,.nils,Bo false,Fl 0,Fl 0,.nils,.nils,Bo false,Fl 0,Fl 0,.nils,lsV ls,Fl a.val]):=.agg _ (fun i hi=>by
  have:∀y∈([Sx tk,I 11,I 0,Sx ⟨#[]⟩,UN 0,UN 0,I 0,.nils,Bo false,Fl 0,Fl 0,.nils,.nils,Bo false,Fl 0,Fl 0,.nils,lsV ls,Fl a.val]:List AV),Bel σ.length y:=by
   intro y hy;simp only[List.mem_cons,List.not_mem_nil,or_false]at hy;rcases hy with rfl|rfl|rfl|rfl|rfl|rfl|rfl|rfl|rfl|rfl|rfl|rfl|rfl|rfl|rfl|rfl|rfl|rfl|rfl
   all_goals first|exact .pl _|exact .nils|exact z0q _ _|exact z0G _ _|exact z0t _ _
  exact this _ (List.getElem_mem hi))
 refine Ans.of_run' t47 (fun hbel _=>?_)
 unfold acV acC;simp -implicitDefEqProofs only[c47,r47,go_sem,z00];refine CS.intro h1 ?_;simp -implicitDefEqProofs only[go_sem,z00];refine CS.intro h2 ?_;simp -implicitDefEqProofs only[go_sem,z00];refine CS.intro h3 ?_;simp -implicitDefEqProofs only[go_sem,z00,List.append_assoc,List.length_append,g0,g1,s0,s1];refine CD.intro (k1 _) ?_;simp -implicitDefEqProofs only[go_sem,g0,g1,s0,s1];exact Fini.trim2 (σ':=σ) (ex:=[_,_]) (by simp -implicitDefEqProofs only[go_sem,resA,z01,rvA,oneOf,g0]<;>rfl) rfl (Nat.le_refl _) hbl hbel
set_option maxHeartbeats 4000000 in
theorem zi0 (a:AcM) (e:opA a=12):Ans Tryz.prog 47 [acV a] σ (reV (z08 a)) σ:=by
 have h1:=fun s=>z0d s a.who 0 6 (by decide) (by decide) (by decide)
 have h2:=fun s=>z0H s (inD a.who 0 6)
 have h3:∀s,Ans Tryz.prog 85 [I a.what,I 1,I 17] s (I 12) s:=fun s=>by
  have:=z0d s a.what 1 17 (by decide) (by decide) (by decide)
  have e:inD a.what 1 17=12:=e;rw[e]at this;exact this
 have hD:z08 a={ baseR a with id:=inD a.id 0 20 }:=by
  unfold z08;simp[e]
 rw[hD];unfold baseR;rw[e];generalize tokOf (inD a.who 0 6)=tk at h2⊢;generalize inD a.who 0 6=w at h1 h2;have k1:=fun s=>z0d s a.id 0 20 (by decide) (by decide) (by decide)
 generalize inD a.id 0 20=v1 at k1⊢;refine Ans.subR (r:=.agg [Sx tk,I 12,I v1,Sx ⟨#[]⟩,UN 0,UN 0,I 0,.nils,Bo false,Fl 0,Fl 0,.nils,.nils,Bo false,Fl 0,Fl 0,.nils,.nils,Fl 0]) ?_ (.agg (.cons (.refl _) <| .cons (.refl _) <| .cons (.refl _) <| .cons (.refl _) <| .cons (.refl _) <| .cons (.refl _) <| .cons (.refl _) <| .cons (.nils 3) <| .cons (.refl _) <| .cons (.refl _) <| .cons (.refl _) <| .cons (.nils 3) <| .cons (.nils 3) <| .cons (.refl _) <| .cons (.refl _) <| .cons (.refl _) <| .cons (.nils 1) <| .cons (.nils 2) <| .cons (.refl _) <| .nil))
 have hbl:Bel σ.length (.agg [Sx tk,I 12,I v1,Sx ⟨#[]⟩,UN 0,UN 0,I 0,.nils,Bo false,Fl 0,Fl 0,.nils,.nils,Bo false,Fl 0,Fl 0,.nils,.nils,Fl 0]):=.agg _ (fun i hi=>by
  have:∀y∈([Sx tk,I 12,I v1,Sx ⟨#[]⟩,UN 0,UN 0,I 0,.nils,Bo false,Fl 0,Fl 0,.nils,.nils,Bo false,Fl 0,Fl 0,.nils,.nils,Fl 0]:List AV),Bel σ.length y:=by
   intro y hy;simp only[List.mem_cons,List.not_mem_nil,or_false]at hy;rcases hy with rfl|rfl|rfl|rfl|rfl|rfl|rfl|rfl|rfl|rfl|rfl|rfl|rfl|rfl|rfl|rfl|rfl|rfl|rfl
   all_goals first|exact .pl _|exact .nils|exact z0q _ _|exact z0G _ _|exact z0t _ _
  exact this _ (List.getElem_mem hi))
 refine Ans.of_run' t47 (fun hbel _=>?_)
 unfold acV acC;simp -implicitDefEqProofs only[c47,r47,go_sem,z00];refine CS.intro h1 ?_;simp -implicitDefEqProofs only[go_sem,z00];refine CS.intro h2 ?_;simp -implicitDefEqProofs only[go_sem,z00];refine CS.intro h3 ?_;simp -implicitDefEqProofs only[go_sem,z00,List.append_assoc,List.length_append,g0,g1,s0,s1];refine CO.intro (k1 _) ?_;simp -implicitDefEqProofs only[go_sem,g0,g1,s0,s1];exact Fini.trim2 (σ':=σ) (ex:=[_,_]) (by simp -implicitDefEqProofs only[go_sem,resA,z01,rvA,oneOf,g0]<;>rfl) rfl (Nat.le_refl _) hbl hbel
set_option maxHeartbeats 4000000 in
theorem zi1 (a:AcM) (e:opA a=13):Ans Tryz.prog 47 [acV a] σ (reV (z08 a)) σ:=by
 have h1:=fun s=>z0d s a.who 0 6 (by decide) (by decide) (by decide)
 have h2:=fun s=>z0H s (inD a.who 0 6)
 have h3:∀s,Ans Tryz.prog 85 [I a.what,I 1,I 17] s (I 13) s:=fun s=>by
  have:=z0d s a.what 1 17 (by decide) (by decide) (by decide)
  have e:inD a.what 1 17=13:=e;rw[e]at this;exact this
 have hD:z08 a={ baseR a with mt:=mustL false (z0y a.ds []) }:=by
  unfold z08;simp[e]
 rw[hD];unfold baseR;rw[e];generalize tokOf (inD a.who 0 6)=tk at h2⊢;generalize inD a.who 0 6=w at h1 h2;have k4:∀s,Ans Tryz.prog 87 [.sl 3 (a.ds.map dv),Bo false] s (.sl 3 (mvs3 (mustL false (z0y a.ds [])))) s:=fun s=>z3t s false a.ds a.hd
 generalize mustL false (z0y a.ds [])=M at k4⊢;refine Ans.subR (r:=.agg [Sx tk,I 13,I 0,Sx ⟨#[]⟩,UN 0,UN 0,I 0,mlV M,Bo false,Fl 0,Fl 0,.nils,.nils,Bo false,Fl 0,Fl 0,.nils,.nils,Fl 0]) ?_ (.agg (.cons (.refl _) <| .cons (.refl _) <| .cons (.refl _) <| .cons (.refl _) <| .cons (.refl _) <| .cons (.refl _) <| .cons (.refl _) <| .cons (.refl _) <| .cons (.refl _) <| .cons (.refl _) <| .cons (.refl _) <| .cons (.nils 3) <| .cons (.nils 3) <| .cons (.refl _) <| .cons (.refl _) <| .cons (.refl _) <| .cons (.nils 1) <| .cons (.nils 2) <| .cons (.refl _) <| .nil))
 have hbl:Bel σ.length (.agg [Sx tk,I 13,I 0,Sx ⟨#[]⟩,UN 0,UN 0,I 0,mlV M,Bo false,Fl 0,Fl 0,.nils,.nils,Bo false,Fl 0,Fl 0,.nils,.nils,Fl 0]):=.agg _ (fun i hi=>by
  have:∀y∈([Sx tk,I 13,I 0,Sx ⟨#[]⟩,UN 0,UN 0,I 0,mlV M,Bo false,Fl 0,Fl 0,.nils,.nils,Bo false,Fl 0,Fl 0,.nils,.nils,Fl 0]:List AV),Bel σ.length y:=by
   intro y hy;simp only[List.mem_cons,List.not_mem_nil,or_false]at hy;rcases hy with rfl|rfl|rfl|rfl|rfl|rfl|rfl|rfl|rfl|rfl|rfl|rfl|rfl|rfl|rfl|rfl|rfl|rfl|rfl
   all_goals first|exact .pl _|exact .nils|exact z0q _ _|exact z0G _ _|exact z0t _ _
  exact this _ (List.getElem_mem hi))
 refine Ans.of_run' t47 (fun hbel _=>?_)
 unfold acV acC;simp -implicitDefEqProofs only[c47,r47,go_sem,z00];refine CS.intro h1 ?_;simp -implicitDefEqProofs only[go_sem,z00];refine CS.intro h2 ?_;simp -implicitDefEqProofs only[go_sem,z00];refine CS.intro h3 ?_;simp -implicitDefEqProofs only[go_sem,z00,List.append_assoc,List.length_append,g0,g1,s0,s1];refine CO.intro (k4 _) ?_;simp -implicitDefEqProofs only[go_sem,g0,g1,s0,s1];exact Fini.trim2 (σ':=σ) (ex:=[_,_]) (by simp -implicitDefEqProofs only[go_sem,resA,z01,rvA,oneOf,g0]<;>rfl) rfl (Nat.le_refl _) hbl hbel
end
section
variable (σ:St)
set_option maxHeartbeats 4000000 in
theorem zi2 (a:AcM) (e:opA a=14):Ans Tryz.prog 47 [acV a] σ (reV (z08 a)) σ:=by
 have h1:=fun s=>z0d s a.who 0 6 (by decide) (by decide) (by decide)
 have h2:=fun s=>z0H s (inD a.who 0 6)
 have h3:∀s,Ans Tryz.prog 85 [I a.what,I 1,I 17] s (I 14) s:=fun s=>by
  have:=z0d s a.what 1 17 (by decide) (by decide) (by decide)
  have e:inD a.what 1 17=14:=e;rw[e]at this;exact this
 have hD:z08 a=baseR a:=by
  unfold z08;simp[e]
 rw[hD];unfold baseR;rw[e];generalize tokOf (inD a.who 0 6)=tk at h2⊢;generalize inD a.who 0 6=w at h1 h2;refine Ans.subR (r:=.agg [Sx tk,I 14,I 0,Sx ⟨#[]⟩,UN 0,UN 0,I 0,.nils,Bo false,Fl 0,Fl 0,.nils,.nils,Bo false,Fl 0,Fl 0,.nils,.nils,Fl 0]) ?_ (.agg (.cons (.refl _) <| .cons (.refl _) <| .cons (.refl _) <| .cons (.refl _) <| .cons (.refl _) <| .cons (.refl _) <| .cons (.refl _) <| .cons (.nils 3) <| .cons (.refl _) <| .cons (.refl _) <| .cons (.refl _) <| .cons (.nils 3) <| .cons (.nils 3) <| .cons (.refl _) <| .cons (.refl _) <| .cons (.refl _) <| .cons (.nils 1) <| .cons (.nils 2) <| .cons (.refl _) <| .nil))
 have hbl:Bel σ.length (.agg [Sx tk,I 14,I 0,Sx ⟨#[]⟩,UN 0,UN 0,I 0,.nils,Bo false,Fl 0,Fl 0,.nils,.nils,Bo false,Fl 0,Fl 0,.nils,.nils,Fl 0]):=.agg _ (fun i hi=>by
  have:∀y∈([Sx tk,I 14,I 0,Sx ⟨#[]⟩,UN 0,UN 0,I 0,.nils,Bo false,Fl 0,Fl 0,.nils,.nils,Bo false,Fl 0,Fl 0,.nils,.nils,Fl 0]:List AV),Bel σ.length y:=by
   intro y hy;simp only[List.mem_cons,List.not_mem_nil,or_false]at hy;rcases hy with rfl|rfl|rfl|rfl|rfl|rfl|rfl|rfl|rfl|rfl|rfl|rfl|rfl|rfl|rfl|rfl|rfl|rfl|rfl
   all_goals first|exact .pl _|exact .nils|exact z0q _ _|exact z0G _ _|exact z0t _ _
  exact this _ (List.getElem_mem hi))
 refine Ans.of_run' t47 (fun hbel _=>?_)
 unfold acV acC;simp -implicitDefEqProofs only[c47,r47,go_sem,z00];refine CS.intro h1 ?_;simp -implicitDefEqProofs only[go_sem,z00];refine CS.intro h2 ?_;simp -implicitDefEqProofs only[go_sem,z00];refine CS.intro h3 ?_;simp -implicitDefEqProofs only[go_sem,z00,List.append_assoc,List.length_append,g0,g1,s0,s1];exact Fini.trim2 (σ':=σ) (ex:=[_,_]) (by simp -implicitDefEqProofs only[go_sem,resA,z01,rvA,oneOf,g0]<;>rfl) rfl (Nat.le_refl _) hbl hbel
set_option maxHeartbeats 4000000 in
theorem zi3 (a:AcM) (e:opA a=15):Ans Tryz.prog 47 [acV a] σ (reV (z08 a)) σ:=by
 have h1:=fun s=>z0d s a.who 0 6 (by decide) (by decide) (by decide)
 have h2:=fun s=>z0H s (inD a.who 0 6)
 have h3:∀s,Ans Tryz.prog 85 [I a.what,I 1,I 17] s (I 15) s:=fun s=>by
  have:=z0d s a.what 1 17 (by decide) (by decide) (by decide)
  have e:inD a.what 1 17=15:=e;rw[e]at this;exact this
 have hD:z08 a={ baseR a with id:=inD a.id 0 20 }:=by
  unfold z08;simp[e]
 rw[hD];unfold baseR;rw[e];generalize tokOf (inD a.who 0 6)=tk at h2⊢;generalize inD a.who 0 6=w at h1 h2;have k1:=fun s=>z0d s a.id 0 20 (by decide) (by decide) (by decide)
 generalize inD a.id 0 20=v1 at k1⊢;refine Ans.subR (r:=.agg [Sx tk,I 15,I v1,Sx ⟨#[]⟩,UN 0,UN 0,I 0,.nils,Bo false,Fl 0,Fl 0,.nils,.nils,Bo false,Fl 0,Fl 0,.nils,.nils,Fl 0]) ?_ (.agg (.cons (.refl _) <| .cons (.refl _) <| .cons (.refl _) <| .cons (.refl _) <| .cons (.refl _) <| .cons (.refl _) <| .cons (.refl _) <| .cons (.nils 3) <| .cons (.refl _) <| .cons (.refl _) <| .cons (.refl _) <| .cons (.nils 3) <| .cons (.nils 3) <| .cons (.refl _) <| .cons (.refl _) <| .cons (.refl _) <| .cons (.nils 1) <| .cons (.nils 2) <| .cons (.refl _) <| .nil))
 have hbl:Bel σ.length (.agg [Sx tk,I 15,I v1,Sx ⟨#[]⟩,UN 0,UN 0,I 0,.nils,Bo false,Fl 0,Fl 0,.nils,.nils,Bo false,Fl 0,Fl 0,.nils,.nils,Fl 0]):=.agg _ (fun i hi=>by
  have:∀y∈([Sx tk,I 15,I v1,Sx ⟨#[]⟩,UN 0,UN 0,I 0,.nils,Bo false,Fl 0,Fl 0,.nils,.nils,Bo false,Fl 0,Fl 0,.nils,.nils,Fl 0]:List AV),Bel σ.length y:=by
   intro y hy;simp only[List.mem_cons,List.not_mem_nil,or_false]at hy;rcases hy with rfl|rfl|rfl|rfl|rfl|rfl|rfl|rfl|rfl|rfl|rfl|rfl|rfl|rfl|rfl|rfl|rfl|rfl|rfl
   all_goals first|exact .pl _|exact .nils|exact z0q _ _|exact z0G _ _|exact z0t _ _
  exact this _ (List.getElem_mem hi))
 refine Ans.of_run' t47 (fun hbel _=>?_)
 unfold acV acC;simp -implicitDefEqProofs only[c47,r47,go_sem,z00];refine CS.intro h1 ?_;simp -implicitDefEqProofs only[go_sem,z00];refine CS.intro h2 ?_;simp -implicitDefEqProofs only[go_sem,z00];refine CS.intro h3 ?_;simp -implicitDefEqProofs only[go_sem,z00,List.append_assoc,List.length_append,g0,g1,s0,s1];refine CO.intro (k1 _) ?_;simp -implicitDefEqProofs only[go_sem,g0,g1,s0,s1];exact Fini.trim2 (σ':=σ) (ex:=[_,_]) (by simp -implicitDefEqProofs only[go_sem,resA,z01,rvA,oneOf,g0]<;>rfl) rfl (Nat.le_refl _) hbl hbel
set_option maxHeartbeats 4000000 in
theorem zi4 (a:AcM) (e:opA a=16):Ans Tryz.prog 47 [acV a] σ (reV (z08 a)) σ:=by
 have h1:=fun s=>z0d s a.who 0 6 (by decide) (by decide) (by decide)
 have h2:=fun s=>z0H s (inD a.who 0 6)
 have h3:∀s,Ans Tryz.prog 85 [I a.what,I 1,I 17] s (I 16) s:=fun s=>by
  have:=z0d s a.what 1 17 (by decide) (by decide) (by decide)
  have e:inD a.what 1 17=16:=e;rw[e]at this;exact this
 have hD:z08 a=baseR a:=by
  unfold z08;simp[e]
 rw[hD];unfold baseR;rw[e];generalize tokOf (inD a.who 0 6)=tk at h2⊢;generalize inD a.who 0 6=w at h1 h2;refine Ans.subR (r:=.agg [Sx tk,I 16,I 0,Sx ⟨#[]⟩,UN 0,UN 0,I 0,.nils,Bo false,Fl 0,Fl 0,.nils,.nils,Bo false,Fl 0,Fl 0,.nils,.nils,Fl 0]) ?_ (.agg (.cons (.refl _) <| .cons (.refl _) <| .cons (.refl _) <| .cons (.refl _) <| .cons (.refl _) <| .cons (.refl _) <| .cons (.refl _) <| .cons (.nils 3) <| .cons (.refl _) <| .cons (.refl _) <| .cons (.refl _) <| .cons (.nils 3) <| .cons (.nils 3) <| .cons (.refl _) <| .cons (.refl _) <| .cons (.refl _) <| .cons (.nils 1) <| .cons (.nils 2) <| .cons (.refl _) <| .nil))
 have hbl:Bel σ.length (.agg [Sx tk,I 16,I 0,Sx ⟨#[]⟩,UN 0,UN 0,I 0,.nils,Bo false,Fl 0,Fl 0,.nils,.nils,Bo false,Fl 0,Fl 0,.nils,.nils,Fl 0]):=.agg _ (fun i hi=>by
  have:∀y∈([Sx tk,I 16,I 0,Sx ⟨#[]⟩,UN 0,UN 0,I 0,.nils,Bo false,Fl 0,Fl 0,.nils,.nils,Bo false,Fl 0,Fl 0,.nils,.nils,Fl 0]:List AV),Bel σ.length y:=by
   intro y hy;simp only[List.mem_cons,List.not_mem_nil,or_false]at hy;rcases hy with rfl|rfl|rfl|rfl|rfl|rfl|rfl|rfl|rfl|rfl|rfl|rfl|rfl|rfl|rfl|rfl|rfl|rfl|rfl
   all_goals first|exact .pl _|exact .nils|exact z0q _ _|exact z0G _ _|exact z0t _ _
  exact this _ (List.getElem_mem hi))
 refine Ans.of_run' t47 (fun hbel _=>?_)
 unfold acV acC;simp -implicitDefEqProofs only[c47,r47,go_sem,z00];refine CS.intro h1 ?_;simp -implicitDefEqProofs only[go_sem,z00];refine CS.intro h2 ?_;simp -implicitDefEqProofs only[go_sem,z00];refine CS.intro h3 ?_;simp -implicitDefEqProofs only[go_sem,z00,List.append_assoc,List.length_append,g0,g1,s0,s1];exact Fini.trim2 (σ':=σ) (ex:=[_,_]) (by simp -implicitDefEqProofs only[go_sem,resA,z01,rvA,oneOf,g0]<;>rfl) rfl (Nat.le_refl _) hbl hbel
set_option maxHeartbeats 4000000 in
theorem zi5 (a:AcM) (e:opA a=17):Ans Tryz.prog 47 [acV a] σ (reV (z08 a)) σ:=by
 have h1:=fun s=>z0d s a.who 0 6 (by decide) (by decide) (by decide)
 have h2:=fun s=>z0H s (inD a.who 0 6)
 have h3:∀s,Ans Tryz.prog 85 [I a.what,I 1,I 17] s (I 17) s:=fun s=>by
  have:=z0d s a.what 1 17 (by decide) (by decide) (by decide)
  have e:inD a.what 1 17=17:=e;rw[e]at this;exact this
 have hD:z08 a=baseR a:=by
  unfold z08;simp[e]
 rw[hD];unfold baseR;rw[e];generalize tokOf (inD a.who 0 6)=tk at h2⊢;generalize inD a.who 0 6=w at h1 h2;refine Ans.subR (r:=.agg [Sx tk,I 17,I 0,Sx ⟨#[]⟩,UN 0,UN 0,I 0,.nils,Bo false,Fl 0,Fl 0,.nils,.nils,Bo false,Fl 0,Fl 0,.nils,.nils,Fl 0]) ?_ (.agg (.cons (.refl _) <| .cons (.refl _) <| .cons (.refl _) <| .cons (.refl _) <| .cons (.refl _) <| .cons (.refl _) <| .cons (.refl _) <| .cons (.nils 3) <| .cons (.refl _) <| .cons (.refl _) <| .cons (.refl _) <| .cons (.nils 3) <| .cons (.nils 3) <| .cons (.refl _) <| .cons (.refl _) <| .cons (.refl _) <| .cons (.nils 1) <| .cons (.nils 2) <| .cons (.refl _) <| .nil))
 have hbl:Bel σ.length (.agg [Sx tk,I 17,I 0,Sx ⟨#[]⟩,UN 0,UN 0,I 0,.nils,Bo false,Fl 0,Fl 0,.nils,.nils,Bo false,Fl 0,Fl 0,.nils,.nils,Fl 0]):=.agg _ (fun i hi=>by
  have:∀y∈([Sx tk,I 17,I 0,Sx ⟨#[]⟩,UN 0,UN 0,I 0,.nils,Bo false,Fl 0,Fl 0,.nils,.nils,Bo false,Fl 0,Fl 0,.nils,.nils,Fl 0]:List AV),Bel σ.length y:=by
   intro y hy;simp only[List.mem_cons,List.not_mem_nil,or_false]at hy;rcases hy with rfl|rfl|rfl|rfl|rfl|rfl|rfl|rfl|rfl|rfl|rfl|rfl|rfl|rfl|rfl|rfl|rfl|rfl|rfl
   all_goals first|exact .pl _|exact .nils|exact z0q _ _|exact z0G _ _|exact z0t _ _
  exact this _ (List.getElem_mem hi))
 refine Ans.of_run' t47 (fun hbel _=>?_)
 unfold acV acC;simp -implicitDefEqProofs only[c47,r47,go_sem,z00];refine CS.intro h1 ?_;simp -implicitDefEqProofs only[go_sem,z00];refine CS.intro h2 ?_;simp -implicitDefEqProofs only[go_sem,z00];refine CS.intro h3 ?_;simp -implicitDefEqProofs only[go_sem,z00,List.append_assoc,List.length_append,g0,g1,s0,s1];exact Fini.trim2 (σ':=σ) (ex:=[_,_]) (by simp -implicitDefEqProofs only[go_sem,resA,z01,rvA,oneOf,g0]<;>rfl) rfl (Nat.le_refl _) hbl hbel
end
theorem z9D (σ:St) (a:AcM):Ans Tryz.prog 47 [acV a] σ (reV (z08 a)) σ:=by
 have hr:=z8G a;rcases ops17 (opA a) with e|e|e|e|e|e|e|e|e|e|e|e|e|e|e|e|e|e
 · exact act_1 σ a e
 · exact act_2 σ a e
 · exact act_3 σ a e
 · exact act_4 σ a e
 · exact act_5 σ a e
 · exact act_6 σ a e
 · exact act_7 σ a e
 · exact act_8 σ a e
 · exact act_9 σ a e
 · exact zhY σ a e
 · exact zhZ σ a e
 · exact zi0 σ a e
 · exact zi1 σ a e
 · exact zi2 σ a e
 · exact zi3 σ a e
 · exact zi4 σ a e
 · exact zi5 σ a e
 · omega
theorem z_all:emS ⟨#[]⟩=true∧emU 0=true∧emI 0=true∧noBd (false,0,0)=true∧noRl noRu=true∧zF 0=true∧idR 0=true∧clkB 0=true∧staR 0=true∧listB []=true:=by decide +kernel
theorem zi6 {n:Int} (h0:0≤n) (h1:n≤6):tokB (tokOf n)=true:=by
 have e:inD n 0 7=n:=by unfold inD;rw[if_pos (by omega)]
 unfold tokOf;rw[e];obtain⟨k,rfl⟩:=Int.eq_ofNat_of_zero_le h0;have:k<7:=by omega
 match k,this with
 |0,_|1,_|2,_|3,_|4,_|5,_|6,_=>decide +kernel
theorem id_ok (n lo hi:Int) (h0:0≤lo) (h:lo≤hi) (h1:hi≤2147483647):idR (inD n lo hi)=true:=by
 have:=z4n n lo hi h;unfold idR;simp only[Bool.and_eq_true,decide_eq_true_eq];omega
theorem z6N (n lo hi:Int) (h:lo≤hi):lo≤emodW n lo hi∧emodW n lo hi≤hi:=by
 unfold emodW;have h3:=Int.emod_nonneg n (show hi-lo+1≠0 by omega)
 have h4:=Int.emod_lt_of_pos n (show 0<hi-lo+1 by omega)
 omega
theorem zfD (n k:Nat) (h:0<k) (h1:k≤1099511627776):clkB (n%k)=true:=by
 have:=Nat.mod_lt n h;unfold clkB;exact decide_eq_true (by omega)
theorem zi7 (n:Int):staR (inD n 0 3)=true:=by
 have:=z4n n 0 3 (by decide)
 unfold staR;simp only[Bool.and_eq_true,decide_eq_true_eq];omega
theorem zf3 (a:AcM):(z08 a).op=opA a:=by
 unfold z08;simp only
 repeat' split
 all_goals rfl
set_option maxHeartbeats 4000000 in
theorem zdB (a:AcM):mayR (z08 a)=true:=by
 have hr:=z8G a;obtain⟨z1,z2,z3,z4,z5,z6,z7,z8,z9,z10⟩:=z_all;have i20:=id_ok a.id 0 20 (by decide) (by decide) (by decide)
 have i7:=id_ok a.id 0 7 (by decide) (by decide) (by decide)
 have i13:=id_ok a.id 0 13 (by decide) (by decide) (by decide)
 have tk:=zi6 (z6N a.sta 0 6 (by decide)).1 (z6N a.sta 0 6 (by decide)).2
 have c1:=zfD a.st 60 (by decide) (by decide)
 have c2:=zfD a.en 90 (by decide) (by decide)
 have s3:=zi7 a.sta;obtain⟨m1,m2,_⟩:=z61 a.ds;have m3:emI (mustL true (z0y a.ds [])).length=false:=m2;have m4:listB (mustL false (z0y a.ds []))=true:=z6L a.ds;have bm:=zay a.sel a.lo a.hi;have ri:=zeG a.ru;have ls:=z7w a.ns;unfold mayR;rw[zf3];unfold z08 baseR silR z4E;generalize emodW a.sta 0 6=q1 at tk⊢;generalize inD a.id 0 20=v20 at i20⊢;generalize inD a.id 0 7=v7 at i7⊢;generalize inD a.id 0 13=v13 at i13⊢;generalize inD a.sta 0 3=v3 at s3⊢;generalize mustL true (z0y a.ds [])=M at m1 m3⊢;generalize mustL false (z0y a.ds [])=M' at m4⊢;generalize z0Z a.sel a.lo a.hi=bd at bm⊢;generalize z3U a.ru=ru at ri⊢;generalize z29 a.ns=L at ls⊢;generalize opA a=op at hr⊢;generalize tokOf (inD a.who 0 6)=tok0;rcases ops17 op with e|e|e|e|e|e|e|e|e|e|e|e|e|e|e|e|e|e
 · have hf:fOf op=(0,true):=by rw[e];rfl
   rw[hf];simp[e,zeroB,z0i,hs_0,x0,z1,z2,z3,z4,z5,z6,z7,z8,z9,z10,i20,i7,i13,tk,c1,c2,s3,m1,m3,m4,bm,ri,ls]
 · have hf:fOf op=(1,true):=by rw[e];rfl
   rw[hf];simp[e,zeroB,z0i,hs_1,x0,z1,z2,z3,z4,z5,z6,z7,z8,z9,z10,i20,i7,i13,tk,c1,c2,s3,m1,m3,m4,bm,ri,ls]
 · have hf:fOf op=(3,true):=by rw[e];rfl
   rw[hf];simp[e,zeroB,z0i,hs_3,x0,z1,z2,z3,z4,z5,z6,z7,z8,z9,z10,i20,i7,i13,tk,c1,c2,s3,m1,m3,m4,bm,ri,ls]
 · have hf:fOf op=(3,true):=by rw[e];rfl
   rw[hf];simp[e,zeroB,z0i,hs_3,x0,z1,z2,z3,z4,z5,z6,z7,z8,z9,z10,i20,i7,i13,tk,c1,c2,s3,m1,m3,m4,bm,ri,ls]
 · have hf:fOf op=(116,true):=by rw[e];rfl
   rw[hf];simp[e,zeroB,z0i,z8q,x0,z1,z2,z3,z4,z5,z6,z7,z8,z9,z10,i20,i7,i13,tk,c1,c2,s3,m1,m3,m4,bm,ri,ls]
 · have hf:fOf op=(117,true):=by rw[e];rfl
   rw[hf];simp[e,zeroB,z0i,z8r,x0,z1,z2,z3,z4,z5,z6,z7,z8,z9,z10,i20,i7,i13,tk,c1,c2,s3,m1,m3,m4,bm,ri,ls]
 · have hf:fOf op=(1,true):=by rw[e];rfl
   rw[hf];simp[e,zeroB,z0i,hs_1,x0,z1,z2,z3,z4,z5,z6,z7,z8,z9,z10,i20,i7,i13,tk,c1,c2,s3,m1,m3,m4,bm,ri,ls]
 · have hf:fOf op=(8,true):=by rw[e];rfl
   rw[hf];simp[e,zeroB,z0i,hs_8,x0,z1,z2,z3,z4,z5,z6,z7,z8,z9,z10,i20,i7,i13,tk,c1,c2,s3,m1,m3,m4,bm,ri,ls]
 · have hf:fOf op=(128,true):=by rw[e];rfl
   rw[hf];simp[e,zeroB,z0i,z8s,x0,z1,z2,z3,z4,z5,z6,z7,z8,z9,z10,i20,i7,i13,tk,c1,c2,s3,m1,m3,m4,bm,ri,ls]
 · have hf:fOf op=(1,true):=by rw[e];rfl
   rw[hf];simp[e,zeroB,z0i,hs_1,x0,z1,z2,z3,z4,z5,z6,z7,z8,z9,z10,i20,i7,i13,tk,c1,c2,s3,m1,m3,m4,bm,ri,ls]
 · have hf:fOf op=(768,true):=by rw[e];rfl
   rw[hf];simp[e,zeroB,z0i,z8t,x0,z1,z2,z3,z4,z5,z6,z7,z8,z9,z10,i20,i7,i13,tk,c1,c2,s3,m1,m3,m4,bm,ri,ls]
 · have hf:fOf op=(1,true):=by rw[e];rfl
   rw[hf];simp[e,zeroB,z0i,hs_1,x0,z1,z2,z3,z4,z5,z6,z7,z8,z9,z10,i20,i7,i13,tk,c1,c2,s3,m1,m3,m4,bm,ri,ls]
 · have hf:fOf op=(16,true):=by rw[e];rfl
   rw[hf];simp[e,zeroB,z0i,hs_16,x0,z1,z2,z3,z4,z5,z6,z7,z8,z9,z10,i20,i7,i13,tk,c1,c2,s3,m1,m3,m4,bm,ri,ls]
 · have hf:fOf op=(0,true):=by rw[e];rfl
   rw[hf];simp[e,zeroB,z0i,hs_0,x0,z1,z2,z3,z4,z5,z6,z7,z8,z9,z10,i20,i7,i13,tk,c1,c2,s3,m1,m3,m4,bm,ri,ls]
 · have hf:fOf op=(1,true):=by rw[e];rfl
   rw[hf];simp[e,zeroB,z0i,hs_1,x0,z1,z2,z3,z4,z5,z6,z7,z8,z9,z10,i20,i7,i13,tk,c1,c2,s3,m1,m3,m4,bm,ri,ls]
 · have hf:fOf op=(0,true):=by rw[e];rfl
   rw[hf];simp[e,zeroB,z0i,hs_0,x0,z1,z2,z3,z4,z5,z6,z7,z8,z9,z10,i20,i7,i13,tk,c1,c2,s3,m1,m3,m4,bm,ri,ls]
 · have hf:fOf op=(0,true):=by rw[e];rfl
   rw[hf];simp[e,zeroB,z0i,hs_0,x0,z1,z2,z3,z4,z5,z6,z7,z8,z9,z10,i20,i7,i13,tk,c1,c2,s3,m1,m3,m4,bm,ri,ls]
 · omega
end Go.Proofs.YteakobbdgehlgaaGreatDoor
namespace Go.Proofs.YteakobbdgehlgaaGreatDoor
open Go Go.Ab Go.Cod Go.ChangeShapes Go.WideShapes Go.ChangeAt Go.RowKit
set_option maxRecDepth 100000
structure ActSz (a:AcM):Prop where
 val:a.val<2^64
 bd:a.lo<2^64∧a.hi<2^64
 ru:a.ru.lo<2^64∧a.ru.hi<2^64
theorem wf64i {n:Int} (h:(Lit.int .u64 n).wf=true):0≤n∧n<18446744073709551616:=by
 simp[Lit.wf,IntKind.min,IntKind.max,IntKind.bits,IntKind.signed]at h;omega
def QBytA:List AV→Prop:=fun xs=>∃b:Byt,xs=[.sl 1 (byv b)]
theorem z6O (f:Nat):Reads Tryz.prog 29 f QBytA:=by
 cases f with
 |zero=>exact Reads.zero
 |succ f =>
  refine((Reads.slice (sz:=1) false Tryz.underlying29 (by kernel_rfl) (by decide) (Reads.int Tryz.underlying5 f) (fun y hy _=>by obtain⟨n,_,rfl⟩:=hy;rfl)).weak QSlice.weak).mono fun xs hq=>?_
  obtain⟨ys,h1,h2,rfl⟩:=hq;obtain⟨b,e⟩:=zd7 h1;exact⟨b,by rw[e]⟩
def QAct:List AV→Prop:=fun xs=>∃a:AcM,ActSz a∧xs=acC a
theorem zdC (f:Nat):Reads Tryz.prog 43 f QAct:=by
 cases f with
 |zero=>exact Reads.zero
 |succ f =>
  have h:=Reads.struct (P:=Tryz.prog) (t:=43) (f:=f) (Qs:=[QInt .i64,QInt .i64,QInt .i64,QInt .i64,QInt .u64,QInt .u64,QMats,QInts,z9B,QDRuW,z7s,QBytA]) Tryz.underlying43 (by kernel_rfl) rfl (by
   intro p hp;simp only[List.zip_cons_cons,List.zip_nil_right,List.mem_cons,List.not_mem_nil,or_false]at hp;rcases hp with rfl|rfl|rfl|rfl|rfl|rfl|rfl|rfl|rfl|rfl|rfl|rfl
   · exact Reads.int Tryz.underlying3 f
   · exact Reads.int Tryz.underlying3 f
   · exact Reads.int Tryz.underlying3 f
   · exact Reads.int Tryz.underlying3 f
   · exact Reads.int Tryz.underlying28 f
   · exact Reads.int Tryz.underlying28 f
   · exact z4C f
   · exact z6K f
   · exact z4Q f
   · exact z8C f
   · exact Reads.floatW Tryz.underlying37 f
   · exact z6O f)
  refine h.mono fun xs hq=>?_
  obtain⟨_,_,rfl,⟨what,_,rfl⟩,_,_,rfl,⟨who,_,rfl⟩,_,_,rfl,⟨id,_,rfl⟩,_,_,rfl,⟨sta,_,rfl⟩,_,_,rfl,⟨st,hst,rfl⟩,_,_,rfl,⟨en,hen,rfl⟩,
   _,_,rfl,⟨ds,hd,rfl⟩,_,_,rfl,⟨ns,rfl⟩,_,_,rfl,⟨sel,lo,hi,h1,h2,rfl⟩,_,_,rfl,⟨ru,h3,h4,rfl⟩,_,_,rfl,⟨val,hv,rfl⟩,_,_,rfl,⟨raw,rfl⟩,rfl⟩:=hq
  obtain⟨a1,a2⟩:=wf64i hst;obtain⟨b1,b2⟩:=wf64i hen;obtain⟨n,rfl⟩:=Int.eq_ofNat_of_zero_le a1;obtain⟨m,rfl⟩:=Int.eq_ofNat_of_zero_le b1;exact⟨⟨what,who,id,sta,n,m,ds,ns,sel,lo,hi,ru,val,raw,hd,by omega,by omega⟩,⟨hv,⟨h1,h2⟩,⟨h3,h4⟩⟩,rfl⟩
end Go.Proofs.YteakobbdgehlgaaGreatDoor
namespace Go.Proofs.YteakobbdgehlgaaGreatDoor
open Go Go.Ab Go.Cod
set_option maxRecDepth 100000
def putC (r:ReM) (c:UInt8):Byt :=
 if c=73 then putN r.id.toNat else if c=84 then txtB r.txt else if c=83 then putN r.st else if c=69 then putN r.en else if c=90 then[opC r.sta]
 else if c=77 then z3k r.mt else if c=66 then putBd (r.any,r.lo,r.hi) else if c=82 then z1O r.ru else if c=76 then z3l r.ls else if c=86 then putV r.val else[]
def preC (r:ReM) (s:ByteArray) (i:Nat):Byt:=opC r.op::(s.data.toList.take i).flatMap (putC r)
def z0X (c:UInt8):Prop:=c=73∨c=84∨c=83∨c=69∨c=90∨c=77∨c=66∨c=82∨c=76∨c=86∨c=45
theorem z8H (r:ReM) (s:ByteArray) (i:Nat) (h:i<s.data.toList.length):preC r s (i+1)=preC r s i++putC r s.data.toList[i]:=by
 unfold preC;rw[List.take_succ_eq_append_getElem h,List.flatMap_append];simp
theorem zi8 {r:ReM} (h:mayR r=true):(∀c∈(dOf r.op).data.toList,z0X c)∧(dOf r.op).size≤5∧preC r (dOf r.op) (dOf r.op).size=z0E (fOf r.op).1 r:=by
 have hop:1≤r.op∧r.op≤17:=by
  have:(fOf r.op).2=true:=by unfold mayR at h;simp only[Bool.and_eq_true]at h;exact h.1
  unfold fOf at this;split at this
  · assumption
  · cases this
 have key:∀(s:ByteArray) (f:Int),dOf r.op=s→(fOf r.op).1=f→((∀c∈s.data.toList,z0X c)∧s.size≤5∧preC r s s.size=z0E f r) →
   (∀c∈(dOf r.op).data.toList,z0X c)∧(dOf r.op).size≤5∧preC r (dOf r.op) (dOf r.op).size=z0E (fOf r.op).1 r:=by
  intro s f h1 h2 h3;rw[h1,h2];exact h3
 have a0:(∀c∈S0.data.toList,z0X c)∧S0.size≤5∧preC r S0 S0.size=z0E 0 r:=⟨by unfold z0X;decide,by decide,by show preC r S0 1=z0E 0 r;simp[preC,z0E,putB2,putB1,layF,hs_0,putC]⟩
 have a1:(∀c∈S1.data.toList,z0X c)∧S1.size≤5∧preC r S1 S1.size=z0E 1 r:=⟨by unfold z0X;decide,by decide,by show preC r S1 1=z0E 1 r;simp[preC,z0E,putB2,putB1,layF,hs_1,putC]⟩
 have a3:(∀c∈S3.data.toList,z0X c)∧S3.size≤5∧preC r S3 S3.size=z0E 3 r:=⟨by unfold z0X;decide,by decide,by show preC r S3 2=z0E 3 r;simp[preC,z0E,putB2,putB1,layF,hs_3,putC]⟩
 have a116:(∀c∈S116.data.toList,z0X c)∧S116.size≤5∧preC r S116 S116.size=z0E 116 r:=⟨by unfold z0X;decide,by decide,by show preC r S116 4=z0E 116 r;simp[preC,z0E,putB2,putB1,layF,z8q,putC]⟩
 have a117:(∀c∈S117.data.toList,z0X c)∧S117.size≤5∧preC r S117 S117.size=z0E 117 r:=⟨by unfold z0X;decide,by decide,by show preC r S117 5=z0E 117 r;simp[preC,z0E,putB2,putB1,layF,z8r,putC]⟩
 have a8:(∀c∈S8.data.toList,z0X c)∧S8.size≤5∧preC r S8 S8.size=z0E 8 r:=⟨by unfold z0X;decide,by decide,by show preC r S8 1=z0E 8 r;simp[preC,z0E,putB2,putB1,layF,hs_8,putC]⟩
 have a128:(∀c∈S128.data.toList,z0X c)∧S128.size≤5∧preC r S128 S128.size=z0E 128 r:=⟨by unfold z0X;decide,by decide,by show preC r S128 1=z0E 128 r;simp[preC,z0E,putB2,putB1,layF,z8s,putC]⟩
 have a768:(∀c∈S768.data.toList,z0X c)∧S768.size≤5∧preC r S768 S768.size=z0E 768 r:=⟨by unfold z0X;decide,by decide,by show preC r S768 2=z0E 768 r;simp[preC,z0E,putB2,putB1,layF,z8t,putC]⟩
 have a16:(∀c∈S16.data.toList,z0X c)∧S16.size≤5∧preC r S16 S16.size=z0E 16 r:=⟨by unfold z0X;decide,by decide,by show preC r S16 1=z0E 16 r;simp[preC,z0E,putB2,putB1,layF,hs_16,putC]⟩
 rcases ops17 r.op with e|e|e|e|e|e|e|e|e|e|e|e|e|e|e|e|e|e
 all_goals first
  |omega
  |exact key S0 0 (by rw[e];rfl) (by rw[e];rfl) a0
  |exact key S1 1 (by rw[e];rfl) (by rw[e];rfl) a1
  |exact key S3 3 (by rw[e];rfl) (by rw[e];rfl) a3
  |exact key S116 116 (by rw[e];rfl) (by rw[e];rfl) a116
  |exact key S117 117 (by rw[e];rfl) (by rw[e];rfl) a117
  |exact key S8 8 (by rw[e];rfl) (by rw[e];rfl) a8
  |exact key S128 128 (by rw[e];rfl) (by rw[e];rfl) a128
  |exact key S768 768 (by rw[e];rfl) (by rw[e];rfl) a768
  |exact key S16 16 (by rw[e];rfl) (by rw[e];rfl) a16
theorem zaK {r:ReM} (h:BdOk r) (c:UInt8):(putC r c).length≤100000:=by
 have p1:=z0v (n:=r.id.toNat) (by have:=h.id1;omega)
 have p2:=z1N r.txt (by have:=h.txt;omega)
 have p3:=z0v (n:=r.st) (by have:=h.st;omega)
 have p4:=z0v (n:=r.en) (by have:=h.en;omega)
 have p5:=(z8B h.mt).2;have p6:=z5Z (r.any,r.lo,r.hi);have p7:=zgE r.ru;have p8:=zdw r.ls;have p9:(putV r.val).length=8:=wrdB_len _;have p10:=h.txt;simp only[List.flatten_cons,List.flatten_nil,List.append_nil]at p5 p7 p8;unfold putC
 repeat' split
 all_goals first|omega|simp
theorem zaL {r:ReM} (h:BdOk r) (s:ByteArray):∀i,i≤s.data.toList.length→(preC r s i).length≤1+100000*i
 |0,_=>by simp[preC]
 |i+1,hi=>by
  have ih:=zaL h s i (by omega)
  have:=zaK h s.data.toList[i];rw[z8H r s i (by omega),List.length_append]
  omega
section
variable (σ:St)
set_option maxHeartbeats 8000000 in
theorem zdD (r:ReM) (hsm:ReSm r):Ans Tryz.prog 46 [reV r] σ (.sl 1 (byv (z65 r))) σ:=by
 have hi:=fun s=>zbF s r hsm
 unfold z65
 cases hM:mayR r with
 |false =>
  have:Ans Tryz.prog 46 [reV r] σ .nils σ:=by
   refine Ans.of_run t46 ?_;unfold reV reC at hi⊢;simp -implicitDefEqProofs only[c46,r46,go_sem];refine CO.intro (hi _) ?_;rw[hM];simp -implicitDefEqProofs only[go_sem];exact Fini.ret rfl
  exact this.subR (.nils 1)
 |true =>
  have hok:=bd_ok hM;obtain⟨hlet,hsz,hend⟩:=zi8 hM;rw[if_pos rfl,←hend];have hf:=fun s=>z0V s r.op
  have hpl:=zaL hok (dOf r.op);have hcl:=zaK hok;have hsucc:=z8H r (dOf r.op);have hzero:preC r (dOf r.op) 0=[opC r.op]:=by simp[preC]
  have hss:=z23 (dOf r.op);generalize dOf r.op=s at *;obtain⟨op0,op1,id0,id1,htx,hst,hen,sta0,sta1,hmt,hru,hls⟩:=hok;have m1:=fun s=>z7q s r.id.toNat (by omega)
  have m2:=fun s=>z1G s r.txt (by omega)
  have m3:=fun s=>z7q s r.st (by omega)
  have m4:=fun s=>z7q s r.en (by omega)
  have m5:=fun s=>z6G s r.mt hsm.mt
  have m6:=fun s=>z3F s (r.any,r.lo,r.hi)
  have m7:=fun s=>z8y s r.ru hsm.ru
  have m8:=fun s=>z9A s r.ls hsm.ls
  have m9:=fun s=>z0O s r.val
  have mA:=fun s=>z2a s (bitsF r.val)
  have w1:IntKind.u64.wrap r.id=((r.id.toNat:Nat):Int):=by
   rw[show r.id=((r.id.toNat:Nat):Int) from by omega,z1v (by omega)];rfl
  have w2:=zaG op0 op1;have w3:=zaG sta0 (by omega)
  have c78:putC r 73=putN r.id.toNat:=rfl;have c23:putC r 84=txtB r.txt:=rfl;have c98:putC r 83=putN r.st:=rfl;have c69:putC r 69=putN r.en:=rfl;have c119:putC r 90=[opC r.sta]:=rfl;have c77:putC r 77=z3k r.mt:=rfl;have c65:putC r 66=putBd (r.any,r.lo,r.hi):=rfl;have c70:putC r 82=z1O r.ru:=rfl;have c53:putC r 76=z3l r.ls:=rfl;have c163:putC r 86=putV r.val:=rfl;have c75:putC r 45=[]:=rfl;have hl45:=hcl 45;clear hmt hru hls hend;obtain⟨tok,op,id,txt,st,en,sta,mt,any,lo,hi',⟨src,tgt,ra,rl,rh,eq⟩,ls,val⟩:=r;simp only at m1 m2 m3 m4 m5 m6 m7 m8 m9 mA w1 w2 w3 hf c78 c23 c98 c69 c119 c77 c65 c70 c53 c163 hzero;refine Ans.of_run' t46 (fun hbel _=>?_)
  unfold reV reC at hi⊢;unfold bandV at m6;unfold ruV at m7;simp -implicitDefEqProofs only[c46,r46,go_sem];refine CO.intro (hi _) ?_;rw[hM];simp -implicitDefEqProofs only[go_sem];refine CO.intro (hf _) ?_;simp -implicitDefEqProofs only[go_sem,w2,g0,s0];generalize hR:({ tok:=tok,op:=op,id:=id,txt:=txt,st:=st,en:=en,sta:=sta,mt:=mt,any:=any,lo:=lo,hi:=hi',ru:={ src:=src,tgt:=tgt,any:=ra,lo:=rl,hi:=rh,eq:=eq },ls:=ls,val:=val }:ReM)=R at *;refine Go.Ab.L.count s.size (fun i=>mkE 99 [(1,.rp [Sx tok,I op,I id,Sx txt,UN st,UN en,I sta,mlV mt,Bo any,Fl lo,Fl hi',mlV src,mlV tgt,Bo ra,Fl rl,Fl rh,.sl 1 (txs eq),lsV ls,Fl val]),(3,Sx s),(4,.osl σ.length (preC R s i).length),(5,I i)]) (fun i=>σ++[.row 1 (byv (preC R s i))]) ?_ ?_ (by rw[hzero];rfl) (by rw[hzero];rfl)
  · intro i hi0 J hJ;have hil:i<s.data.toList.length:=by omega
    have hp:=hpl i (by omega)
    have hc:=hlet s.data.toList[i] (List.getElem_mem hil)
    have hx:byteAt s i=(s.data.toList[i]).toNat:=by
     unfold byteAt;rw[List.getD_eq_getElem?_getD,List.getElem?_eq_getElem hil,Option.getD_some]
    rw[hsucc i hil,List.length_append]at hJ;have hcl:=hcl s.data.toList[i];generalize s.data.toList[i]=c at hx hc hJ hcl;generalize preC R s i=pre at hJ hp⊢;have hin:=wrap_succ (i:=i) (by omega)
    unfold z0X at hc;rcases hc with rfl|rfl|rfl|rfl|rfl|rfl|rfl|rfl|rfl|rfl|rfl
    · rw[c78]at hJ hcl;have hb:((byteAt s i:Nat):Int)=73:=by rw[hx];rfl
      have q1:pre.length+(putN id.toNat).length≤4294967296:=by omega
      simp -implicitDefEqProofs only[mkE,go_sem,z0b hi0,dec_lt hi0,hb,z06,w1];refine CO.intro (m1 _) ?_;simp -implicitDefEqProofs only[go_sem,g0,s0,z05,z0A,bc,q1,hin];simp only[z0p]at hJ;exact hJ
    · rw[c23]at hJ hcl;have hb:((byteAt s i:Nat):Int)=84:=by rw[hx];rfl
      have q1:pre.length+(txtB txt).length≤4294967296:=by omega
      simp -implicitDefEqProofs only[mkE,go_sem,z0b hi0,dec_lt hi0,hb,z06,w1];refine CO.intro (m2 _) ?_;simp -implicitDefEqProofs only[go_sem,g0,s0,z05,z0A,bc,q1,hin];simp only[z0p]at hJ;exact hJ
    · rw[c98]at hJ hcl;have hb:((byteAt s i:Nat):Int)=83:=by rw[hx];rfl
      have q1:pre.length+(putN st).length≤4294967296:=by omega
      simp -implicitDefEqProofs only[mkE,go_sem,z0b hi0,dec_lt hi0,hb,z06,w1];refine CO.intro (m3 _) ?_;simp -implicitDefEqProofs only[go_sem,g0,s0,z05,z0A,bc,q1,hin];simp only[z0p]at hJ;exact hJ
    · rw[c69]at hJ hcl;have hb:((byteAt s i:Nat):Int)=69:=by rw[hx];rfl
      have q1:pre.length+(putN en).length≤4294967296:=by omega
      simp -implicitDefEqProofs only[mkE,go_sem,z0b hi0,dec_lt hi0,hb,z06,w1];refine CO.intro (m4 _) ?_;simp -implicitDefEqProofs only[go_sem,g0,s0,z05,z0A,bc,q1,hin];simp only[z0p]at hJ;exact hJ
    · rw[c119]at hJ hcl;have hb:((byteAt s i:Nat):Int)=90:=by rw[hx];rfl
      have q1:pre.length+1≤4294967296:=by omega
      simp -implicitDefEqProofs only[mkE,go_sem,z0b hi0,dec_lt hi0,hb,z06,w3,g0,s0,z05,z0A,bc,q1,hin];simp only[z0p]at hJ;exact hJ
    · rw[c77]at hJ hcl;have hb:((byteAt s i:Nat):Int)=77:=by rw[hx];rfl
      have q1:pre.length+(z3k mt).length≤4294967296:=by omega
      simp -implicitDefEqProofs only[mkE,go_sem,z0b hi0,dec_lt hi0,hb,z06,w1];refine CO.intro (m5 _) ?_;simp -implicitDefEqProofs only[go_sem,g0,s0,z05,z0A,bc,q1,hin];simp only[z0p]at hJ;exact hJ
    · rw[c65]at hJ hcl;have hb:((byteAt s i:Nat):Int)=66:=by rw[hx];rfl
      have q1:pre.length+(putBd (any,lo,hi')).length≤4294967296:=by omega
      simp -implicitDefEqProofs only[mkE,go_sem,z0b hi0,dec_lt hi0,hb,z06,w1];refine CO.intro (m6 _) ?_;simp -implicitDefEqProofs only[go_sem,g0,s0,z05,z0A,bc,q1,hin];simp only[z0p]at hJ;exact hJ
    · rw[c70]at hJ hcl;have hb:((byteAt s i:Nat):Int)=82:=by rw[hx];rfl
      have q1:pre.length+(z1O ⟨src,tgt,ra,rl,rh,eq⟩).length≤4294967296:=by omega
      simp -implicitDefEqProofs only[mkE,go_sem,z0b hi0,dec_lt hi0,hb,z06,w1];refine CO.intro (m7 _) ?_;simp -implicitDefEqProofs only[go_sem,g0,s0,z05,z0A,bc,q1,hin];simp only[z0p]at hJ;exact hJ
    · rw[c53]at hJ hcl;have hb:((byteAt s i:Nat):Int)=76:=by rw[hx];rfl
      have q1:pre.length+(z3l ls).length≤4294967296:=by omega
      simp -implicitDefEqProofs only[mkE,go_sem,z0b hi0,dec_lt hi0,hb,z06,w1];refine CO.intro (m8 _) ?_;simp -implicitDefEqProofs only[go_sem,g0,s0,z05,z0A,bc,q1,hin];simp only[z0p]at hJ;exact hJ
    · rw[c163]at hJ hcl;have hb:((byteAt s i:Nat):Int)=86:=by rw[hx];rfl
      have q1:pre.length+(wrdB (bitsF val)).length≤4294967296:=by have:(wrdB (bitsF val)).length=8:=wrdB_len _;omega
      simp -implicitDefEqProofs only[mkE,go_sem,z0b hi0,dec_lt hi0,hb,z06,w1];refine CO.intro (m9 _) ?_;simp -implicitDefEqProofs only[go_sem];refine CO.intro (mA _) ?_;simp -implicitDefEqProofs only[go_sem,g0,s0,z05,z0A,bc,q1,hin];unfold putV at hJ;simp only[z0p]at hJ;exact hJ
    · rw[c75]at hJ;have hb:((byteAt s i:Nat):Int)=45:=by rw[hx];rfl
      simp -implicitDefEqProofs only[mkE,go_sem,z0b hi0,dec_lt hi0,hb,z06,hin];simp only[List.append_nil,List.length_nil,Nat.add_zero]at hJ;exact hJ
  · intro J;have d0:decide ((s.size:Int)<s.size)=false:=by simp
    simp -implicitDefEqProofs only[mkE,go_sem,d0,g0,s0,z05];exact Fini.trim2 (σ':=σ) (ex:=[_]) rfl rfl (Nat.le_refl _) (z1x _ _) hbel
end
end Go.Proofs.YteakobbdgehlgaaGreatDoor
namespace Go.Proofs.YteakobbdgehlgaaGreatDoor
open Go Go.Ab Go.Cod Go.ChangeShapes Go.WideShapes Go.ChangeAt Go.RowKit
set_option maxRecDepth 100000
theorem zgL (r:RuM):([z1O r]:List Byt).flatten.length≤2000:=by
 unfold z1O
 cases h:ruIs r with
 |false=>simp
 |true =>
  have hp:=z56 h r.eq.length (Nat.le_refl _);have hl:=(z1Y h).2.2.2.1;rw[z7l]at hp;simp;omega
theorem z9E (r:ReM):(z65 r).length≤4000:=by
 unfold z65
 cases hM:mayR r with
 |false=>exact Nat.zero_le _
 |true =>
  obtain⟨op0,op1,id0,id1,htx,hst,hen,sta0,sta1,hmt,hru,hls⟩:=bd_ok hM;rw[if_pos rfl];unfold z0E putB2 putB1;have f1:∀b:Byt,([b]:List Byt).flatten=b:=fun b=>by simp
  have f2:∀b c:Byt,([b,c]:List Byt).flatten.length=b.length+c.length:=fun b c=>by simp
  refine Nat.le_trans (z2h (n:=3600) (m:=8) (z2h (n:=2600) (m:=1000) (z2h (n:=600) (m:=2000) (z2h (n:=583) (m:=17) (z2h (n:=73) (m:=510) (z2h (n:=72) (m:=1) (z2h (n:=52) (m:=20) (z2h (n:=12) (m:=40) (z2h (n:=2) (m:=10) (by simp) ?_) ?_) ?_) ?_) ?_) ?_) ?_) ?_) ?_) (by decide)<;>intro _
  · rw[f1];exact z0v (by omega)
  · rw[f1];have:=z1N r.txt (by omega);omega
  · rw[f2];have:=z0v (n:=r.st) (by omega);have:=z0v (n:=r.en) (by omega);omega
  · simp
  · exact(z8B hmt).2
  · rw[f1];exact z5Z _
  · exact zgL _
  · exact zdw _
  · rw[f1];exact Nat.le_of_eq (wrdB_len _)
theorem zi9 {x:ReM} (h:mayR x=true):ReSm x:=by
 unfold mayR zeroB z0i at h;generalize (fOf x.op).1=f at h;simp only[Bool.and_eq_true]at h;obtain⟨_,⟨_,_,_,_,_,_,z7,z8,_⟩,_,_,_,_,_,r6,_,_,r9,r10⟩:=h;refine⟨fun m hm=>by have:=(z3c r6).2 m hm;omega,?_,?_⟩
 · cases h128:hasF f 128 with
   |true =>
    rw[h128]at r9;obtain⟨q1,q2,q3,q4,q5⟩:=z1Y (show ruIs x.ru=true from r9)
    exact⟨fun m hm=>by have:=(z3c q1).2 m hm;omega,fun m hm=>by have:=(z3c q2).2 m hm;omega,fun s hs=>by have:=q5 s hs;omega⟩
   |false =>
    rw[h128]at z7;have:=(zf0 x.ru).1 z7;rw[this];exact⟨fun _ h=>(by cases h),fun _ h=>(by cases h),fun _ h=>(by cases h)⟩
 · intro l hl
   cases h256:hasF f 256 with
   |true =>
    rw[h256]at r10;have:=(z4D (show setB x.ls=true from r10)).2 l hl
    omega
   |false =>
    rw[h256]at z8;have:=zf1 (show emI x.ls.length=true from z8)
    rw[List.length_eq_zero_iff.1 this]at hl;cases hl
section
variable {H:Type} {enc:TypeId×Value→H} {W:World} {base:Nat} {v:Value} {d:DataW H} {ps:List MemPlace}
end
end Go.Proofs.YteakobbdgehlgaaGreatDoor
namespace Go.Proofs.YteakobbdgehlgaaGreatDoor
open Go Go.Ab Go.Cod
set_option maxRecDepth 100000
def recOf (ix:Int) (ck:Nat) (a:AcM) (cd:Int):RcM:=⟨ix,ck,z65 (z08 a),cd⟩
end Go.Proofs.YteakobbdgehlgaaGreatDoor
namespace Go.Proofs.YteakobbdgehlgaaGreatDoor
open Go Go.Ab Go.Cod
open Sha (txtR expB shaB z0s genB linkB z0x ChM z0f addCh takes boxC rowC z2X)
set_option maxRecDepth 100000
attribute [local irreducible] Sha.shaB
structure StM where
 gap:Nat
 a:AcM
 cd:Nat
def noSt:StM:=⟨0,⟨0,0,0,0,0,0,[],[],0,0,0,⟨[],[],0,0,0,[],by decide,by decide⟩,0,[],by decide,by decide,by decide⟩,0⟩
def chZ (n:Nat) (c:ChM):St:=match c.L with
 |[]=>[boxC 0 c]
 |r::_=>[boxC (n+2) c,.box (rcC r),.row 4 (c.L.map rcV)]
end Go.Proofs.YteakobbdgehlgaaGreatDoor
namespace Go.Proofs.YteakobbdgehlgaaGreatDoor
open Go Go.Ab Go.Cod
open Sha (txtR expB shaB z0s genB linkB z0x ChM z0f addCh takes boxC rowC z2X z0u kV z3u z3V newCh)
set_option maxRecDepth 100000
attribute [local irreducible] Sha.shaB
theorem z9F (n:Nat) (m:Int) (h:Byt):chZ n ⟨m,[],h⟩=[boxC 0 ⟨m,[],h⟩]:=rfl
theorem z2B (n:Nat) (m:Int) (r:RcM) (L:List RcM) (h:Byt):chZ n ⟨m,r::L,h⟩=[boxC (n+2) ⟨m,r::L,h⟩,.box (rcC r),.row 4 ((r::L).map rcV)]:=rfl
section
variable (σ:St)
theorem add_Z (c:ChM) (hh:c.head.length=32) (hL:c.L.length≤1000) (ck:Nat) (bd:Byt) (cd:Int) (hne:bd≠[]) (hbl:bd.length≤40000) (hg:gloA σ 0=some kV) :
  Ans Tryz.prog 16 [.ptr σ.length 0,UN ck,.sl 1 (byv bd),I cd] (σ++chZ σ.length c) (Bo (takes c ck bd cd)) (σ++chZ σ.length (if takes c ck bd cd then addCh c (z0f c ck bd cd) else c)):=by
 obtain⟨m,L,hd⟩:=c;simp only at hh hL
 cases L with
 |nil =>
  have h:=z3u (σ++[boxC 0 ⟨m,[],hd⟩]) σ.length m hd hh ck bd cd (by rw[List.getElem?_append_right (Nat.le_refl _)];simp) (by simp) hne hbl (z0u hg _)
  have e:(!decide (m≤0)&&rcIs (z0f ⟨m,[],hd⟩ ck bd cd))=takes ⟨m,[],hd⟩ ck bd cd:=by
   unfold takes;have:decide ((ck:Int)<((z2X ⟨m,[],hd⟩:Nat):Int))=false:=decide_eq_false (by show ¬(ck:Int)<((0:Nat):Int);omega)
   rw[this,Bool.not_false,Bool.and_true];rfl
  rw[e]at h;rw[z9F]
  cases ht:takes ⟨m,[],hd⟩ ck bd cd with
  |false =>
   rw[ht]at h;simp only[Bool.false_eq_true,if_false]at h⊢;rw[z9F];exact h
  |true =>
   rw[ht]at h;simp only[if_true]at h⊢;have e2:addCh ⟨m,[],hd⟩ (z0f ⟨m,[],hd⟩ ck bd cd)=⟨m,[z0f ⟨m,[],hd⟩ ck bd cd],shaB (linkB hd (z0B (z0f ⟨m,[],hd⟩ ck bd cd)))⟩:=rfl;rw[e2]at h⊢;rw[z2B];have e3:(σ++[boxC 0 ⟨m,[],hd⟩]).length+1=σ.length+2:=by simp
   rw[e3,List.set_append_right _ _ (Nat.le_refl _),Nat.sub_self,List.set_cons_zero,List.append_assoc]at h;exact h
 |cons r L =>
  have hq:σ.length+2<(σ++chZ σ.length ⟨m,r::L,hd⟩).length:=by rw[z2B];simp
  have h:=z3V (σ++chZ σ.length ⟨m,r::L,hd⟩) σ.length (σ.length+2) ⟨m,r::L,hd⟩ hh (fun h=>nomatch h) (Nat.le_trans hL (by decide)) ck bd cd
   (by rw[z2B,List.getElem?_append_right (Nat.le_refl _),Nat.sub_self];rfl) (by rw[z2B,List.getElem?_append_right (by omega),Nat.add_sub_cancel_left];rfl) (by omega) hq (by omega) hne hbl (z0u hg _)
  cases ht:takes ⟨m,r::L,hd⟩ ck bd cd with
  |false =>
   rw[ht]at h;exact h
  |true =>
   rw[ht]at h;simp only[if_true]at h⊢;have e2:addCh ⟨m,r::L,hd⟩ (z0f ⟨m,r::L,hd⟩ ck bd cd)=⟨m,r::(L++[z0f ⟨m,r::L,hd⟩ ck bd cd]),shaB (linkB hd (z0B (z0f ⟨m,r::L,hd⟩ ck bd cd)))⟩:=rfl;rw[e2]at h⊢;unfold Sha.chSt at h;rw[z2B]at h⊢;rw[z2B];rw[List.set_append_right _ _ (by omega:σ.length≤σ.length+2),List.set_append_right _ _ (Nat.le_refl _),Nat.sub_self,Nat.add_sub_cancel_left]at h
   exact h
end
end Go.Proofs.YteakobbdgehlgaaGreatDoor
namespace Go.Proofs.YteakobbdgehlgaaGreatDoor
open Go Go.Ab Go.Cod
set_option maxRecDepth 100000
theorem z4o (L:List RcM):(L.map rcV).length=L.length:=List.length_map ..
end Go.Proofs.YteakobbdgehlgaaGreatDoor
namespace Go.Proofs.YteakobbdgehlgaaGreatDoor
open Go Go.Ab Go.Cod
open Sha (txtR expB shaB z0s genB linkB z0x)
set_option maxRecDepth 100000
theorem ne_self (x:ByteArray):(x.toList != x.toList)=false:=by simp
theorem nz (n:Int):(n != n)=false:=by simp
theorem zaM {L:List RcM} {i:Nat} (h:i<L.length):(L.map rcV)[i]?=some (.agg [I L[i].ix,UN L[i].ck,.sl 1 (byv L[i].bd),I L[i].cd]):=by
 rw[List.getElem?_map,List.getElem?_eq_getElem h];rfl
end Go.Proofs.YteakobbdgehlgaaGreatDoor
namespace Go.Proofs.YteakobbdgehlgaaGreatDoor
open Go Go.Ab Go.Cod
open Sha (txtR expB shaB z0s genB linkB z0x z0u kV)
set_option maxRecDepth 100000
attribute [local irreducible] Sha.shaB
section
variable (σ:St)
end
section
variable (σ:St)
end
section
variable (σ:St)
theorem zgM (n:Nat) (a b:Byt) (ha:a.length=n) (hb:b.length=n):eqCells (List.replicate n .int) (byv a) (byv b)=some (a==b):=Sha.eqCells_bv n a b ha hb
end
end Go.Proofs.YteakobbdgehlgaaGreatDoor
namespace Go.Proofs.YteakobbdgehlgaaGreatDoor
open Go Go.Ab Go.Cod
open Sha (txtR expB shaB z0s genB linkB z0x ChM z0f addCh takes boxC rowC z2X z0u kV)
set_option maxRecDepth 100000
attribute [local irreducible] Sha.shaB
theorem zgN (L:List RcM):((L.map rcV).all fun y=>decide (y.cells.length=4)&&y.okc)=true:=by
 rw[List.all_eq_true];intro x hx;obtain⟨r,_,rfl⟩:=List.mem_map.1 hx;rfl
theorem zgO {L:List RcM} {i:Nat} (h:i<L.length):(L.map rcV).set i (.agg [I L[i].ix,UN L[i].ck,.sl 1 (byv L[i].bd),I L[i].cd])=L.map rcV:=by
 refine List.ext_getElem? fun k=>?_
 rw[List.getElem?_set];split
 · rename_i e;subst e;rw[if_pos (by rw[List.length_map];exact h),zaM h]
 · rfl
section
variable (σ:St)
theorem zbJ (q:Nat) (L:List RcM) (hL:L.length≤1000) (hne:L≠[]) (hq:σ[q]?=some (.row 4 (L.map rcV))):Ans Tryz.prog 49 [.osl q L.length] σ (.osl σ.length L.length) (σ++[.row 4 (L.map rcV)]):=by
 have hml:=z4o L;have hall:=zgN L;simp -implicitDefEqProofs only[go_sem]at hall
 have hql:q<σ.length:=by
  rcases Nat.lt_or_ge q σ.length with h|h
  · exact h
  · rw[List.getElem?_eq_none h]at hq;cases hq
 have hq':∀ex,(σ++ex)[q]?=some (.row 4 (L.map rcV)):=fun ex=>by rw[List.getElem?_append_left hql];exact hq
 have hpos:0<L.length:=List.length_pos_iff.2 hne
 have hn:nilA2 σ false (.osl q L.length)=some false:=by
  simp[nilA2,hq,hml,hpos]
 have k1:(L.length≤2^32)=True:=eq_true (by omega)
 refine Ans.of_run t49 ?_;simp -implicitDefEqProofs only[c49,r49,go_sem,hn,hq',hml,hall,g0,s0,k1];exact Fini.ret rfl
theorem z9G (p q:Nat) (c:ChM) (hp:σ[p]?=some (boxC q c)) (hq:c.L≠[]→σ[q]?=some (.row 4 (c.L.map rcV))) (hL:c.L.length≤1000) (hb:∀r∈c.L,r.bd≠[]∧r.bd.length≤40000) :
  Ans Tryz.prog 24 [.ptr p 0] σ (.sl 4 (c.L.map rcV)) σ:=by
 unfold boxC rowC at hp
 cases hE:c.L.isEmpty with
 |true =>
  have h0:c.L=[]:=by simpa using hE
  rw[hE]at hp;simp only[if_true]at hp;rw[h0]
  have hk:Ans Tryz.prog 49 [.nils] σ .nils σ:=by
   refine Ans.of_run t49 ?_;simp -implicitDefEqProofs only[c49,r49,go_sem,nilA2,nilA];exact Fini.ret rfl
  refine Ans.subR (r:=.nils) ?_ (Sub.nils 4);refine Ans.of_run t24 ?_;simp -implicitDefEqProofs only[c24,r24,go_sem,hp,List.drop_succ_cons,List.drop_zero,List.head?_cons];refine CO.intro hk ?_;simp -implicitDefEqProofs only[go_sem];refine Go.Ab.L.count 0 (fun i=>mkE 27 [(3,.nils),(11,I 0),(12,I 0)]) (fun i=>σ) ?_ ?_ rfl rfl
  · intro i hi;omega
  · intro J;simp -implicitDefEqProofs only[mkE,go_sem];exact Fini.ret rfl
 |false =>
  have hne:c.L≠[]:=by intro h;rw[h]at hE;cases hE
  have hq:=hq hne;have hml:=z4o c.L;rw[hE]at hp;simp only[Bool.false_eq_true,if_false]at hp;have hk:=zbJ σ q c.L hL hne hq;refine Ans.of_run' t24 (fun hbel _=>?_)
  simp -implicitDefEqProofs only[c24,r24,go_sem,hp,hq,List.drop_succ_cons,List.drop_zero,List.head?_cons];refine CO.intro hk ?_;simp -implicitDefEqProofs only[go_sem,g0,hml];refine Go.Ab.L.count c.L.length (fun i=>mkE 27 [(3,.osl σ.length c.L.length),(11,I c.L.length),(12,I i)]) (fun i=>σ++[.row 4 (c.L.map rcV)]) ?_ ?_ rfl rfl
  · intro i hi J hJ;have hd:decide ((i:Int)<((c.L.length:Nat):Int))=true:=decide_eq_true (by omega)
    have hii:((i:Int)<((c.L.length:Nat):Int))=True:=eq_true (by omega)
    have hx:=zaM hi;obtain⟨b1,b2⟩:=hb _ (List.getElem_mem hi);have hcl:∀s,Ans Tryz.prog 44 [.sl 1 (byv c.L[i].bd)] s (.sl 1 (byv c.L[i].bd)) s:=fun s=>Sha.clone_ans s c.L[i].bd (by omega) b1
    have wi:IntKind.i64.wrap ((i:Int)+1)=((i+1:Nat):Int):=wrap_succ (i:=i) (by omega)
    have hset:=zgO hi;simp -implicitDefEqProofs only[mkE,go_sem,hd,g0,s0,hml,hii,hx];refine CO.intro (hcl _) ?_;simp -implicitDefEqProofs only[go_sem,g0,s0,hml,hii,hx,hset,wi];exact hJ
  · intro J;have hd:decide ((c.L.length:Int)<((c.L.length:Nat):Int))=false:=decide_eq_false (by omega)
    simp -implicitDefEqProofs only[mkE,go_sem,hd,g0,s0,hml];refine Fini.trim2 (σ':=σ) (ex:=[_]) rfl rfl (Nat.le_refl _) (.sl 4 _ fun i hi=>?_) hbel
    rw[List.getElem_map];exact bel_rcV _ _
end
theorem chZ_p (σ ex:St) (c:ChM):((σ++chZ σ.length c)++ex)[σ.length]?=some (boxC (σ.length+2) c)∨c.L=[]∧((σ++chZ σ.length c)++ex)[σ.length]?=some (boxC 0 c):=by
 obtain⟨m,L,hd⟩:=c
 cases L with
 |nil=>right;exact⟨rfl,by rw[List.append_assoc,z9F];exact g0 σ _ _⟩
 |cons r L=>left;rw[List.append_assoc,z2B];exact g0 σ _ _
theorem chZ_q (σ ex:St) (c:ChM) (h:c.L≠[]):((σ++chZ σ.length c)++ex)[σ.length+2]?=some (.row 4 (c.L.map rcV)):=by
 obtain⟨m,L,hd⟩:=c
 cases L with
 |nil=>exact absurd rfl h
 |cons r L=>rw[List.append_assoc,z2B,List.getElem?_append_right (by omega),Nat.add_sub_cancel_left];rfl
theorem zf4 {c:ChM} (h:c.L=[]) (q:Nat):boxC q c=boxC 0 c:=by unfold Sha.boxC Sha.rowC;rw[h];rfl
theorem zia (σ ex:St) (c:ChM):((σ++chZ σ.length c)++ex)[σ.length]?=some (boxC (σ.length+2) c):=by
 rcases chZ_p σ ex c with h|⟨h0,h⟩
 · exact h
 · rw[h,zf4 h0 (σ.length+2)]
end Go.Proofs.YteakobbdgehlgaaGreatDoor
namespace Go.Proofs.YteakobbdgehlgaaGreatDoor
open Go Go.Ab Go.Cod
open Sha (txtR expB shaB z0s genB linkB z0x ownU)
set_option maxRecDepth 100000
attribute [local irreducible] Sha.shaB
end Go.Proofs.YteakobbdgehlgaaGreatDoor
namespace Go.Proofs.YteakobbdgehlgaaGreatDoor
open Go Go.Ab Go.Cod
open Sha (txtR expB shaB z0s genB linkB z0x z0u kV)
set_option maxRecDepth 100000
attribute [local irreducible] Sha.shaB
section
variable (σ:St)
end
section
variable (σ:St)
end
section
variable (σ:St)
end
end Go.Proofs.YteakobbdgehlgaaGreatDoor
namespace Go.Proofs.YteakobbdgehlgaaGreatDoor
open Go Go.Ab Go.Cod
open Sha (txtR expB shaB z0s genB linkB z0x ChM z0f addCh takes boxC rowC z2X z0u kV)
set_option maxRecDepth 100000
attribute [local irreducible] Sha.shaB
section
variable (σ:St)
end
section
variable (σ:St) (o:Int) (l:List StM)
end
end Go.Proofs.YteakobbdgehlgaaGreatDoor
