/- AuditEvident: the tied card. No condition. -/
import Derived.Test.YteakobbdgehlgaaDoorVEvV
set_option linter.unusedSimpArgs false
set_option linter.unusedVariables false
set_option linter.unusedSectionVars false
set_option maxRecDepth 100000
namespace Go.Proofs.YteakobbdgehlgaaDoor
open Go Go.Ab Go.Cod Go.ChangeShapes Go.WideShapes Go.ChangeAt Go.RowKit
theorem z2J (os:Os) (started:os.Started) (H:Type) (enc:TypeId×Value→H) :
  ReturnsInHanded {} Tryd.checked os 3 .any (fun w args=>(Rows.auditEvidentSpec.pre enc Tryd.prog Tryd.f3 [] false w args∧laidMetH Tryd.prog z5M w)∧sizedMet enc Tryd.prog Tryd.f3 (OpenSpec.ofChange Rows.auditEvidentSpec) false w args)
   (Rows.auditEvidentSpec.post enc Tryd.prog Tryd.f3 false true false false):=by
 refine returnsInHanded_of_change_and (C:=Tryd.checked) (X:=fun w _=>laidMetH Tryd.prog z5M w) (fun _ _ _ hh h=>h.of_heap hh) zam started (by kernel_rfl) Tryd.func3
  (ChangeSpec.witness_shaped (enc:=enc) (C:=Tryd.checked) (os:=os) (X:=fun w _=>laidMetH Tryd.prog z5M w) false (World.doorLaid Tryd.prog 19 os) #[.int .i64 0,.slice none 0 0,.int .i64 0,.slice none 0 0] 8 rfl (World.shaped_of_RefB (by kernel_rfl) (by kernel_rfl)) (by kernel_rfl) (by kernel_rfl) (by kernel_rfl) (z92 os _)) ?_
 intro W base args ds gs before y0 hW _ _ hL _;have u0:∀(j:Nat) t v,Tryd.f3.params[j]?=some t→args[j]?=some v→Value.okWide Tryd.prog W .any base t v:=y0;have j0:=hW;obtain⟨p,q,k0,hV,rfl,hfz,hnd⟩:=hW;have hA:DataW.TrodAll enc Tryd.prog W 0 (fun _=>true) true Tryd.f3.params.toList args.toList ds p:=k0
 rw[Tryd.params3]at hA u0;obtain⟨v0,vs0,d0,ds0,a0,b0,q0,rfl,rfl,h0,hA⟩:=trodAll_cons hA;obtain⟨v1,vs1,d1,ds1,a1,b1,rfl,rfl,rfl,h1,hA⟩:=trodAll_cons hA;obtain⟨v2,vs2,d2,ds2,a2,b2,rfl,rfl,rfl,h2,hA⟩:=trodAll_cons hA;obtain⟨v3,vs3,d3,ds3,a3,b3,rfl,rfl,rfl,h3,hA⟩:=trodAll_cons hA;obtain⟨rfl,rfl,rfl⟩:=trodAll_nil hA;have:args=#[v0,v1,v2,v3]:=by cases args;simpa using q0
 subst this;obtain⟨o,ho,r0⟩:=z77 (u0 0 3 v0 rfl rfl) h0;obtain⟨a,r1⟩:=z6W (u0 1 22 v1 rfl rfl) h1;obtain⟨p,hp,r2⟩:=z77 (u0 2 3 v2 rfl rfl) h2;obtain⟨c,r3⟩:=z6W (u0 3 22 v3 rfl rfl) h3;refine(Ans.lawG (P:=Tryd.prog) (W:=W) (vs:=[v0,v1,v2,v3]) Tryd.func3 (by kernel_rfl) (by kernel_rfl) (z3s G1 o p a c ho hp g1_0) (zao hL) (Reps.cons (z56 r0) (Reps.cons (z56 r1) (Reps.cons (z56 r2) (Reps.cons (z56 r3) Reps.nil))))).mono fun e W' ⟨v,he,hk,M',R',hr⟩=>?_
 cases hr
 exact⟨_,he,z9H (P:=Tryd.prog) zan (by
   intro t ht;rw[Tryd.params3]at ht;have hm:t∈[3,22,3,22]:=ht;clear ht;simp only[List.mem_cons,List.not_mem_nil,or_false]at hm
   rcases hm with rfl|rfl|rfl|rfl<;>exact⟨by kernel_rfl,of_decide_eq_true (by kernel_rfl)⟩) rfl rfl (tb:=4) (by kernel_rfl) j0 (fun ds h=>by
  match ds,h with
  |[_,_,_,_],_=>exact⟨rfl,rfl,rfl⟩) hk⟩
theorem z3t:(Rows.auditEvidentRow.inPlace==Tryd.pinned.checked.prog.inPlace 3)=true:=by kernel_rfl
theorem z3u:(Rows.auditEvidentRow.unfollowed==Tryd.pinned.checked.prog.unfollowed 3)=true:=by kernel_rfl
theorem z3v:(Rows.auditEvidentRow.recurses==Tryd.pinned.checked.prog.recurses 3)=true:=by kernel_rfl
theorem z3w:(Rows.auditEvidentRow.named==Tryd.pinned.checked.prog.varsNamed 3)=true:=by kernel_rfl
theorem z39:Rows.AuditEvidentSaid :=
 OpenClaim.holds_of_wide 3 Tryd.f3 rfl rfl rfl rfl rfl rfl rfl ⟨rfl,rfl,rfl,rfl,rfl⟩ rfl rfl rfl rfl rfl (by kernel_rfl) Tryd.func3 (by
   unfold joinedFacts
   repeat' (with_reducible (first|refine and_t ?_ ?_|exact zai|exact zaj|apply zcT|exact z3t|exact z3u|exact z3v|exact z3w|exact zbK))
   all_goals kernel_rfl)
  (of_decide_eq_true (by kernel_rfl)) (by unfold Func.isWrapper;first|(rw[if_pos (by decide +kernel)];kernel_rfl)|(rw[if_neg (by decide +kernel)];exact⟨rfl,rfl⟩))
  (fun os started H enc _=>z2J os started H enc)
theorem auditEvident_card_holds:Rows.AuditEvidentCardSaid :=
 Claim7.holds_tied_plain_at .later [] [.data] true (true, "c713a24bdaab48566b049a7e1e0956e0986f340b697dd6113d38aeadf171e1c9") false
  z39 (fun _ h=>by cases h) (by kernel_rfl) (fun _ h=>by cases h) auditEvident_row_tie rfl ⟨rfl,rfl⟩ (by kernel_rfl) rfl
  (fun f fn hf y0=>by
   obtain rfl : f = 3 := Option.some.inj ((show Tryd.prog.funcNamed "sordine/sordinelaw24.AuditEvident" = some 3 by kernel_rfl).symm.trans hf) |>.symm
   obtain rfl:fn=Tryd.f3:=(Option.some.inj (Tryd.func3.symm.trans y0)).symm
   exact⟨by kernel_rfl,fun j t ht=>by
    rw[Tryd.params3]at ht
    have hm:t∈[3,22]:=by
     have:=Array.mem_of_getElem? ht;simp only[List.mem_toArray,List.mem_cons,List.not_mem_nil,or_false]at this;rcases this with rfl|rfl|rfl|rfl<;>simp
    have u0:([3,22].all fun u=>!Tryd.prog.wantsStandIn u)=true:=by kernel_rfl
    exact(show Tryd.prog.wantsStandIn t=false by simpa using List.all_eq_true.1 u0 t hm)⟩)
  (by kernel_rfl)
end Go.Proofs.YteakobbdgehlgaaDoor
