/- AuditTakes: the tied card. No condition. -/
import Derived.Test.YteakobbdgehlgaaGreatDoorKRb5U
import Derived.Test.YteakobbdgehlgaaGreatDoorKZ4U
set_option linter.unusedSimpArgs false
set_option linter.unusedVariables false
set_option linter.unusedSectionVars false
set_option maxRecDepth 100000
namespace Go.Proofs.YteakobbdgehlgaaGreatDoor
open Go Go.Ab Go.Cod Go.ChangeShapes Go.WideShapes Go.ChangeAt Go.RowKit
theorem z4O (os:Os) (started:os.Started) (H:Type) (enc:TypeId×Value→H) :
  ReturnsInHanded {} Tryz.checked os 8 .any (fun w args=>(Rows.auditTakesSpec.pre enc Tryz.prog Tryz.f8 [] false w args∧laidMetH Tryz.prog z54 w)∧sizedMet enc Tryz.prog Tryz.f8 (OpenSpec.ofChange Rows.auditTakesSpec) false w args)
   (Rows.auditTakesSpec.post enc Tryz.prog Tryz.f8 false true false false):=by
 refine returnsInHanded_of_change_and (C:=Tryz.checked) (X:=fun w _=>laidMetH Tryz.prog z54 w) (fun _ _ _ hh h=>h.of_heap hh) zbe started (by kernel_rfl) Tryz.func8
  (ChangeSpec.witness_shaped (enc:=enc) (C:=Tryz.checked) (os:=os) (X:=fun w _=>laidMetH Tryz.prog z54 w) false (World.doorLaid Tryz.prog 19 os) #[.int .i64 0,.slice none 0 0] 8 rfl (World.shaped_of_RefB (by kernel_rfl) (by kernel_rfl)) (by kernel_rfl) (by kernel_rfl) (by kernel_rfl) (z94 os _)) ?_
 intro W base args ds gs before q0 hW _ _ hL _;have u0:∀(j:Nat) t v,Tryz.f8.params[j]?=some t→args[j]?=some v→Value.okWide Tryz.prog W .any base t v:=q0;have j0:=hW;obtain⟨p,q,k0,hV,rfl,hfz,hnd⟩:=hW;have hA:DataW.TrodAll enc Tryz.prog W 0 (fun _=>true) true Tryz.f8.params.toList args.toList ds p:=k0
 rw[Tryz.params8]at hA u0;obtain⟨v0,vs0,d0,ds0,a0,b0,y0,rfl,rfl,h0,hA⟩:=trodAll_cons hA;obtain⟨v1,vs1,d1,ds1,a1,b1,rfl,rfl,rfl,h1,hA⟩:=trodAll_cons hA;obtain⟨rfl,rfl,rfl⟩:=trodAll_nil hA;have:args=#[v0,v1]:=by cases args;simpa using y0
 subst this;obtain⟨o,r0⟩:=zdS (u0 0 3 v0 rfl rfl) h0;obtain⟨l,hl,r1⟩:=z9c (u0 1 74 v1 rfl rfl) h1;refine(Ans.lawG (P:=Tryz.prog) (W:=W) (vs:=[v0,v1]) Tryz.func8 (by kernel_rfl) (by kernel_rfl) (z6v G1 o l hl g1_0) (zbg hL) (Reps.cons (z6r r0) (Reps.cons (z6r r1) Reps.nil))).mono fun e W' ⟨v,he,hk,M',R',hr⟩=>?_
 cases hr
 exact⟨_,he,zaP (P:=Tryz.prog) zbf (by
   intro t ht;rw[Tryz.params8]at ht;have hm:t∈[3,74]:=ht;clear ht;simp only[List.mem_cons,List.not_mem_nil,or_false]at hm
   rcases hm with rfl|rfl<;>exact⟨by kernel_rfl,of_decide_eq_true (by kernel_rfl)⟩) rfl rfl (tb:=4) (by kernel_rfl) j0 (fun ds h=>by
  match ds,h with
  |[_,_],_=>exact⟨rfl,rfl,rfl⟩) hk⟩
theorem z6w:(Rows.auditTakesRow.inPlace==Tryz.pinned.checked.prog.inPlace 8)=true:=by kernel_rfl
theorem z6x:(Rows.auditTakesRow.unfollowed==Tryz.pinned.checked.prog.unfollowed 8)=true:=by kernel_rfl
theorem z6y:(Rows.auditTakesRow.recurses==Tryz.pinned.checked.prog.recurses 8)=true:=by kernel_rfl
theorem z6z:(Rows.auditTakesRow.named==Tryz.pinned.checked.prog.varsNamed 8)=true:=by kernel_rfl
theorem z57:Rows.AuditTakesSaid :=
 OpenClaim.holds_of_wide 8 Tryz.f8 rfl rfl rfl rfl rfl rfl rfl ⟨rfl,rfl,rfl,rfl,rfl⟩ rfl rfl rfl rfl rfl (by kernel_rfl) Tryz.func8 (by
   unfold joinedFacts
   repeat' (with_reducible (first|refine and_t ?_ ?_|exact zbc|exact zbd|apply zgW|exact z6w|exact z6x|exact z6y|exact z6z|exact zet))
   all_goals kernel_rfl)
  (of_decide_eq_true (by kernel_rfl)) (by unfold Func.isWrapper;first|(rw[if_pos (by decide +kernel)];kernel_rfl)|(rw[if_neg (by decide +kernel)];exact⟨rfl,rfl⟩))
  (fun os started H enc _=>z4O os started H enc)
theorem auditTakes_card_holds:Rows.AuditTakesCardSaid :=
 Claim7.holds_tied_plain_at .later [] [.data] true (true, "c7f3e5f72acad1a8f5a9374143e2c14ff1ff2dcdbf81ed681ddff2c3fad5e2c2") false
  z57 (fun _ h=>by cases h) (by kernel_rfl) (fun _ h=>by cases h) auditTakes_row_tie rfl ⟨rfl,rfl⟩ (by kernel_rfl) rfl
  (fun f fn hf y0=>by
   obtain rfl : f = 8 := Option.some.inj ((show Tryz.prog.funcNamed "sordine/sordinelaw24.AuditTakes" = some 8 by kernel_rfl).symm.trans hf) |>.symm
   obtain rfl:fn=Tryz.f8:=(Option.some.inj (Tryz.func8.symm.trans y0)).symm
   exact⟨by kernel_rfl,fun j t ht=>by
    rw[Tryz.params8]at ht
    have hm:t∈[3,74]:=by
     have:=Array.mem_of_getElem? ht;simp only[List.mem_toArray,List.mem_cons,List.not_mem_nil,or_false]at this⊢;omega
    have u0:([3,74].all fun u=>!Tryz.prog.wantsStandIn u)=true:=by kernel_rfl
    exact(show Tryz.prog.wantsStandIn t=false by simpa using List.all_eq_true.1 u0 t hm)⟩)
  (by kernel_rfl)
end Go.Proofs.YteakobbdgehlgaaGreatDoor
