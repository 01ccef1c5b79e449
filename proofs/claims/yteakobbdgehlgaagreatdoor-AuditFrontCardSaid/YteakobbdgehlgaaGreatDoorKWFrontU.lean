/- AuditFront: the tied card. No condition. -/
import Derived.Test.YteakobbdgehlgaaGreatDoorKRb5U
import Derived.Test.YteakobbdgehlgaaGreatDoorKZ4U
set_option linter.unusedSimpArgs false
set_option linter.unusedVariables false
set_option linter.unusedSectionVars false
set_option maxRecDepth 100000
namespace Go.Proofs.YteakobbdgehlgaaGreatDoor
open Go Go.Ab Go.Cod Go.ChangeShapes Go.WideShapes Go.ChangeAt Go.RowKit
theorem z4P (os:Os) (started:os.Started) (H:Type) (enc:TypeId×Value→H) :
  ReturnsInHanded {} Tryz.checked os 7 .any (fun w args=>(Rows.auditFrontSpec.pre enc Tryz.prog Tryz.f7 [] false w args∧laidMetH Tryz.prog z54 w)∧sizedMet enc Tryz.prog Tryz.f7 (OpenSpec.ofChange Rows.auditFrontSpec) false w args)
   (Rows.auditFrontSpec.post enc Tryz.prog Tryz.f7 false true false false):=by
 refine returnsInHanded_of_change_and (C:=Tryz.checked) (X:=fun w _=>laidMetH Tryz.prog z54 w) (fun _ _ _ hh h=>h.of_heap hh) zbe started (by kernel_rfl) Tryz.func7
  (ChangeSpec.witness_shaped (enc:=enc) (C:=Tryz.checked) (os:=os) (X:=fun w _=>laidMetH Tryz.prog z54 w) false (World.doorLaid Tryz.prog 19 os) #[.int .i64 0,.slice none 0 0,.int .u8 0] 8 rfl (World.shaped_of_RefB (by kernel_rfl) (by kernel_rfl)) (by kernel_rfl) (by kernel_rfl) (by kernel_rfl) (z94 os _)) ?_
 intro W base args ds gs before q0 hW _ _ hL _;have u0:∀(j:Nat) t v,Tryz.f7.params[j]?=some t→args[j]?=some v→Value.okWide Tryz.prog W .any base t v:=q0;have j0:=hW;obtain⟨p,q,k0,hV,rfl,hfz,hnd⟩:=hW;have hA:DataW.TrodAll enc Tryz.prog W 0 (fun _=>true) true Tryz.f7.params.toList args.toList ds p:=k0
 rw[Tryz.params7]at hA u0;obtain⟨v0,vs0,d0,ds0,a0,b0,y0,rfl,rfl,h0,hA⟩:=trodAll_cons hA;obtain⟨v1,vs1,d1,ds1,a1,b1,rfl,rfl,rfl,h1,hA⟩:=trodAll_cons hA;obtain⟨v2,vs2,d2,ds2,a2,b2,rfl,rfl,rfl,h2,hA⟩:=trodAll_cons hA;obtain⟨rfl,rfl,rfl⟩:=trodAll_nil hA;have:args=#[v0,v1,v2]:=by cases args;simpa using y0
 subst this;obtain⟨o,r0⟩:=zdS (u0 0 3 v0 rfl rfl) h0;obtain⟨l,hl,r1⟩:=z9c (u0 1 74 v1 rfl rfl) h1;obtain⟨c,r2⟩:=zjN (u0 2 5 v2 rfl rfl) h2;refine(Ans.lawG (P:=Tryz.prog) (W:=W) (vs:=[v0,v1,v2]) Tryz.func7 (by kernel_rfl) (by kernel_rfl) (z6A G1 o l hl c g1_0) (zbg hL) (Reps.cons (z6r r0) (Reps.cons (z6r r1) (Reps.cons (z6r r2) Reps.nil)))).mono fun e W' ⟨v,he,hk,M',R',hr⟩=>?_
 cases hr
 exact⟨_,he,zaP (P:=Tryz.prog) zbf (by
   intro t ht;rw[Tryz.params7]at ht;have hm:t∈[3,74,5]:=ht;clear ht;simp only[List.mem_cons,List.not_mem_nil,or_false]at hm
   rcases hm with rfl|rfl|rfl<;>exact⟨by kernel_rfl,of_decide_eq_true (by kernel_rfl)⟩) rfl rfl (tb:=4) (by kernel_rfl) j0 (fun ds h=>by
  match ds,h with
  |[_,_,_],_=>exact⟨rfl,rfl,rfl⟩) hk⟩
theorem z6B:(Rows.auditFrontRow.inPlace==Tryz.pinned.checked.prog.inPlace 7)=true:=by kernel_rfl
theorem z6C:(Rows.auditFrontRow.unfollowed==Tryz.pinned.checked.prog.unfollowed 7)=true:=by kernel_rfl
theorem z6D:(Rows.auditFrontRow.recurses==Tryz.pinned.checked.prog.recurses 7)=true:=by kernel_rfl
theorem z6E:(Rows.auditFrontRow.named==Tryz.pinned.checked.prog.varsNamed 7)=true:=by kernel_rfl
theorem z58:Rows.AuditFrontSaid :=
 OpenClaim.holds_of_wide 7 Tryz.f7 rfl rfl rfl rfl rfl rfl rfl ⟨rfl,rfl,rfl,rfl,rfl⟩ rfl rfl rfl rfl rfl (by kernel_rfl) Tryz.func7 (by
   unfold joinedFacts
   repeat' (with_reducible (first|refine and_t ?_ ?_|exact zbc|exact zbd|apply zgW|exact z6B|exact z6C|exact z6D|exact z6E|exact zet))
   all_goals kernel_rfl)
  (of_decide_eq_true (by kernel_rfl)) (by unfold Func.isWrapper;first|(rw[if_pos (by decide +kernel)];kernel_rfl)|(rw[if_neg (by decide +kernel)];exact⟨rfl,rfl⟩))
  (fun os started H enc _=>z4P os started H enc)
theorem auditFront_card_holds:Rows.AuditFrontCardSaid :=
 Claim7.holds_tied_plain_at .later [] [.data] true (true, "c7f3e5f72acad1a8f5a9374143e2c14ff1ff2dcdbf81ed681ddff2c3fad5e2c2") false
  z58 (fun _ h=>by cases h) (by kernel_rfl) (fun _ h=>by cases h) auditFront_row_tie rfl ⟨rfl,rfl⟩ (by kernel_rfl) rfl
  (fun f fn hf y0=>by
   obtain rfl : f = 7 := Option.some.inj ((show Tryz.prog.funcNamed "sordine/sordinelaw24.AuditFront" = some 7 by kernel_rfl).symm.trans hf) |>.symm
   obtain rfl:fn=Tryz.f7:=(Option.some.inj (Tryz.func7.symm.trans y0)).symm
   exact⟨by kernel_rfl,fun j t ht=>by
    rw[Tryz.params7]at ht
    have hm:t∈[3,5,74]:=by
     have:=Array.mem_of_getElem? ht;simp only[List.mem_toArray,List.mem_cons,List.not_mem_nil,or_false]at this;rcases this with rfl|rfl|rfl<;>simp
    have u0:([3,5,74].all fun u=>!Tryz.prog.wantsStandIn u)=true:=by kernel_rfl
    exact(show Tryz.prog.wantsStandIn t=false by simpa using List.all_eq_true.1 u0 t hm)⟩)
  (by kernel_rfl)
end Go.Proofs.YteakobbdgehlgaaGreatDoor
