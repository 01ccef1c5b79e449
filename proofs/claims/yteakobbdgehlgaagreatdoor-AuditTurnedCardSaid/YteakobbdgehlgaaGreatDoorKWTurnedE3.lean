/- AuditTurned: the tied card. No condition. -/
import Derived.Test.YteakobbdgehlgaaGreatDoorKRb5E3
import Derived.Test.YteakobbdgehlgaaGreatDoorKZ5E3
set_option linter.unusedSimpArgs false
set_option linter.unusedVariables false
set_option linter.unusedSectionVars false
set_option maxRecDepth 100000
namespace Go.Proofs.YteakobbdgehlgaaGreatDoor
open Go Go.Ab Go.Cod Go.ChangeShapes Go.WideShapes Go.ChangeAt Go.RowKit
theorem z4F (os:Os) (started:os.Started) (H:Type) (enc:TypeId×Value→H) :
  ReturnsInHanded {} Tryz.checked os 9 .any (fun w args=>(Rows.auditTurnedSpec.pre enc Tryz.prog Tryz.f9 [] false w args∧laidMetH Tryz.prog z91 w)∧sizedMet enc Tryz.prog Tryz.f9 (OpenSpec.ofChange Rows.auditTurnedSpec) false w args)
   (Rows.auditTurnedSpec.post enc Tryz.prog Tryz.f9 false true false false):=by
 refine returnsInHanded_of_change_and (C:=Tryz.checked) (X:=fun w _=>laidMetH Tryz.prog z91 w) (fun _ _ _ hh h=>h.of_heap hh) zg3 started (by kernel_rfl) Tryz.func9
  (ChangeSpec.witness_shaped (enc:=enc) (C:=Tryz.checked) (os:=os) (X:=fun w _=>laidMetH Tryz.prog z91 w) false (World.doorLaid Tryz.prog 19 os) #[.int .i64 0,.int .i64 0,.slice none 0 0,.int .i64 0,.int .u8 0] 8 rfl (World.shaped_of_RefB (by kernel_rfl) (by kernel_rfl)) (by kernel_rfl) (by kernel_rfl) (by kernel_rfl) (zeb os _)) ?_
 intro W base args ds gs before q0 hW _ _ hL _;have u0:∀(j:Nat) t v,Tryz.f9.params[j]?=some t→args[j]?=some v→Value.okWide Tryz.prog W .any base t v:=q0;have k0:=hW;obtain⟨p,q,j0,hV,rfl,hfz,hnd⟩:=hW;have hA:DataW.TrodAll enc Tryz.prog W 0 (fun _=>true) true Tryz.f9.params.toList args.toList ds p:=j0
 rw[Tryz.params9]at hA u0;obtain⟨v0,vs0,d0,ds0,a0,b0,y0,rfl,rfl,h0,hA⟩:=trodAll_cons hA;obtain⟨v1,vs1,d1,ds1,a1,b1,rfl,rfl,rfl,h1,hA⟩:=trodAll_cons hA;obtain⟨v2,vs2,d2,ds2,a2,b2,rfl,rfl,rfl,h2,hA⟩:=trodAll_cons hA;obtain⟨v3,vs3,d3,ds3,a3,b3,rfl,rfl,rfl,h3,hA⟩:=trodAll_cons hA;obtain⟨v4,vs4,d4,ds4,a4,b4,rfl,rfl,rfl,h4,hA⟩:=trodAll_cons hA;obtain⟨rfl,rfl,rfl⟩:=trodAll_nil hA;have:args=#[v0,v1,v2,v3,v4]:=by cases args;simpa using y0
 subst this;obtain⟨o,ho,r0⟩:=z80 (u0 0 3 v0 rfl rfl) h0;obtain⟨p,hp,r1⟩:=z80 (u0 1 3 v1 rfl rfl) h1;obtain⟨l,hl,r2⟩:=zet (u0 2 74 v2 rfl rfl) h2;obtain⟨t,ht,r3⟩:=z80 (u0 3 3 v3 rfl rfl) h3;obtain⟨c,r4⟩:=zjH (u0 4 5 v4 rfl rfl) h4;refine(Ans.lawG (P:=Tryz.prog) (W:=W) (vs:=[v0,v1,v2,v3,v4]) Tryz.func9 (by kernel_rfl) (by kernel_rfl) (z6u G1 o p l ho hp hl t ht c g1_0) (zg5 hL) (Reps.cons (z6r r0) (Reps.cons (z6r r1) (Reps.cons (z6r r2) (Reps.cons (z6r r3) (Reps.cons (z6r r4) Reps.nil)))))).mono fun e W' ⟨v,he,hk,M',R',hr⟩=>?_
 cases hr
 exact⟨_,he,zfn (P:=Tryz.prog) zg4 (by
   intro t ht;rw[Tryz.params9]at ht;have hm:t∈[3,3,74,3,5]:=ht;clear ht;simp only[List.mem_cons,List.not_mem_nil,or_false]at hm
   rcases hm with rfl|rfl|rfl|rfl|rfl<;>exact⟨by kernel_rfl,of_decide_eq_true (by kernel_rfl)⟩) rfl rfl (tb:=4) (by kernel_rfl) k0 (fun ds h=>by
  match ds,h with
  |[_,_,_,_,_],_=>exact⟨rfl,rfl,rfl⟩) hk⟩
theorem z6v:(Rows.auditTurnedRow.inPlace==Tryz.pinned.checked.prog.inPlace 9)=true:=by kernel_rfl
theorem z6w:(Rows.auditTurnedRow.unfollowed==Tryz.pinned.checked.prog.unfollowed 9)=true:=by kernel_rfl
theorem z6x:(Rows.auditTurnedRow.recurses==Tryz.pinned.checked.prog.recurses 9)=true:=by kernel_rfl
theorem z6y:(Rows.auditTurnedRow.named==Tryz.pinned.checked.prog.varsNamed 9)=true:=by kernel_rfl
theorem z4U:Rows.AuditTurnedSaid :=
 OpenClaim.holds_of_wide 9 Tryz.f9 rfl rfl rfl rfl rfl rfl rfl ⟨rfl,rfl,rfl,rfl,rfl⟩ rfl rfl rfl rfl rfl (by kernel_rfl) Tryz.func9 (by
   unfold joinedFacts
   repeat' (with_reducible (first|refine and_t ?_ ?_|exact zfZ|exact zg0|apply zjr|exact z6v|exact z6w|exact z6x|exact z6y|exact zi9))
   all_goals kernel_rfl)
  (of_decide_eq_true (by kernel_rfl)) (by unfold Func.isWrapper;first|(rw[if_pos (by decide +kernel)];kernel_rfl)|(rw[if_neg (by decide +kernel)];exact⟨rfl,rfl⟩))
  (fun os started H enc _=>z4F os started H enc)
theorem auditTurned_card_holds:Rows.AuditTurnedCardSaid :=
 Claim7.holds_tied_plain_at .later [] [.data] true (true, "c7f3e5f72acad1a8f5a9374143e2c14ff1ff2dcdbf81ed681ddff2c3fad5e2c2") false
  z4U (fun _ h=>by cases h) (by kernel_rfl) (fun _ h=>by cases h) auditTurned_row_tie rfl ⟨rfl,rfl⟩ (by kernel_rfl) rfl
  (fun f fn hf y0=>by
   obtain rfl : f = 9 := Option.some.inj ((show Tryz.prog.funcNamed "sordine/sordinelaw24.AuditTurned" = some 9 by kernel_rfl).symm.trans hf) |>.symm
   obtain rfl:fn=Tryz.f9:=(Option.some.inj (Tryz.func9.symm.trans y0)).symm
   exact⟨by kernel_rfl,fun j t ht=>by
    rw[Tryz.params9]at ht
    have hm:t∈[3,5,74]:=by
     have:=Array.mem_of_getElem? ht;simp only[List.mem_toArray,List.mem_cons,List.not_mem_nil,or_false]at this;rcases this with rfl|rfl|rfl|rfl|rfl<;>simp
    have u0:([3,5,74].all fun u=>!Tryz.prog.wantsStandIn u)=true:=by kernel_rfl
    exact(show Tryz.prog.wantsStandIn t=false by simpa using List.all_eq_true.1 u0 t hm)⟩)
  (by kernel_rfl)
end Go.Proofs.YteakobbdgehlgaaGreatDoor
