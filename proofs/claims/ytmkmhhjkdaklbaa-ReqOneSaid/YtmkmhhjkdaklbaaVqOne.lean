/- ReqOne answers true at any input. No condition. -/
import Derived.Test.YtmkmhhjkdaklbaaVqOne0
import Derived.Test.YtmkmhhjkdaklbaaVRb1
import Derived.Test.YtmkmhhjkdaklbaaVRowF
set_option linter.unusedSimpArgs false
set_option linter.unusedVariables false
set_option linter.unusedSectionVars false
namespace Go.Proofs.Ytmkmhhjkdaklbaa
open Go Go.Ab Go.Cod Go.ChangeShapes Go.WideShapes Go.ChangeAt Go.RowKit
set_option maxRecDepth 100000
theorem z9W:ownKnob Try.prog.godebug=none:=by kernel_rfl
theorem z9X:laidOutB Try.prog=true:=by kernel_rfl
theorem z56 (os:Os) (started:os.Started) (H:Type) (enc:TypeId×Value→H) :
  ReturnsInHanded {} Try.checked os 3 .any (Rows.reqOneSpec.pre6 enc Try.prog Try.f3 Rows.reqOneRow.domain false) (Rows.reqOneSpec.post enc Try.prog Try.f3 false true false false):=by
 refine returnsInHanded_of_change (C:=Try.checked) z9W started (by kernel_rfl) Try.func3
  (ChangeSpec.witness6 (enc:=enc) (C:=Try.checked) false ⟨#[],#[.slice none 0 0],[]⟩ 8 (by kernel_rfl) (by kernel_rfl) (by kernel_rfl) (by kernel_rfl)) ?_
 intro W base args ds gs before hval0 hW hcnd _;have hval:∀(j:Nat) t v,Try.f3.params[j]?=some t→args[j]?=some v→Value.okWide Try.prog W .any base t v:=hval0;have hW':=hW;obtain⟨p,q,hA0,hV,rfl,hfz,hnd⟩:=hW;have hA:DataW.TrodAll enc Try.prog W 0 (fun _=>true) true Try.f3.params.toList args.toList ds p:=hA0
 rw[Try.params3]at hA hval;obtain⟨v0,vs0,d0,ds0,a0,b0,hargs,rfl,rfl,h0,hA⟩:=trodAll_cons hA;obtain⟨rfl,rfl,rfl⟩:=trodAll_nil hA;have:args=#[v0]:=by cases args;simpa using hargs
 subst this;obtain⟨b,r0⟩:=z9C (hval 0 22 v0 rfl rfl) h0;refine(Ans.law (P:=Try.prog) (W:=W) (vs:=[v0]) Try.func3 (by kernel_rfl) (by kernel_rfl) (z7C b) (Reps.cons r0 Reps.nil)).mono fun e W' ⟨v,he,hk,M',R',hr⟩=>?_
 cases hr
 exact⟨_,he,z9u (P:=Try.prog) z9X (by
   intro t ht;rw[Try.params3]at ht
   have hm:t∈[22]:=by
    have:=ht;simp only[List.mem_cons,List.not_mem_nil,or_false]at this⊢;simp[this]
   clear ht;simp only[List.mem_cons,List.not_mem_nil,or_false]at hm;subst hm
   exact⟨by kernel_rfl,of_decide_eq_true (by kernel_rfl)⟩) rfl rfl (tb:=4) (by kernel_rfl) hW' (fun ds h=>by
  match ds,h with
  |[_],_=>exact⟨rfl,rfl,rfl⟩) hk⟩
theorem z7D:(Rows.reqOneRow.inPlace==Try.pinned.checked.prog.inPlace 3)=true:=by kernel_rfl
theorem z7E:(Rows.reqOneRow.unfollowed==Try.pinned.checked.prog.unfollowed 3)=true:=by kernel_rfl
theorem z7F:(Rows.reqOneRow.recurses==Try.pinned.checked.prog.recurses 3)=true:=by kernel_rfl
theorem z7G:(Rows.reqOneRow.named==Try.pinned.checked.prog.varsNamed 3)=true:=by kernel_rfl
theorem reqOne_holds:Rows.ReqOneSaid :=
 OpenClaim.holds_of_wide 3 Try.f3 rfl rfl rfl rfl rfl rfl rfl ⟨rfl,rfl,rfl,rfl,rfl⟩ rfl rfl rfl rfl rfl (by kernel_rfl) Try.func3 (by
   unfold joinedFacts
   repeat' (with_reducible (first|refine and_t ?_ ?_|exact z9T|exact z9U|apply zbU|exact z7D|exact z7E|exact z7F|exact z7G|exact zaY))
   all_goals kernel_rfl)
  (of_decide_eq_true (by kernel_rfl)) (by unfold Func.isWrapper;first|(rw[if_pos (by decide +kernel)];kernel_rfl)|(rw[if_neg (by decide +kernel)];exact⟨rfl,rfl⟩))
  (fun os started H enc _=>z56 os started H enc)
end Go.Proofs.Ytmkmhhjkdaklbaa
