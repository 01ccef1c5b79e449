/- RecordReads answers true at any input. No condition. -/
import Derived.Test.YtmkmhhjkdaklbaaGreatRcR0v
import Derived.Test.YtmkmhhjkdaklbaaGreatRd3v
import Derived.Test.YtmkmhhjkdaklbaaGreatRh1v
set_option linter.unusedSimpArgs false
set_option linter.unusedVariables false
set_option linter.unusedSectionVars false
namespace Go.Proofs.YtmkmhhjkdaklbaaGreat
open Go Go.Ab Go.Cod Go.ChangeShapes Go.WideShapes Go.ChangeAt Go.RowKit
set_option maxRecDepth 100000
theorem own_knob:ownKnob Tryz.prog.godebug=none:=by kernel_rfl
theorem laid_out:laidOutB Tryz.prog=true:=by kernel_rfl
theorem z4v (os:Os) (started:os.Started) (H:Type) (enc:TypeId×Value→H) :
  ReturnsInHanded {} Tryz.checked os 6 .any (Rows.recordReadsSpec.pre6 enc Tryz.prog Tryz.f6 Rows.recordReadsRow.domain false) (Rows.recordReadsSpec.post enc Tryz.prog Tryz.f6 false true false false):=by
 refine returnsInHanded_of_change (C:=Tryz.checked) own_knob started (by kernel_rfl) Tryz.func6
  (ChangeSpec.witness6 (enc:=enc) (C:=Tryz.checked) false ⟨#[],#[.slice none 0 0],[]⟩ 8 (by kernel_rfl) (by kernel_rfl) (by kernel_rfl) (by kernel_rfl)) ?_
 intro W base args ds gs before hval0 hW hcnd _;have hval:∀(j:Nat) t v,Tryz.f6.params[j]?=some t→args[j]?=some v→Value.okWide Tryz.prog W .any base t v:=hval0;have hW':=hW;obtain⟨p,q,hA0,hV,rfl,hfz,hnd⟩:=hW;have hA:DataW.TrodAll enc Tryz.prog W 0 (fun _=>true) true Tryz.f6.params.toList args.toList ds p:=hA0
 rw[Tryz.params6]at hA hval;obtain⟨v0,vs0,d0,ds0,a0,b0,hargs,rfl,rfl,h0,hA⟩:=trodAll_cons hA;obtain⟨rfl,rfl,rfl⟩:=trodAll_nil hA;have:args=#[v0]:=by cases args;simpa using hargs
 subst this;obtain⟨b,r0⟩:=zeQ (hval 0 29 v0 rfl rfl) h0;refine(Ans.law (P:=Tryz.prog) (W:=W) (vs:=[v0]) Tryz.func6 (by kernel_rfl) (by kernel_rfl) (z6i b) (Reps.cons r0 Reps.nil)).mono fun e W' ⟨v,he,hk,M',R',hr⟩=>?_
 cases hr
 exact⟨_,he,z7p (P:=Tryz.prog) laid_out (by
   intro t ht;rw[Tryz.params6]at ht
   have hm:t∈[29]:=by
    have:=ht;simp only[List.mem_cons,List.not_mem_nil,or_false]at this⊢;simp[this]
   clear ht;simp only[List.mem_cons,List.not_mem_nil,or_false]at hm;subst hm
   exact⟨by kernel_rfl,of_decide_eq_true (by kernel_rfl)⟩) rfl rfl (tb:=4) (by kernel_rfl) hW' (fun ds h=>by
  match ds,h with
  |[_],_=>exact⟨rfl,rfl,rfl⟩) hk⟩
theorem z6j:(Rows.recordReadsRow.inPlace==Tryz.pinned.checked.prog.inPlace 6)=true:=by kernel_rfl
theorem z6k:(Rows.recordReadsRow.unfollowed==Tryz.pinned.checked.prog.unfollowed 6)=true:=by kernel_rfl
theorem z6l:(Rows.recordReadsRow.recurses==Tryz.pinned.checked.prog.recurses 6)=true:=by kernel_rfl
theorem z6m:(Rows.recordReadsRow.named==Tryz.pinned.checked.prog.varsNamed 6)=true:=by kernel_rfl
theorem recordReads_holds:Rows.RecordReadsSaid :=
 OpenClaim.holds_of_wide 6 Tryz.f6 rfl rfl rfl rfl rfl rfl rfl ⟨rfl,rfl,rfl,rfl,rfl⟩ rfl rfl rfl rfl rfl (by kernel_rfl) Tryz.func6 (by
   unfold joinedFacts
   repeat' (with_reducible (first|refine and_t ?_ ?_|exact z7N|exact z7O|apply zdG|exact z6j|exact z6k|exact z6l|exact z6m|exact z9T))
   all_goals kernel_rfl)
  (of_decide_eq_true (by kernel_rfl)) (by unfold Func.isWrapper;first|(rw[if_pos (by decide +kernel)];kernel_rfl)|(rw[if_neg (by decide +kernel)];exact⟨rfl,rfl⟩))
  (fun os started H enc _=>z4v os started H enc)
end Go.Proofs.YtmkmhhjkdaklbaaGreat
