/- ReqApart answers true at any input. No condition. -/
import Derived.Test.YtmkmhhjkdaklbaaGreatRqP0s
import Derived.Test.YtmkmhhjkdaklbaaGreatRq2cs
import Derived.Test.YtmkmhhjkdaklbaaGreatRqB0s
set_option linter.unusedSimpArgs false
set_option linter.unusedVariables false
set_option linter.unusedSectionVars false
namespace Go.Proofs.YtmkmhhjkdaklbaaGreat
open Go Go.Ab Go.Cod Go.ChangeShapes Go.WideShapes Go.ChangeAt Go.RowKit
set_option maxRecDepth 100000
theorem own_knob:ownKnob Tryz.prog.godebug=none:=by kernel_rfl
theorem laid_out:laidOutB Tryz.prog=true:=by kernel_rfl
theorem z5j (os:Os) (started:os.Started) (H:Type) (enc:TypeId×Value→H) :
  ReturnsInHanded {} Tryz.checked os 11 .any (Rows.reqApartSpec.pre6 enc Tryz.prog Tryz.f11 Rows.reqApartRow.domain false) (Rows.reqApartSpec.post enc Tryz.prog Tryz.f11 false true false false):=by
 refine returnsInHanded_of_change (C:=Tryz.checked) own_knob started (by kernel_rfl) Tryz.func11
  (ChangeSpec.witness6 (enc:=enc) (C:=Tryz.checked) false ⟨#[],#[.agg #[.int .i64 0,.int .i64 0,.int .i64 0,.int .i64 0,.int .u64 0,.int .u64 0,.slice none 0 0,.slice none 0 0,.int .i64 0,.float .f64 0,.float .f64 0,.slice none 0 0,.slice none 0 0,.int .i64 0,.float .f64 0,.float .f64 0,.slice none 0 0,.float .f64 0,.slice none 0 0],.agg #[.int .i64 0,.int .i64 0,.int .i64 0,.int .i64 0,.int .u64 0,.int .u64 0,.slice none 0 0,.slice none 0 0,.int .i64 0,.float .f64 0,.float .f64 0,.slice none 0 0,.slice none 0 0,.int .i64 0,.float .f64 0,.float .f64 0,.slice none 0 0,.float .f64 0,.slice none 0 0]],[]⟩ 8 (by kernel_rfl) (by kernel_rfl) (by kernel_rfl) (by kernel_rfl)) ?_
 intro W base args ds gs before hval0 hW hcnd _;have hval:∀(j:Nat) t v,Tryz.f11.params[j]?=some t→args[j]?=some v→Value.okWide Tryz.prog W .any base t v:=hval0;have hW':=hW;obtain⟨p,q,hA0,hV,rfl,hfz,hnd⟩:=hW;have hA:DataW.TrodAll enc Tryz.prog W 0 (fun _=>true) true Tryz.f11.params.toList args.toList ds p:=hA0
 rw[Tryz.params11]at hA hval;obtain⟨v0,vs0,d0,ds0,a0,b0,hargs,rfl,rfl,h0,hA⟩:=trodAll_cons hA;obtain⟨v1,vs1,d1,ds1,a1,b1,rfl,rfl,rfl,h1,hA⟩:=trodAll_cons hA;obtain⟨rfl,rfl,rfl⟩:=trodAll_nil hA;have:args=#[v0,v1]:=by cases args;simpa using hargs
 subst this;obtain⟨a,ha,r0⟩:=z8t (hval 0 56 v0 rfl rfl) h0;obtain⟨c,hc,r1⟩:=z8t (hval 1 56 v1 rfl rfl) h1;refine(Ans.law (P:=Tryz.prog) (W:=W) (vs:=[v0,v1]) Tryz.func11 (by kernel_rfl) (by kernel_rfl) (z7y a c ha hc) (Reps.cons r0 (Reps.cons r1 Reps.nil))).mono fun e W' ⟨v,he,hk,M',R',hr⟩=>?_
 cases hr
 exact⟨_,he,z8Y (P:=Tryz.prog) laid_out (by
   intro t ht;rw[Tryz.params11]at ht
   have hm:t∈[56]:=by
    have:=ht;simp only[List.mem_cons,List.not_mem_nil,or_false]at this⊢;rcases this with h|h<;>simp[h]
   clear ht;simp only[List.mem_cons,List.not_mem_nil,or_false]at hm;subst hm
   exact⟨by kernel_rfl,of_decide_eq_true (by kernel_rfl)⟩) rfl rfl (tb:=4) (by kernel_rfl) hW' (fun ds h=>by
  match ds,h with
  |[_,_],_=>exact⟨rfl,rfl,rfl⟩) hk⟩
theorem z7z:(Rows.reqApartRow.inPlace==Tryz.pinned.checked.prog.inPlace 11)=true:=by kernel_rfl
theorem z7A:(Rows.reqApartRow.unfollowed==Tryz.pinned.checked.prog.unfollowed 11)=true:=by kernel_rfl
theorem z7B:(Rows.reqApartRow.recurses==Tryz.pinned.checked.prog.recurses 11)=true:=by kernel_rfl
theorem z7C:(Rows.reqApartRow.named==Tryz.pinned.checked.prog.varsNamed 11)=true:=by kernel_rfl
theorem reqApart_holds:Rows.ReqApartSaid :=
 OpenClaim.holds_of_wide 11 Tryz.f11 rfl rfl rfl rfl rfl rfl rfl ⟨rfl,rfl,rfl,rfl,rfl⟩ rfl rfl rfl rfl rfl (by kernel_rfl) Tryz.func11 (by
   unfold joinedFacts
   repeat' (with_reducible (first|refine and_t ?_ ?_|exact z9r|exact z9s|apply zdr|exact z7z|exact z7A|exact z7B|exact z7C|exact zbV))
   all_goals kernel_rfl)
  (of_decide_eq_true (by kernel_rfl)) (by unfold Func.isWrapper;first|(rw[if_pos (by decide +kernel)];kernel_rfl)|(rw[if_neg (by decide +kernel)];exact⟨rfl,rfl⟩))
  (fun os started H enc _=>z5j os started H enc)
end Go.Proofs.YtmkmhhjkdaklbaaGreat
