/- RecordDrawn answers true at any input. No condition. -/
import Derived.Test.YtmkmhhjkdaklbaaGreatRcD0v
import Derived.Test.YtmkmhhjkdaklbaaGreatRd3v
import Derived.Test.YtmkmhhjkdaklbaaGreatXMr3v
import Derived.Test.YtmkmhhjkdaklbaaGreatRh1v
set_option linter.unusedSimpArgs false
set_option linter.unusedVariables false
set_option linter.unusedSectionVars false
namespace Go.Proofs.YtmkmhhjkdaklbaaGreat
open Go Go.Ab Go.Cod Go.ChangeShapes Go.WideShapes Go.ChangeAt Go.RowKit
set_option maxRecDepth 100000
theorem own_knob:ownKnob Tryz.prog.godebug=none:=by kernel_rfl
theorem laid_out:laidOutB Tryz.prog=true:=by kernel_rfl
theorem z4x (os:Os) (started:os.Started) (H:Type) (enc:TypeId×Value→H) :
  ReturnsInHanded {} Tryz.checked os 7 .any (Rows.recordDrawnSpec.pre6 enc Tryz.prog Tryz.f7 Rows.recordDrawnRow.domain false) (Rows.recordDrawnSpec.post enc Tryz.prog Tryz.f7 false true false false):=by
 refine returnsInHanded_of_change (C:=Tryz.checked) own_knob started (by kernel_rfl) Tryz.func7
  (ChangeSpec.witness6 (enc:=enc) (C:=Tryz.checked) false ⟨#[],#[.int .i64 0,.int .u64 0,.agg #[.int .i64 0,.int .i64 0,.int .i64 0,.int .i64 0,.int .u64 0,.int .u64 0,.slice none 0 0,.slice none 0 0,.int .i64 0,.float .f64 0,.float .f64 0,.slice none 0 0,.slice none 0 0,.int .i64 0,.float .f64 0,.float .f64 0,.slice none 0 0,.float .f64 0,.slice none 0 0],.int .i64 0],[]⟩ 8 (by kernel_rfl) (by kernel_rfl) (by kernel_rfl) (by kernel_rfl)) ?_
 intro W base args ds gs before hval0 hW hcnd _;have hval:∀(j:Nat) t v,Tryz.f7.params[j]?=some t→args[j]?=some v→Value.okWide Tryz.prog W .any base t v:=hval0;have hW':=hW;obtain⟨p,q,hA0,hV,rfl,hfz,hnd⟩:=hW;have hA:DataW.TrodAll enc Tryz.prog W 0 (fun _=>true) true Tryz.f7.params.toList args.toList ds p:=hA0
 rw[Tryz.params7]at hA hval;obtain⟨v0,vs0,d0,ds0,a0,b0,hargs,rfl,rfl,h0,hA⟩:=trodAll_cons hA;obtain⟨v1,vs1,d1,ds1,a1,b1,rfl,rfl,rfl,h1,hA⟩:=trodAll_cons hA;obtain⟨v2,vs2,d2,ds2,a2,b2,rfl,rfl,rfl,h2,hA⟩:=trodAll_cons hA;obtain⟨v3,vs3,d3,ds3,a3,b3,rfl,rfl,rfl,h3,hA⟩:=trodAll_cons hA;obtain⟨rfl,rfl,rfl⟩:=trodAll_nil hA;have:args=#[v0,v1,v2,v3]:=by cases args;simpa using hargs
 subst this;obtain⟨ix,r0⟩:=zdm (hval 0 3 v0 rfl rfl) h0;obtain⟨ck,hck,r1⟩:=zhc (hval 1 45 v1 rfl rfl) h1;obtain⟨a,ha,r2⟩:=zha (hval 2 56 v2 rfl rfl) h2;obtain⟨cd,r3⟩:=zdm (hval 3 3 v3 rfl rfl) h3;refine(Ans.law (P:=Tryz.prog) (W:=W) (vs:=[v0,v1,v2,v3]) Tryz.func7 (by kernel_rfl) (by kernel_rfl) (z6n ix ck hck a ha cd) (Reps.cons r0 (Reps.cons r1 (Reps.cons r2 (Reps.cons r3 Reps.nil))))).mono fun e W' ⟨v,he,hk,M',R',hr⟩=>?_
 cases hr
 exact⟨_,he,z7p (P:=Tryz.prog) laid_out (by
   intro t ht;rw[Tryz.params7]at ht
   have hm:t∈[3,45,56]:=by
    have:=ht;simp only[List.mem_cons,List.not_mem_nil,or_false]at this⊢;rcases this with h|h|h|h<;>simp[h]
   clear ht;simp only[List.mem_cons,List.not_mem_nil,or_false]at hm;rcases hm with rfl|rfl|rfl
   · exact⟨by kernel_rfl,of_decide_eq_true (by kernel_rfl)⟩
   · exact⟨by kernel_rfl,of_decide_eq_true (by kernel_rfl)⟩
   · exact⟨by kernel_rfl,of_decide_eq_true (by kernel_rfl)⟩) rfl rfl (tb:=4) (by kernel_rfl) hW' (fun ds h=>by
  match ds,h with
  |[_,_,_,_],_=>exact⟨rfl,rfl,rfl⟩) hk⟩
theorem z6o:(Rows.recordDrawnRow.inPlace==Tryz.pinned.checked.prog.inPlace 7)=true:=by kernel_rfl
theorem z6p:(Rows.recordDrawnRow.unfollowed==Tryz.pinned.checked.prog.unfollowed 7)=true:=by kernel_rfl
theorem z6q:(Rows.recordDrawnRow.recurses==Tryz.pinned.checked.prog.recurses 7)=true:=by kernel_rfl
theorem z6r:(Rows.recordDrawnRow.named==Tryz.pinned.checked.prog.varsNamed 7)=true:=by kernel_rfl
theorem recordDrawn_holds:Rows.RecordDrawnSaid :=
 OpenClaim.holds_of_wide 7 Tryz.f7 rfl rfl rfl rfl rfl rfl rfl ⟨rfl,rfl,rfl,rfl,rfl⟩ rfl rfl rfl rfl rfl (by kernel_rfl) Tryz.func7 (by
   unfold joinedFacts
   repeat' (with_reducible (first|refine and_t ?_ ?_|exact z7N|exact z7O|apply zdG|exact z6o|exact z6p|exact z6q|exact z6r|exact z9T))
   all_goals kernel_rfl)
  (of_decide_eq_true (by kernel_rfl)) (by unfold Func.isWrapper;first|(rw[if_pos (by decide +kernel)];kernel_rfl)|(rw[if_neg (by decide +kernel)];exact⟨rfl,rfl⟩))
  (fun os started H enc _=>z4x os started H enc)
end Go.Proofs.YtmkmhhjkdaklbaaGreat
