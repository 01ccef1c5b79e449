/- ReqSpoilt answers true at any input. No condition. -/
import Derived.Test.YtmkmhhjkdaklbaaGreatRqS0u
import Derived.Test.YtmkmhhjkdaklbaaGreatXRu8u
import Derived.Test.YtmkmhhjkdaklbaaGreatRowFu
set_option linter.unusedSimpArgs false
set_option linter.unusedVariables false
set_option linter.unusedSectionVars false
namespace Go.Proofs.YtmkmhhjkdaklbaaGreat
open Go Go.Ab Go.Cod Go.ChangeShapes Go.WideShapes Go.ChangeAt Go.RowKit
set_option maxRecDepth 100000
theorem zg2:ownKnob Tryz.prog.godebug=none:=by kernel_rfl
theorem zg3:laidOutB Tryz.prog=true:=by kernel_rfl
theorem z5h (os:Os) (started:os.Started) (H:Type) (enc:TypeId×Value→H) :
  ReturnsInHanded {} Tryz.checked os 12 .any (Rows.reqSpoiltSpec.pre6 enc Tryz.prog Tryz.f12 Rows.reqSpoiltRow.domain false) (Rows.reqSpoiltSpec.post enc Tryz.prog Tryz.f12 false true false false):=by
 refine returnsInHanded_of_change (C:=Tryz.checked) zg2 started (by kernel_rfl) Tryz.func12
  (ChangeSpec.witness6 (enc:=enc) (C:=Tryz.checked) false ⟨#[],#[.agg #[.int .i64 0,.int .i64 0,.int .i64 0,.int .i64 0,.int .u64 0,.int .u64 0,.slice none 0 0,.slice none 0 0,.int .i64 0,.float .f64 0,.float .f64 0,.slice none 0 0,.slice none 0 0,.int .i64 0,.float .f64 0,.float .f64 0,.slice none 0 0,.float .f64 0,.slice none 0 0],.int .i64 0,.int .u8 0],[]⟩ 8 (by kernel_rfl) (by kernel_rfl) (by kernel_rfl) (by kernel_rfl)) ?_
 intro W base args ds gs before hval0 hW hcnd _;have hval:∀(j:Nat) t v,Tryz.f12.params[j]?=some t→args[j]?=some v→Value.okWide Tryz.prog W .any base t v:=hval0;have hW':=hW;obtain⟨p,q,hA0,hV,rfl,hfz,hnd⟩:=hW;have hA:DataW.TrodAll enc Tryz.prog W 0 (fun _=>true) true Tryz.f12.params.toList args.toList ds p:=hA0
 rw[Tryz.params12]at hA hval;obtain⟨v0,vs0,d0,ds0,a0,b0,hargs,rfl,rfl,h0,hA⟩:=trodAll_cons hA;obtain⟨v1,vs1,d1,ds1,a1,b1,rfl,rfl,rfl,h1,hA⟩:=trodAll_cons hA;obtain⟨v2,vs2,d2,ds2,a2,b2,rfl,rfl,rfl,h2,hA⟩:=trodAll_cons hA;obtain⟨rfl,rfl,rfl⟩:=trodAll_nil hA;have:args=#[v0,v1,v2]:=by cases args;simpa using hargs
 subst this;obtain⟨a,ha,r0⟩:=zht (hval 0 56 v0 rfl rfl) h0;obtain⟨at_,r1⟩:=zh2 (hval 1 3 v1 rfl rfl) h1;obtain⟨by_,r2⟩:=zj1 (hval 2 5 v2 rfl rfl) h2;refine(Ans.law (P:=Tryz.prog) (W:=W) (vs:=[v0,v1,v2]) Tryz.func12 (by kernel_rfl) (by kernel_rfl) (z7Z a ha at_ by_) (Reps.cons r0 (Reps.cons r1 (Reps.cons r2 Reps.nil)))).mono fun e W' ⟨v,he,hk,M',R',hr⟩=>?_
 cases hr
 exact⟨_,he,zeU (P:=Tryz.prog) zg3 (by
   intro t ht;rw[Tryz.params12]at ht
   have hm:t∈[56,3,5]:=by
    have:=ht;simp only[List.mem_cons,List.not_mem_nil,or_false]at this⊢;rcases this with h|h|h<;>simp[h]
   clear ht;simp only[List.mem_cons,List.not_mem_nil,or_false]at hm;rcases hm with rfl|rfl|rfl
   · exact⟨by kernel_rfl,of_decide_eq_true (by kernel_rfl)⟩
   · exact⟨by kernel_rfl,of_decide_eq_true (by kernel_rfl)⟩
   · exact⟨by kernel_rfl,of_decide_eq_true (by kernel_rfl)⟩) rfl rfl (tb:=4) (by kernel_rfl) hW' (fun ds h=>by
  match ds,h with
  |[_,_,_],_=>exact⟨rfl,rfl,rfl⟩) hk⟩
theorem z80:(Rows.reqSpoiltRow.inPlace==Tryz.pinned.checked.prog.inPlace 12)=true:=by kernel_rfl
theorem z81:(Rows.reqSpoiltRow.unfollowed==Tryz.pinned.checked.prog.unfollowed 12)=true:=by kernel_rfl
theorem z82:(Rows.reqSpoiltRow.recurses==Tryz.pinned.checked.prog.recurses 12)=true:=by kernel_rfl
theorem z83:(Rows.reqSpoiltRow.named==Tryz.pinned.checked.prog.varsNamed 12)=true:=by kernel_rfl
theorem reqSpoilt_holds:Rows.ReqSpoiltSaid :=
 OpenClaim.holds_of_wide 12 Tryz.f12 rfl rfl rfl rfl rfl rfl rfl ⟨rfl,rfl,rfl,rfl,rfl⟩ rfl rfl rfl rfl rfl (by kernel_rfl) Tryz.func12 (by
   unfold joinedFacts
   repeat' (with_reducible (first|refine and_t ?_ ?_|exact zfZ|exact zg0|apply zj2|exact z80|exact z81|exact z82|exact z83|exact zhI))
   all_goals kernel_rfl)
  (of_decide_eq_true (by kernel_rfl)) (by unfold Func.isWrapper;first|(rw[if_pos (by decide +kernel)];kernel_rfl)|(rw[if_neg (by decide +kernel)];exact⟨rfl,rfl⟩))
  (fun os started H enc _=>z5h os started H enc)
end Go.Proofs.YtmkmhhjkdaklbaaGreat
