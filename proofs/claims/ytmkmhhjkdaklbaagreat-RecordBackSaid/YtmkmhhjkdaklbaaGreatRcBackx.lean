/- RecordBack answers true at any input. No condition. -/
import Derived.Test.YtmkmhhjkdaklbaaGreatRcB0x
import Derived.Test.YtmkmhhjkdaklbaaGreatXNinex
import Derived.Test.YtmkmhhjkdaklbaaGreatRcP0x
set_option linter.unusedSimpArgs false
set_option linter.unusedVariables false
set_option linter.unusedSectionVars false
namespace Go.Proofs.YtmkmhhjkdaklbaaGreat
open Go Go.Ab Go.Cod Go.ChangeShapes Go.WideShapes Go.ChangeAt Go.RowKit
set_option maxRecDepth 100000
theorem own_knob:ownKnob Tryz.prog.godebug=none:=by kernel_rfl
theorem laid_out:laidOutB Tryz.prog=true:=by kernel_rfl
theorem z4A (os:Os) (started:os.Started) (H:Type) (enc:TypeId×Value→H) :
  ReturnsInHanded {} Tryz.checked os 8 .any (Rows.recordBackSpec.pre6 enc Tryz.prog Tryz.f8 Rows.recordBackRow.domain false) (Rows.recordBackSpec.post enc Tryz.prog Tryz.f8 false true false false):=by
 refine returnsInHanded_of_change (C:=Tryz.checked) own_knob started (by kernel_rfl) Tryz.func8
  (ChangeSpec.witness6 (enc:=enc) (C:=Tryz.checked) false ⟨#[],#[.int .u8 0,.int .u64 0,.agg #[.int .i64 0,.int .i64 0,.int .i64 0,.int .i64 0,.int .u64 0,.int .u64 0,.slice none 0 0,.slice none 0 0,.int .i64 0,.float .f64 0,.float .f64 0,.slice none 0 0,.slice none 0 0,.int .i64 0,.float .f64 0,.float .f64 0,.slice none 0 0,.float .f64 0,.slice none 0 0],.int .u8 0,.slice none 0 0,.slice none 0 0,.int .i64 0],[]⟩ 8 (by kernel_rfl) (by kernel_rfl) (by kernel_rfl) (by kernel_rfl)) ?_
 intro W base args ds gs before hval0 hW hcnd _;have hval:∀(j:Nat) t v,Tryz.f8.params[j]?=some t→args[j]?=some v→Value.okWide Tryz.prog W .any base t v:=hval0;have hW':=hW;obtain⟨p,q,hA0,hV,rfl,hfz,hnd⟩:=hW;have hA:DataW.TrodAll enc Tryz.prog W 0 (fun _=>true) true Tryz.f8.params.toList args.toList ds p:=hA0
 rw[Tryz.params8]at hA hval;obtain⟨v0,vs0,d0,ds0,a0,b0,hargs,rfl,rfl,h0,hA⟩:=trodAll_cons hA;obtain⟨v1,vs1,d1,ds1,a1,b1,rfl,rfl,rfl,h1,hA⟩:=trodAll_cons hA;obtain⟨v2,vs2,d2,ds2,a2,b2,rfl,rfl,rfl,h2,hA⟩:=trodAll_cons hA;obtain⟨v3,vs3,d3,ds3,a3,b3,rfl,rfl,rfl,h3,hA⟩:=trodAll_cons hA;obtain⟨v4,vs4,d4,ds4,a4,b4,rfl,rfl,rfl,h4,hA⟩:=trodAll_cons hA;obtain⟨v5,vs5,d5,ds5,a5,b5,rfl,rfl,rfl,h5,hA⟩:=trodAll_cons hA;obtain⟨v6,vs6,d6,ds6,a6,b6,rfl,rfl,rfl,h6,hA⟩:=trodAll_cons hA;obtain⟨rfl,rfl,rfl⟩:=trodAll_nil hA;have:args=#[v0,v1,v2,v3,v4,v5,v6]:=by cases args;simpa using hargs
 subst this;obtain⟨ix,r0⟩:=z6P (hval 0 5 v0 rfl rfl) h0;obtain⟨ck,hck,r1⟩:=z9w (hval 1 45 v1 rfl rfl) h1;obtain⟨a,ha,r2⟩:=z9u (hval 2 56 v2 rfl rfl) h2;obtain⟨cd,r3⟩:=z6P (hval 3 5 v3 rfl rfl) h3;obtain⟨tail,r4⟩:=zaj (hval 4 29 v4 rfl rfl) h4;obtain⟨raw,r5⟩:=zaj (hval 5 29 v5 rfl rfl) h5;obtain⟨cut,r6⟩:=zg2 (hval 6 3 v6 rfl rfl) h6;refine(Ans.law (P:=Tryz.prog) (W:=W) (vs:=[v0,v1,v2,v3,v4,v5,v6]) Tryz.func8 (by kernel_rfl) (by kernel_rfl) (z68 ix ck hck a ha cd tail raw cut) (Reps.cons r0 (Reps.cons r1 (Reps.cons r2 (Reps.cons r3 (Reps.cons r4 (Reps.cons r5 (Reps.cons r6 Reps.nil)))))))).mono fun e W' ⟨v,he,hk,M',R',hr⟩=>?_
 cases hr
 exact⟨_,he,za4 (P:=Tryz.prog) laid_out (by
   intro t ht;rw[Tryz.params8]at ht
   have hm:t∈[5,45,56,29,3]:=by
    have:=ht;simp only[List.mem_cons,List.not_mem_nil,or_false]at this⊢;rcases this with h|h|h|h|h|h|h<;>simp[h]
   clear ht;simp only[List.mem_cons,List.not_mem_nil,or_false]at hm;rcases hm with rfl|rfl|rfl|rfl|rfl
   · exact⟨by kernel_rfl,of_decide_eq_true (by kernel_rfl)⟩
   · exact⟨by kernel_rfl,of_decide_eq_true (by kernel_rfl)⟩
   · exact⟨by kernel_rfl,of_decide_eq_true (by kernel_rfl)⟩
   · exact⟨by kernel_rfl,of_decide_eq_true (by kernel_rfl)⟩
   · exact⟨by kernel_rfl,of_decide_eq_true (by kernel_rfl)⟩) rfl rfl (tb:=4) (by kernel_rfl) hW' (fun ds h=>by
  match ds,h with
  |[_,_,_,_,_,_,_],_=>exact⟨rfl,rfl,rfl⟩) hk⟩
theorem z69:(Rows.recordBackRow.inPlace==Tryz.pinned.checked.prog.inPlace 8)=true:=by kernel_rfl
theorem z6a:(Rows.recordBackRow.unfollowed==Tryz.pinned.checked.prog.unfollowed 8)=true:=by kernel_rfl
theorem z6b:(Rows.recordBackRow.recurses==Tryz.pinned.checked.prog.recurses 8)=true:=by kernel_rfl
theorem z6c:(Rows.recordBackRow.named==Tryz.pinned.checked.prog.varsNamed 8)=true:=by kernel_rfl
theorem recordBack_holds:Rows.RecordBackSaid :=
 OpenClaim.holds_of_wide 8 Tryz.f8 rfl rfl rfl rfl rfl rfl rfl ⟨rfl,rfl,rfl,rfl,rfl⟩ rfl rfl rfl rfl rfl (by kernel_rfl) Tryz.func8 (by
   unfold joinedFacts
   repeat' (with_reducible (first|refine and_t ?_ ?_|exact zau|exact zav|apply zfd|exact z69|exact z6a|exact z6b|exact z6c|exact zdr))
   all_goals kernel_rfl)
  (of_decide_eq_true (by kernel_rfl)) (by unfold Func.isWrapper;first|(rw[if_pos (by decide +kernel)];kernel_rfl)|(rw[if_neg (by decide +kernel)];exact⟨rfl,rfl⟩))
  (fun os started H enc _=>z4A os started H enc)
end Go.Proofs.YtmkmhhjkdaklbaaGreat
