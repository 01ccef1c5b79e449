/- RecordApart answers true at any input. No condition. -/
import Derived.Test.YtmkmhhjkdaklbaaGreatRcP0x
import Derived.Test.YtmkmhhjkdaklbaaGreatXNinex
set_option linter.unusedSimpArgs false
set_option linter.unusedVariables false
set_option linter.unusedSectionVars false
namespace Go.Proofs.YtmkmhhjkdaklbaaGreat
open Go Go.Ab Go.Cod Go.ChangeShapes Go.WideShapes Go.ChangeAt Go.RowKit
set_option maxRecDepth 100000
theorem own_knob:ownKnob Tryz.prog.godebug=none:=by kernel_rfl
theorem laid_out:laidOutB Tryz.prog=true:=by kernel_rfl
theorem z4k (os:Os) (started:os.Started) (H:Type) (enc:TypeId×Value→H) :
  ReturnsInHanded {} Tryz.checked os 9 .any (Rows.recordApartSpec.pre6 enc Tryz.prog Tryz.f9 Rows.recordApartRow.domain false) (Rows.recordApartSpec.post enc Tryz.prog Tryz.f9 false true false false):=by
 refine returnsInHanded_of_change (C:=Tryz.checked) own_knob started (by kernel_rfl) Tryz.func9
  (ChangeSpec.witness6 (enc:=enc) (C:=Tryz.checked) false ⟨#[],#[.int .u8 0,.int .u8 0,.int .u64 0,.int .u64 0,.agg #[.int .i64 0,.int .i64 0,.int .i64 0,.int .i64 0,.int .u64 0,.int .u64 0,.slice none 0 0,.slice none 0 0,.int .i64 0,.float .f64 0,.float .f64 0,.slice none 0 0,.slice none 0 0,.int .i64 0,.float .f64 0,.float .f64 0,.slice none 0 0,.float .f64 0,.slice none 0 0],.agg #[.int .i64 0,.int .i64 0,.int .i64 0,.int .i64 0,.int .u64 0,.int .u64 0,.slice none 0 0,.slice none 0 0,.int .i64 0,.float .f64 0,.float .f64 0,.slice none 0 0,.slice none 0 0,.int .i64 0,.float .f64 0,.float .f64 0,.slice none 0 0,.float .f64 0,.slice none 0 0],.int .u8 0,.int .u8 0],[]⟩ 8 (by kernel_rfl) (by kernel_rfl) (by kernel_rfl) (by kernel_rfl)) ?_
 intro W base args ds gs before hval0 hW hcnd _;have hval:∀(j:Nat) t v,Tryz.f9.params[j]?=some t→args[j]?=some v→Value.okWide Tryz.prog W .any base t v:=hval0;have hW':=hW;obtain⟨p,q,hA0,hV,rfl,hfz,hnd⟩:=hW;have hA:DataW.TrodAll enc Tryz.prog W 0 (fun _=>true) true Tryz.f9.params.toList args.toList ds p:=hA0
 rw[Tryz.params9]at hA hval;obtain⟨v0,vs0,d0,ds0,a0,b0,hargs,rfl,rfl,h0,hA⟩:=trodAll_cons hA;obtain⟨v1,vs1,d1,ds1,a1,b1,rfl,rfl,rfl,h1,hA⟩:=trodAll_cons hA;obtain⟨v2,vs2,d2,ds2,a2,b2,rfl,rfl,rfl,h2,hA⟩:=trodAll_cons hA;obtain⟨v3,vs3,d3,ds3,a3,b3,rfl,rfl,rfl,h3,hA⟩:=trodAll_cons hA;obtain⟨v4,vs4,d4,ds4,a4,b4,rfl,rfl,rfl,h4,hA⟩:=trodAll_cons hA;obtain⟨v5,vs5,d5,ds5,a5,b5,rfl,rfl,rfl,h5,hA⟩:=trodAll_cons hA;obtain⟨v6,vs6,d6,ds6,a6,b6,rfl,rfl,rfl,h6,hA⟩:=trodAll_cons hA;obtain⟨v7,vs7,d7,ds7,a7,b7,rfl,rfl,rfl,h7,hA⟩:=trodAll_cons hA;obtain⟨rfl,rfl,rfl⟩:=trodAll_nil hA;have:args=#[v0,v1,v2,v3,v4,v5,v6,v7]:=by cases args;simpa using hargs
 subst this;obtain⟨i,r0⟩:=z6P (hval 0 5 v0 rfl rfl) h0;obtain⟨j,r1⟩:=z6P (hval 1 5 v1 rfl rfl) h1;obtain⟨pk,hpk,r2⟩:=z9w (hval 2 45 v2 rfl rfl) h2;obtain⟨qk,hqk,r3⟩:=z9w (hval 3 45 v3 rfl rfl) h3;obtain⟨a,ha,r4⟩:=z9u (hval 4 56 v4 rfl rfl) h4;obtain⟨b,hb,r5⟩:=z9u (hval 5 56 v5 rfl rfl) h5;obtain⟨cc,r6⟩:=z6P (hval 6 5 v6 rfl rfl) h6;obtain⟨dd,r7⟩:=z6P (hval 7 5 v7 rfl rfl) h7;refine(Ans.law (P:=Tryz.prog) (W:=W) (vs:=[v0,v1,v2,v3,v4,v5,v6,v7]) Tryz.func9 (by kernel_rfl) (by kernel_rfl) (z61 i j pk qk hpk hqk a b ha hb cc dd) (Reps.cons r0 (Reps.cons r1 (Reps.cons r2 (Reps.cons r3 (Reps.cons r4 (Reps.cons r5 (Reps.cons r6 (Reps.cons r7 Reps.nil))))))))).mono fun e W' ⟨v,he,hk,M',R',hr⟩=>?_
 cases hr
 exact⟨_,he,za4 (P:=Tryz.prog) laid_out (by
   intro t ht;rw[Tryz.params9]at ht
   have hm:t∈[5,45,56]:=by
    have:=ht;simp only[List.mem_cons,List.not_mem_nil,or_false]at this⊢;rcases this with h|h|h|h|h|h|h|h<;>simp[h]
   clear ht;simp only[List.mem_cons,List.not_mem_nil,or_false]at hm;rcases hm with rfl|rfl|rfl
   · exact⟨by kernel_rfl,of_decide_eq_true (by kernel_rfl)⟩
   · exact⟨by kernel_rfl,of_decide_eq_true (by kernel_rfl)⟩
   · exact⟨by kernel_rfl,of_decide_eq_true (by kernel_rfl)⟩) rfl rfl (tb:=4) (by kernel_rfl) hW' (fun ds h=>by
  match ds,h with
  |[_,_,_,_,_,_,_,_],_=>exact⟨rfl,rfl,rfl⟩) hk⟩
theorem z62:(Rows.recordApartRow.inPlace==Tryz.pinned.checked.prog.inPlace 9)=true:=by kernel_rfl
theorem z63:(Rows.recordApartRow.unfollowed==Tryz.pinned.checked.prog.unfollowed 9)=true:=by kernel_rfl
theorem z64:(Rows.recordApartRow.recurses==Tryz.pinned.checked.prog.recurses 9)=true:=by kernel_rfl
theorem z65:(Rows.recordApartRow.named==Tryz.pinned.checked.prog.varsNamed 9)=true:=by kernel_rfl
theorem recordApart_holds:Rows.RecordApartSaid :=
 OpenClaim.holds_of_wide 9 Tryz.f9 rfl rfl rfl rfl rfl rfl rfl ⟨rfl,rfl,rfl,rfl,rfl⟩ rfl rfl rfl rfl rfl (by kernel_rfl) Tryz.func9 (by
   unfold joinedFacts
   repeat' (with_reducible (first|refine and_t ?_ ?_|exact zau|exact zav|apply zfd|exact z62|exact z63|exact z64|exact z65|exact zdr))
   all_goals kernel_rfl)
  (of_decide_eq_true (by kernel_rfl)) (by unfold Func.isWrapper;first|(rw[if_pos (by decide +kernel)];kernel_rfl)|(rw[if_neg (by decide +kernel)];exact⟨rfl,rfl⟩))
  (fun os started H enc _=>z4k os started H enc)
end Go.Proofs.YtmkmhhjkdaklbaaGreat
