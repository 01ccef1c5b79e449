/- RecordAsk answers true at any input. No condition. -/
import Derived.Test.YtmkmhhjkdaklbaaGreatRh1v
import Derived.Test.YtmkmhhjkdaklbaaGreatRd3v
import Derived.Test.YtmkmhhjkdaklbaaGreatXMr3v
set_option linter.unusedSimpArgs false
set_option linter.unusedVariables false
set_option linter.unusedSectionVars false
namespace Go.Proofs.YtmkmhhjkdaklbaaGreat
open Go Go.Ab Go.Cod Go.ChangeShapes Go.WideShapes Go.ChangeAt Go.RowKit
set_option maxRecDepth 100000
theorem wf64 {n:Int} (h:(Lit.int .u64 n).wf=true):0≤n:=by
 simp[Lit.wf,IntKind.min,IntKind.max,IntKind.bits,IntKind.signed]at h;omega
def QByt:List AV→Prop:=fun xs=>∃b:Byt,xs=[.sl 1 (byv b)]
theorem zdH (f:Nat):Reads Tryz.prog 29 f QByt:=by
 cases f with
 |zero=>exact Reads.zero
 |succ f =>
  refine((Reads.slice (sz:=1) false Tryz.underlying29 (by kernel_rfl) (by decide) (Reads.int Tryz.underlying5 f) (fun y hy _=>by obtain⟨n,_,rfl⟩:=hy;rfl)).weak QSlice.weak).mono fun xs hq=>?_
  obtain⟨ys,h1,h2,rfl⟩:=hq;obtain⟨b,e⟩:=z7D h1;exact⟨b,by rw[e]⟩
def QRc:List AV→Prop:=fun xs=>∃r:RcM,xs=rcC r
theorem zdI (f:Nat):Reads Tryz.prog 48 f QRc:=by
 cases f with
 |zero=>exact Reads.zero
 |succ f =>
  have h:=Reads.struct (P:=Tryz.prog) (t:=48) (f:=f) (Qs:=[QInt .i64,QInt .u64,QByt,QInt .i64]) Tryz.underlying48 (by kernel_rfl) rfl (by
   intro p hp;simp only[List.zip_cons_cons,List.zip_nil_right,List.mem_cons,List.not_mem_nil,or_false]at hp;rcases hp with rfl|rfl|rfl|rfl
   · exact Reads.int Tryz.underlying3 f
   · exact Reads.int Tryz.underlying45 f
   · exact zdH f
   · exact Reads.int Tryz.underlying46 f)
  refine h.mono fun xs hq=>?_
  obtain⟨_,_,rfl,⟨i,_,rfl⟩,_,_,rfl,⟨k,hk,rfl⟩,_,_,rfl,⟨b,rfl⟩,_,_,rfl,⟨c,_,rfl⟩,rfl⟩:=hq;obtain⟨n,rfl⟩:=Int.eq_ofNat_of_zero_le (wf64 hk);exact⟨⟨i,n,b,c⟩,rfl⟩
theorem zh2 {H:Type} {enc:TypeId×Value→H} {W:World} {base:Nat} {v:Value} {d:DataW H} {ps:List MemPlace} (hv:Value.okWide Tryz.prog W .any base 48 v)
  (h:DataW.Trod enc Tryz.prog W 0 (fun _=>true) true 48 v d ps):∃r:RcM,Rep noM noR W (rcV r) v:=by
 obtain⟨cs,rfl,_⟩:=okWide_struct Tryz.underlying48 hv;obtain⟨xs,h1,r,rfl⟩:=Reads.argS zdI h;exact⟨r,h1⟩
theorem own_knob:ownKnob Tryz.prog.godebug=none:=by kernel_rfl
theorem laid_out:laidOutB Tryz.prog=true:=by kernel_rfl
theorem z53 (os:Os) (started:os.Started) (H:Type) (enc:TypeId×Value→H) :
  ReturnsInHanded {} Tryz.checked os 5 .any (Rows.recordAskSpec.pre6 enc Tryz.prog Tryz.f5 Rows.recordAskRow.domain false) (Rows.recordAskSpec.post enc Tryz.prog Tryz.f5 false true false false):=by
 refine returnsInHanded_of_change (C:=Tryz.checked) own_knob started (by kernel_rfl) Tryz.func5
  (ChangeSpec.witness6 (enc:=enc) (C:=Tryz.checked) false ⟨#[],#[.agg #[.int .i64 0,.int .u64 0,.slice none 0 0,.int .i64 0]],[]⟩ 8 (by kernel_rfl) (by kernel_rfl) (by kernel_rfl) (by kernel_rfl)) ?_
 intro W base args ds gs before hval0 hW hcnd _;have hval:∀(j:Nat) t v,Tryz.f5.params[j]?=some t→args[j]?=some v→Value.okWide Tryz.prog W .any base t v:=hval0;have hW':=hW;obtain⟨p,q,hA0,hV,rfl,hfz,hnd⟩:=hW;have hA:DataW.TrodAll enc Tryz.prog W 0 (fun _=>true) true Tryz.f5.params.toList args.toList ds p:=hA0
 rw[Tryz.params5]at hA hval;obtain⟨v0,vs0,d0,ds0,a0,b0,hargs,rfl,rfl,h0,hA⟩:=trodAll_cons hA;obtain⟨rfl,rfl,rfl⟩:=trodAll_nil hA;have:args=#[v0]:=by cases args;simpa using hargs
 subst this;obtain⟨r,r0⟩:=zh2 (hval 0 48 v0 rfl rfl) h0;refine(Ans.law (P:=Tryz.prog) (W:=W) (vs:=[v0]) Tryz.func5 (by kernel_rfl) (by kernel_rfl) (z7P r) (Reps.cons r0 Reps.nil)).mono fun e W' ⟨v,he,hk,M',R',hr⟩=>?_
 cases hr
 exact⟨_,he,z7p (P:=Tryz.prog) laid_out (by
   intro t ht;rw[Tryz.params5]at ht
   have hm:t∈[48]:=by
    have:=ht;simp only[List.mem_cons,List.not_mem_nil,or_false]at this⊢;simp[this]
   clear ht;simp only[List.mem_cons,List.not_mem_nil,or_false]at hm;subst hm
   exact⟨by kernel_rfl,of_decide_eq_true (by kernel_rfl)⟩) rfl rfl (tb:=4) (by kernel_rfl) hW' (fun ds h=>by
  match ds,h with
  |[_],_=>exact⟨rfl,rfl,rfl⟩) hk⟩
theorem z7Q:(Rows.recordAskRow.inPlace==Tryz.pinned.checked.prog.inPlace 5)=true:=by kernel_rfl
theorem z7R:(Rows.recordAskRow.unfollowed==Tryz.pinned.checked.prog.unfollowed 5)=true:=by kernel_rfl
theorem z7S:(Rows.recordAskRow.recurses==Tryz.pinned.checked.prog.recurses 5)=true:=by kernel_rfl
theorem z7T:(Rows.recordAskRow.named==Tryz.pinned.checked.prog.varsNamed 5)=true:=by kernel_rfl
theorem recordAsk_holds:Rows.RecordAskSaid :=
 OpenClaim.holds_of_wide 5 Tryz.f5 rfl rfl rfl rfl rfl rfl rfl ⟨rfl,rfl,rfl,rfl,rfl⟩ rfl rfl rfl rfl rfl (by kernel_rfl) Tryz.func5 (by
   unfold joinedFacts
   repeat' (with_reducible (first|refine and_t ?_ ?_|exact z7N|exact z7O|apply zdG|exact z7Q|exact z7R|exact z7S|exact z7T|exact z9T))
   all_goals kernel_rfl)
  (of_decide_eq_true (by kernel_rfl)) (by unfold Func.isWrapper;first|(rw[if_pos (by decide +kernel)];kernel_rfl)|(rw[if_neg (by decide +kernel)];exact⟨rfl,rfl⟩))
  (fun os started H enc _=>z53 os started H enc)
end Go.Proofs.YtmkmhhjkdaklbaaGreat
