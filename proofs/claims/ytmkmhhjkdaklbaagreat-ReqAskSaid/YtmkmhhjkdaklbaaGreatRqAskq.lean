/- ReqAsk answers true at any input. No condition. -/
import Derived.Test.YtmkmhhjkdaklbaaGreatRqA0q
import Derived.Test.YtmkmhhjkdaklbaaGreatXMRcbq
import Derived.Test.YtmkmhhjkdaklbaaGreatRowFq
set_option linter.unusedSimpArgs false
set_option linter.unusedVariables false
set_option linter.unusedSectionVars false
namespace Go.Proofs.YtmkmhhjkdaklbaaGreat
open Go Go.Ab Go.Cod Go.ChangeShapes Go.WideShapes Go.ChangeAt Go.RowKit
set_option maxRecDepth 100000
theorem wf64' {n:Int} (h:(Lit.int .u64 n).wf=true):0≤n:=by
 simp[Lit.wf,IntKind.min,IntKind.max,IntKind.bits,IntKind.signed]at h
 omega
def QLabs:List AV→Prop:=fun xs=>∃M:List Lab,xs=[.sl 2 (lvs M)]
theorem z8k (f:Nat):Reads Tryz.prog 62 f QLabs:=by
 cases f with
 |zero=>exact Reads.zero
 |succ f =>
  refine((Reads.slice (sz:=2) true Tryz.underlying62 (by kernel_rfl) (by decide) (z9r f) (fun _ _ _=>rfl)).weak QSlice.weak).mono fun xs hq=>?_
  obtain⟨ys,h1,h2,rfl⟩:=hq
  obtain⟨ds,e⟩:=z9t h1
  exact⟨ds,by rw[e]⟩
def QRe:List AV→Prop:=fun xs=>∃r:ReM,xs=reC r
theorem z9P (f:Nat):Reads Tryz.prog 64 f QRe:=by
 cases f with
 |zero=>exact Reads.zero
 |succ f =>
  have h:=Reads.struct (P:=Tryz.prog) (t:=64) (f:=f) (Qs:=[QText,QInt .i64,QInt .i64,QText,QInt .u64,QInt .u64,QInt .i64,QMtrs,QBand,QRu,QLabs,z7r]) Tryz.underlying64 (by kernel_rfl) rfl (by
   intro p hp
   simp only[List.zip_cons_cons,List.zip_nil_right,List.mem_cons,List.not_mem_nil,or_false]at hp
   rcases hp with rfl|rfl|rfl|rfl|rfl|rfl|rfl|rfl|rfl|rfl|rfl|rfl
   · exact Reads.text Tryz.underlying9 f
   · exact Reads.int Tryz.underlying3 f
   · exact Reads.int Tryz.underlying3 f
   · exact Reads.text Tryz.underlying9 f
   · exact Reads.int Tryz.underlying45 f
   · exact Reads.int Tryz.underlying45 f
   · exact Reads.int Tryz.underlying3 f
   · exact z3k f
   · exact z4Y f
   · exact z88 f
   · exact z8k f
   · exact Reads.float Tryz.underlying23 f)
  refine h.mono fun xs hq=>?_
  obtain⟨_,_,rfl,⟨tok,_,rfl⟩,_,_,rfl,⟨op,_,rfl⟩,_,_,rfl,⟨id,_,rfl⟩,_,_,rfl,⟨txt,_,rfl⟩,_,_,rfl,⟨st,hst,rfl⟩,_,_,rfl,⟨en,hen,rfl⟩,_,_,rfl,⟨sta,_,rfl⟩,
   _,_,rfl,⟨mt,rfl⟩,_,_,rfl,⟨any,lo,hi,rfl⟩,_,_,rfl,⟨ru,rfl⟩,_,_,rfl,⟨ls,rfl⟩,_,_,rfl,⟨val,rfl⟩,rfl⟩:=hq
  obtain⟨n,rfl⟩:=Int.eq_ofNat_of_zero_le (wf64' hst)
  obtain⟨m,rfl⟩:=Int.eq_ofNat_of_zero_le (wf64' hen)
  exact⟨⟨tok,op,id,txt,n,m,sta,mt,any,lo,hi,ru,ls,val⟩,rfl⟩
theorem zcp {H:Type} {enc:TypeId×Value→H} {W:World} {base:Nat} {v:Value} {d:DataW H} {ps:List MemPlace} (hv:Value.okWide Tryz.prog W .any base 64 v)
  (h:DataW.Trod enc Tryz.prog W 0 (fun _=>true) true 64 v d ps):∃r:ReM,Rep noM noR W (reV r) v:=by
 obtain⟨cs,rfl,_⟩:=okWide_struct Tryz.underlying64 hv
 obtain⟨xs,h1,r,rfl⟩:=Reads.argS z9P h
 exact⟨r,h1⟩
theorem zb7:ownKnob Tryz.prog.godebug=none:=by kernel_rfl
theorem zb8:laidOutB Tryz.prog=true:=by kernel_rfl
theorem z5x (os:Os) (started:os.Started) (H:Type) (enc:TypeId×Value→H) :
  ReturnsInHanded {} Tryz.checked os 10 .any (Rows.reqAskSpec.pre6 enc Tryz.prog Tryz.f10 Rows.reqAskRow.domain false) (Rows.reqAskSpec.post enc Tryz.prog Tryz.f10 false true false false):=by
 refine returnsInHanded_of_change (C:=Tryz.checked) zb7 started (by kernel_rfl) Tryz.func10
  (ChangeSpec.witness6 (enc:=enc) (C:=Tryz.checked) false ⟨#[],#[.agg #[.string .empty,.int .i64 0,.int .i64 0,.string .empty,.int .u64 0,.int .u64 0,.int .i64 0,.slice none 0 0,.bool false,.float .f64 0,.float .f64 0,.slice none 0 0,.slice none 0 0,.bool false,.float .f64 0,.float .f64 0,.slice none 0 0,.slice none 0 0,.float .f64 0]],[]⟩ 8 (by kernel_rfl) (by kernel_rfl) (by kernel_rfl) (by kernel_rfl)) ?_
 intro W base args ds gs before hval0 hW hcnd _
 have hval:∀(j:Nat) t v,Tryz.f10.params[j]?=some t→args[j]?=some v→Value.okWide Tryz.prog W .any base t v:=hval0
 have hW':=hW
 obtain⟨p,q,hA0,hV,rfl,hfz,hnd⟩:=hW
 have hA:DataW.TrodAll enc Tryz.prog W 0 (fun _=>true) true Tryz.f10.params.toList args.toList ds p:=hA0
 rw[Tryz.params10]at hA hval
 obtain⟨v0,vs0,d0,ds0,a0,b0,hargs,rfl,rfl,h0,hA⟩:=trodAll_cons hA
 obtain⟨rfl,rfl,rfl⟩:=trodAll_nil hA
 have:args=#[v0]:=by cases args;simpa using hargs
 subst this
 obtain⟨r,r0⟩:=zcp (hval 0 64 v0 rfl rfl) h0
 refine(Ans.law (P:=Tryz.prog) (W:=W) (vs:=[v0]) Tryz.func10 (by kernel_rfl) (by kernel_rfl) (z8j r) (Reps.cons r0 Reps.nil)).mono fun e W' ⟨v,he,hk,M',R',hr⟩=>?_
 cases hr
 exact⟨_,he,zaP (P:=Tryz.prog) zb8 (by
   intro t ht
   rw[Tryz.params10]at ht
   have hm:t∈[64]:=by
    have:=ht
    simp only[List.mem_cons,List.not_mem_nil,or_false]at this⊢
    simp[this]
   clear ht
   simp only[List.mem_cons,List.not_mem_nil,or_false]at hm
   subst hm
   exact⟨by kernel_rfl,of_decide_eq_true (by kernel_rfl)⟩) rfl rfl (tb:=4) (by kernel_rfl) hW' (fun ds h=>by
  match ds,h with
  |[_],_=>exact⟨rfl,rfl,rfl⟩) hk⟩
theorem z8l:(Rows.reqAskRow.inPlace==Tryz.pinned.checked.prog.inPlace 10)=true:=by kernel_rfl
theorem z8m:(Rows.reqAskRow.unfollowed==Tryz.pinned.checked.prog.unfollowed 10)=true:=by kernel_rfl
theorem z8n:(Rows.reqAskRow.recurses==Tryz.pinned.checked.prog.recurses 10)=true:=by kernel_rfl
theorem z8o:(Rows.reqAskRow.named==Tryz.pinned.checked.prog.varsNamed 10)=true:=by kernel_rfl
theorem reqAsk_holds:Rows.ReqAskSaid :=
 OpenClaim.holds_of_wide 10 Tryz.f10 rfl rfl rfl rfl rfl rfl rfl ⟨rfl,rfl,rfl,rfl,rfl⟩ rfl rfl rfl rfl rfl (by kernel_rfl) Tryz.func10 (by
   unfold joinedFacts
   repeat' (with_reducible (first|refine and_t ?_ ?_|exact zb4|exact zb5|apply zd4|exact z8l|exact z8m|exact z8n|exact z8o|exact zco))
   all_goals kernel_rfl)
  (of_decide_eq_true (by kernel_rfl)) (by unfold Func.isWrapper;first|(rw[if_pos (by decide +kernel)];kernel_rfl)|(rw[if_neg (by decide +kernel)];exact⟨rfl,rfl⟩))
  (fun os started H enc _=>z5x os started H enc)
end Go.Proofs.YtmkmhhjkdaklbaaGreat
