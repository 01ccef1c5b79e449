/- What a row's closed facts ask of the program alone: reckoned once. No condition. -/
import Derived.Test.YtmkmhhjkdaklbaaGreatRows
import Derived.Test.YtmkmhhjkdaklbaaGreatAbArgs
import Derived.Test.YtmkmhhjkdaklbaaGreatRqP0s
set_option linter.unusedSimpArgs false
set_option linter.unusedVariables false
set_option linter.unusedSectionVars false
namespace Go.Proofs.YtmkmhhjkdaklbaaGreat
open Go
theorem and_t {a b:Bool} (h1:a=true) (h2:b=true):(a&&b)=true:=by rw[h1,h2];rfl
theorem zbV:laidOutB Tryz.pinned.checked.prog=true:=by kernel_rfl
theorem z9r:Tryz.pinned.checked.prog.stopsHeard=true:=by kernel_rfl
theorem z9s:Tryz.pinned.checked.prog.mayEnter=true:=by kernel_rfl
theorem zd5:Tryz.pinned.checked.prog.liftsFinal=false:=by kernel_rfl
theorem zdr {a:Bool} (h:a=false):(a==Tryz.pinned.checked.prog.liftsFinal)=true:=by rw[h,zd5];rfl
end Go.Proofs.YtmkmhhjkdaklbaaGreat
namespace Go.Proofs.YtmkmhhjkdaklbaaGreat
open Go Go.Ab Go.Cod
set_option maxRecDepth 100000
theorem z2I {f k:Int} {ps:List Byt} {B:Byt}:B.length≤(layF f k ps B).length:=by
 unfold layF;split
 · rw[List.length_append];omega
 · omega
theorem zaa {r:ReM} (h:mayR r=true):1≤(z0N r).length:=by
 unfold z0N;rw[if_pos h];unfold z0s putB2 putB1;refine Nat.le_trans ?_ z2I;refine Nat.le_trans ?_ z2I;refine Nat.le_trans ?_ z2I;refine Nat.le_trans ?_ z2I;refine Nat.le_trans ?_ z2I;refine Nat.le_trans ?_ z2I;refine Nat.le_trans ?_ z2I;refine Nat.le_trans ?_ z2I;refine Nat.le_trans ?_ z2I;exact Nat.le_refl _
theorem zab {r:ReM} (h:reIs r=true):6≤(z17 r).length:=by
 have h1:=zaa (z24 h).2.2;have h2:=(z24 h).2.1
 have h3:0<(putN r.tok.size).length:=by
  have:=z41 r.tok.size
  cases h:putN r.tok.size with
  |nil=>exact absurd h this
  |cons _ _=>simp
 unfold z17 txtB;rw[if_pos h,List.length_append,List.length_append,z1S];omega
theorem zbW {r:ReM} (hi:reIs r=true) (hs:SzA r) (t:Byt):∃v:ReM,z1W (wholeO (reqR (z17 r++t)))=.tup [reV v,Bo (t.length==0)]:=by
 rw[z9p hi hs t]
 cases t with
 |nil=>exact⟨z0C r,rfl⟩
 |cons _ _=>exact⟨noRe,rfl⟩
theorem zer (v:Nat):(((bitsF v:Nat):Int) != ((bitsF v:Nat):Int))=false:=by simp
theorem z8v (a:AcM) (ha:ActSz a) (tail:Byt) (c:Int):Ans Tryz.prog 14 [acV a,.sl 1 (byv tail),I c] [] (.pl (.bool true)) []:=by
 have u1:=fun s=>z3v s a
 have i1:=z49 a;have w1:=z5h ha;have m1:=z5f a;generalize z05 a=r at u1 i1 w1 m1;have p1:=fun s=>z25 s r
 have p2:=fun s=>z6w s r
 have hl:=z8u r;have hl2:=z5i r;have h6:=zab i1;have hb0:reqR (z17 r)=some (z0C r,[]):=by have:=z9p i1 w1 [];rwa [List.append_nil]at this
 have hb1:bodyR (z0N r)=some (noTok (z0C r),[]):=by have:=zbQ m1 w1 [];rwa [List.append_nil]at this
 obtain⟨vt,hvt⟩:=zbW i1 w1 tail;have hcut:=fun k hk=>zep (k:=k) i1 w1 hk
 have q1:=fun s=>z1X s (z17 r) (by omega)
 have q2:=fun s=>z7p s (z0N r) (by omega)
 rw[hb0]at q1;rw[hb1]at q2;have mc:mayR (z0C r)=true:=by rw[z3Q];exact m1
 have s1:=fun s=>z9q mc r s
 rw[z3R (x:=z0C r) (y:=r) (by unfold z0C;simp only[z2s])]at s1
 have b1:=fun s=>z3r s (bitsF r.val)
 have b2:=fun s=>z1U s r.val
 have bn:=zer r.val;have hnt:noTok (z0C r)={ z0C r with tok:=⟨#[]⟩ }:=rfl
 generalize z0N r=bl at p2 q2 hl2;obtain⟨b,hb⟩:∃b,b=z17 r:=⟨_,rfl⟩;rw[←hb]at p1 q1 hl h6 hvt hcut;have d300:decide ((300:Int)<tail.length)=decide (300<tail.length):=decNN 300 _;refine Ans.of_run t14 ?_;by_cases ht:300<tail.length
 · unfold acV acC at u1⊢;simp -implicitDefEqProofs only[c14,r14,go_sem,z06,d300,decide_eq_true ht];refine CO.intro (rq_b _) ?_;simp -implicitDefEqProofs only[go_sem];exact Fini.trim2 (σ':=[]) rfl rfl (Nat.le_refl _) (.pl _) (fun o ho=>by cases ho)
 · have q3:=fun s=>z1X s (b++tail) (by rw[List.length_append];omega)
   rw[hvt]at q3
   have he:b.isEmpty=false:=by cases b with
    |nil=>simp at h6
    |cons _ _=>rfl
   have l1:b.length≤4294967296:=by omega
   have l2:b.length+tail.length≤4294967296:=by omega
   have d6:decide ((b.length:Int)<6)=false:=by simp;omega
   have hne:0<b.length:=by omega
   obtain⟨k0,hk⟩:∃k0:Nat,(c<0∧k0=0)∨(c=k0):=by
    by_cases hc:c<0
    · exact⟨0,.inl ⟨hc,rfl⟩⟩
    · exact⟨c.toNat,.inr (by omega)⟩
   have hlt:k0%b.length<b.length:=Nat.mod_lt _ hne;have hz:((b.length:Int)=0)=False:=eq_false (by omega)
   have e2:((k0:Int).tmod b.length)=((k0%b.length:Nat):Int):=rfl;have e3:(((k0%b.length:Nat):Int)≤(b.length:Nat))=True:=eq_true (Int.ofNat_le.2 (Nat.le_of_lt hlt));have e4:((0:Int).tmod b.length)=((0%b.length:Nat):Int):=by simp
   have q4:=fun s=>z1X s (b.take (k0%b.length)) (by rw[List.length_take];omega)
   rw[hcut _ hlt]at q4;have e0:=z7w ((tail.length:Nat)==0);have dt:((tail.length:Int)==0)=(tail.length==0):=by rw[Bool.eq_iff_iff,beq_iff_eq,beq_iff_eq];omega
   have w0:wholeO (some (z0C r,([]:Byt)))=some (z0C r):=rfl;have w1:wholeO (some (noTok (z0C r),([]:Byt)))=some (noTok (z0C r)):=rfl;have w2:wholeO (none:Option (ReM×Byt))=none:=rfl;rw[w0]at q1;rw[w1]at q2;rw[w2]at q4;generalize ht0:(tail.length==0)=tz at *;unfold z1W at q1 q2 q4;unfold acV acC at u1⊢;unfold reV reC z0C noTok noRe at *;simp only at *;simp -implicitDefEqProofs only[c14,r14,go_sem,z06,d300,decide_eq_false ht];refine CO.intro (u1 _) ?_;simp -implicitDefEqProofs only[go_sem];refine CO.intro (p1 _) ?_;simp -implicitDefEqProofs only[go_sem];refine CO.intro (q1 _) ?_;simp -implicitDefEqProofs only[go_sem];refine CO.intro (p2 _) ?_;simp -implicitDefEqProofs only[go_sem];refine CO.intro (q2 _) ?_;simp -implicitDefEqProofs only[go_sem,z06,d6,g0,s0];refine CD.intro (s1 _) ?_;simp -implicitDefEqProofs only[go_sem];refine CD.intro (b1 _) ?_;simp -implicitDefEqProofs only[go_sem];refine CD.intro (b2 _) ?_;simp -implicitDefEqProofs only[go_sem,bn,g0,s0,z15,bc,zaX,he,z06,l1,l2];rw[←z0Z];refine CO.intro (Ans.shutArg (pre:=[]) (post:=[]) (xs:=byv (b++tail)) rfl (by rw[z06,List.length_append]) (q3 _)) ?_
   rcases hk with⟨hc,rfl⟩|rfl
   · have dc:decide (c<0)=true:=by simpa using hc
     simp -implicitDefEqProofs only[go_sem,dc,hz,e4,e3,z06,z35,z37,g0,s0];refine CO.intro (q4 _) ?_;simp -implicitDefEqProofs only[go_sem,g0];refine CO.intro (s1 _) ?_;simp -implicitDefEqProofs only[go_sem,z06,dt,e0];refine CO.intro (rq_b _) ?_;simp -implicitDefEqProofs only[go_sem];exact Fini.trim2 (σ':=[]) rfl rfl (Nat.le_refl _) (.pl _) (fun o ho=>by cases ho)
   · have dc:decide ((k0:Int)<0)=false:=by simp
     simp -implicitDefEqProofs only[go_sem,dc,hz,e2,e3,z06,z35,z37,g0,s0];refine CO.intro (q4 _) ?_;simp -implicitDefEqProofs only[go_sem,g0];refine CO.intro (s1 _) ?_;simp -implicitDefEqProofs only[go_sem,z06,dt,e0];refine CO.intro (rq_b _) ?_;simp -implicitDefEqProofs only[go_sem];exact Fini.trim2 (σ':=[]) rfl rfl (Nat.le_refl _) (.pl _) (fun o ho=>by cases ho)
end Go.Proofs.YtmkmhhjkdaklbaaGreat
