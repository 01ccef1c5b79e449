/- A request without its token, read by the document, at some of the strings of fields. Printed by a program. No condition. -/
import Derived.Test.YtmkmhhjkdaklbaaGreatRd5au
import Derived.Test.YtmkmhhjkdaklbaaGreatProg
import Derived.Test.YtmkmhhjkdaklbaaGreatAbStepu
import Derived.Test.YtmkmhhjkdaklbaaGreatRd3au
import Derived.Test.YtmkmhhjkdaklbaaGreatXPPar4u
import Derived.Test.YtmkmhhjkdaklbaaGreatXRu3u
import Derived.Test.YtmkmhhjkdaklbaaGreatXRu4u
import Derived.Test.YtmkmhhjkdaklbaaGreatXRu8u
import Derived.Test.YtmkmhhjkdaklbaaGreatAbTreeu
import Derived.Test.YtmkmhhjkdaklbaaGreatRd1u
set_option linter.unusedSimpArgs false
set_option linter.unusedVariables false
set_option linter.unusedSectionVars false
namespace Go.Proofs.YtmkmhhjkdaklbaaGreat
open Go Go.Ab Go.Cod
set_option maxRecDepth 100000
section
variable (σ:St)
def ziW (c:UInt8) (o:Option ReM):AV:=match o with
 |some x=>.tup [.agg (XC116 c (UN x.st) (UN x.en) (mlV x.mt) (Bo x.any) (Fl x.lo) (Fl x.hi)),Bo true]
 |none=>.tup [noReV,Bo false]
theorem ze2 (c:UInt8) (t0:Byt):Sub (ziW c (wholeO (onlyR (z2w (c.toNat:Int)) mayR t0))) (z0N (wholeO (onlyR (z2w (c.toNat:Int)) mayR t0))):=by
 simp only[onlyR,z2w]
 cases numR 1099511627776 t0 with
 |none=>exact z0e
 |some p =>
 obtain⟨v0,t1⟩:=p;simp only[Option.bind_some]
 cases numR 1099511627776 t1 with
 |none=>exact z0e
 |some p =>
 obtain⟨v1,t2⟩:=p;simp only[Option.bind_some]
 cases listR t2 with
 |none=>exact z0e
 |some p =>
 obtain⟨v2,t3⟩:=p;simp only[Option.bind_some]
 cases bandR t3 with
 |none=>exact z0e
 |some p =>
 obtain⟨v3,t4⟩:=p;simp only[Option.bind_some];split
 · cases t4 with
   |nil=>exact .tup (.cons (.agg (.cons (.refl _) <| .cons (.refl _) <| .cons (.refl _) <| .cons (.refl _) <| .cons (.refl _) <| .cons (.refl _) <| .cons (.refl _) <| .cons (.refl _) <| .cons (.refl _) <| .cons (.refl _) <| .cons (.refl _) <| .cons (.nils 3) <| .cons (.nils 3) <| .cons (.refl _) <| .cons (.refl _) <| .cons (.refl _) <| .cons (.nils 1) <| .cons (.nils 2) <| .cons (.refl _) <| .nil)) (.refl _))
   |cons _ _=>exact z0e
 · exact z0e
set_option maxHeartbeats 16000000 in
theorem ze3 (b:Byt) (hb:b.length≤50000) (c:UInt8) (t0:Byt) (hbt:b=c::t0) (hd:dOf (c.toNat:Int)=S116) :
  Ans Tryz.prog 46 [.sl 1 (byv b)] σ (z0N (wholeO (onlyR (z2w (c.toNat:Int)) mayR t0))) σ:=by
 obtain⟨hbl,dn,hpos,hx,wc,dr0,le0⟩:=z2A b c t0 hbt;have kf:=z0r (σ++[B19,.box (XC116 c (UN 0) (UN 0) (.nils) (Bo false) (Fl 0) (Fl 0))]) (c.toNat:Int);rw[hd]at kf;refine Ans.subR ?_ (ze2 c t0);refine Ans.of_run' t46 (fun hbel _=>?_)
 simp -implicitDefEqProofs only[c46,r46,go_sem,dn,hpos,hx,bc,wc,List.append_assoc,List.length_append];refine CO.intro kf ?_;simp -implicitDefEqProofs only[go_sem];refine L.step fun J hJ=>?_
 simp -implicitDefEqProofs only[go_sem,z00,List.take_length,zfJ,le0,dr0]
 cases h0:numR 1099511627776 t0 with
 |none =>
  have hW:wholeO (onlyR (z2w (c.toNat:Int)) mayR t0)=none:=by simp only[onlyR,z2w,h0,Option.bind_some,Option.bind_none];rfl
  rw[hW];refine CD.intro (zb1 (σ++[B19,.box (XC116 c (UN 0) (UN 0) (.nils) (Bo false) (Fl 0) (Fl 0))]) (σ.length+1) t0 (by omega) _ _ _ _ _ _ _ _ _ _ _ _ _ _ _ _ _ _ (g1 _ _ _ _) h0) ?_
  simp -implicitDefEqProofs only[go_sem,z00,List.take_length];exact tr_ (σ':=σ) (ex:=[_,_]) rfl (z0d _) hbel
 |some x0 =>
 obtain⟨v0,t1⟩:=x0;obtain⟨dr1,lo0,hi0⟩:=(ends_num _).drop (b:=b) (a:=1) (by omega) (by rw[dr0];exact h0)
 have hlt0:=z1E (ends_num _) h0;have ad0:IntKind.i64.wrap ((1:Int)+((t0.length-t1.length:Nat):Int))=((b.length-t1.length:Nat):Int):=by rw[wrapN (by omega) (by omega)];omega
 have le1:(((b.length-t1.length:Nat):Int)≤(b.length:Nat))=True:=eq_true (by omega)
 have k0:=zb2 (σ++[B19,.box (XC116 c (UN 0) (UN 0) (.nils) (Bo false) (Fl 0) (Fl 0))]) (σ.length+1) t0 (by omega) _ _ _ _ _ _ _ _ _ _ _ _ _ _ _ _ _ _ _ (g1 _ _ _ _) v0 t1 h0
 rw[s1]at k0;refine CD.intro k0 ?_;simp -implicitDefEqProofs only[go_sem,z00,ad0,List.take_length];refine hJ _ _ ?_;clear hJ k0;refine L.step fun J hJ=>?_
 simp -implicitDefEqProofs only[go_sem,z00,List.take_length,zfK,le1,dr1]
 cases h1:numR 1099511627776 t1 with
 |none =>
  have hW:wholeO (onlyR (z2w (c.toNat:Int)) mayR t0)=none:=by simp only[onlyR,z2w,h0,h1,Option.bind_some,Option.bind_none];rfl
  rw[hW];refine CD.intro (zb3 (σ++[B19,.box (XC116 c (UN v0) (UN 0) (.nils) (Bo false) (Fl 0) (Fl 0))]) (σ.length+1) t1 (by omega) _ _ _ _ _ _ _ _ _ _ _ _ _ _ _ _ _ _ (g1 _ _ _ _) h1) ?_
  simp -implicitDefEqProofs only[go_sem,z00,List.take_length];exact tr_ (σ':=σ) (ex:=[_,_]) rfl (z0d _) hbel
 |some x1 =>
 obtain⟨v1,t2⟩:=x1;obtain⟨dr2,lo1,hi1⟩:=(ends_num _).drop (b:=b) (a:=(b.length-t1.length)) (by omega) (by rw[dr1];exact h1)
 have hlt1:=z1E (ends_num _) h1;have ad1:IntKind.i64.wrap (((b.length-t1.length:Nat):Int)+((t1.length-t2.length:Nat):Int))=((b.length-t2.length:Nat):Int):=by rw[wrapN (by omega) (by omega)];omega
 have le2:(((b.length-t2.length:Nat):Int)≤(b.length:Nat))=True:=eq_true (by omega)
 have k1:=zb4 (σ++[B19,.box (XC116 c (UN v0) (UN 0) (.nils) (Bo false) (Fl 0) (Fl 0))]) (σ.length+1) t1 (by omega) _ _ _ _ _ _ _ _ _ _ _ _ _ _ _ _ _ _ _ (g1 _ _ _ _) v1 t2 h1
 rw[s1]at k1;refine CD.intro k1 ?_;simp -implicitDefEqProofs only[go_sem,z00,ad1,List.take_length];refine hJ _ _ ?_;clear hJ k1;refine L.step fun J hJ=>?_
 simp -implicitDefEqProofs only[go_sem,z00,List.take_length,zfL,le2,dr2]
 cases h2:listR t2 with
 |none =>
  have hW:wholeO (onlyR (z2w (c.toNat:Int)) mayR t0)=none:=by simp only[onlyR,z2w,h0,h1,h2,Option.bind_some,Option.bind_none];rfl
  rw[hW];refine CD.intro (z7T (σ++[B19,.box (XC116 c (UN v0) (UN v1) (.nils) (Bo false) (Fl 0) (Fl 0))]) (σ.length+1) t2 (by omega) _ _ _ _ _ _ _ _ _ _ _ _ _ _ _ _ _ _ (g1 _ _ _ _) h2) ?_
  simp -implicitDefEqProofs only[go_sem,z00,List.take_length];exact tr_ (σ':=σ) (ex:=[_,_]) rfl (z0d _) hbel
 |some x2 =>
 obtain⟨v2,t3⟩:=x2;obtain⟨dr3,lo2,hi2⟩:=ends_list.drop (b:=b) (a:=(b.length-t2.length)) (by omega) (by rw[dr2];exact h2)
 have hlt2:=z1E ends_list h2;have ad2:IntKind.i64.wrap (((b.length-t2.length:Nat):Int)+((t2.length-t3.length:Nat):Int))=((b.length-t3.length:Nat):Int):=by rw[wrapN (by omega) (by omega)];omega
 have le3:(((b.length-t3.length:Nat):Int)≤(b.length:Nat))=True:=eq_true (by omega)
 have k2:=z7U (σ++[B19,.box (XC116 c (UN v0) (UN v1) (.nils) (Bo false) (Fl 0) (Fl 0))]) (σ.length+1) t2 (by omega) _ _ _ _ _ _ _ _ _ _ _ _ _ _ _ _ _ _ _ (g1 _ _ _ _) v2 t3 h2
 rw[s1]at k2;refine CD.intro k2 ?_;simp -implicitDefEqProofs only[go_sem,z00,ad2,List.take_length];refine hJ _ _ ?_;clear hJ k2;refine L.step fun J hJ=>?_
 simp -implicitDefEqProofs only[go_sem,z00,List.take_length,zfM,le3,dr3]
 cases h3:bandR t3 with
 |none =>
  have hW:wholeO (onlyR (z2w (c.toNat:Int)) mayR t0)=none:=by simp only[onlyR,z2w,h0,h1,h2,h3,Option.bind_some,Option.bind_none];rfl
  rw[hW];refine CD.intro (zb5 (σ++[B19,.box (XC116 c (UN v0) (UN v1) (mlV v2) (Bo false) (Fl 0) (Fl 0))]) (σ.length+1) t3 (by omega) _ _ _ _ _ _ _ _ _ _ _ _ _ _ _ _ (g1 _ _ _ _) h3) ?_
  simp -implicitDefEqProofs only[go_sem,z00,List.take_length];exact tr_ (σ':=σ) (ex:=[_,_]) rfl (z0d _) hbel
 |some x3 =>
 obtain⟨v3,t4⟩:=x3;obtain⟨dr4,lo3,hi3⟩:=ends_band.drop (b:=b) (a:=(b.length-t3.length)) (by omega) (by rw[dr3];exact h3)
 have hlt3:=z1E ends_band h3;have ad3:IntKind.i64.wrap (((b.length-t3.length:Nat):Int)+((t3.length-t4.length:Nat):Int))=((b.length-t4.length:Nat):Int):=by rw[wrapN (by omega) (by omega)];omega
 have le4:(((b.length-t4.length:Nat):Int)≤(b.length:Nat))=True:=eq_true (by omega)
 have k3:=zb6 (σ++[B19,.box (XC116 c (UN v0) (UN v1) (mlV v2) (Bo false) (Fl 0) (Fl 0))]) (σ.length+1) t3 (by omega) _ _ _ _ _ _ _ _ _ _ _ _ _ _ _ _ _ _ _ (g1 _ _ _ _) v3 t4 h3
 rw[s1]at k3;refine CD.intro k3 ?_;simp -implicitDefEqProofs only[go_sem,z00,ad3,List.take_length];refine hJ _ _ ?_;clear hJ k3;refine L.step fun J hJ=>?_
 have hcl:onlyR (z2w (c.toNat:Int)) mayR t0=if mayR (mk116 (c.toNat:Int) (v0,v1,v2,v3)) then some (mk116 (c.toNat:Int) (v0,v1,v2,v3),t4) else none:=by simp only[onlyR,z2w,h0,h1,h2,h3,Option.bind_some]
 rw[hcl];have hsub:Sub (.agg (XC116 c (UN v0) (UN v1) (mlV v2) (Bo v3.1) (Fl v3.2.1) (Fl v3.2.2))) (reV (mk116 (c.toNat:Int) (v0,v1,v2,v3))):=.agg (.cons (.refl _) <| .cons (.refl _) <| .cons (.refl _) <| .cons (.refl _) <| .cons (.refl _) <| .cons (.refl _) <| .cons (.refl _) <| .cons (.refl _) <| .cons (.refl _) <| .cons (.refl _) <| .cons (.refl _) <| .cons (.nils 3) <| .cons (.nils 3) <| .cons (.refl _) <| .cons (.refl _) <| .cons (.refl _) <| .cons (.nils 1) <| .cons (.nils 2) <| .cons (.refl _) <| .nil);have hsm:ReSm (mk116 (c.toNat:Int) (v0,v1,v2,v3)):=⟨z1Z (listB_fits.bwd _ _ _ h2).1,z3R,(by intro x h;cases h)⟩
 have km:=(z1L (σ++[B19,.box (XC116 c (UN v0) (UN v1) (mlV v2) (Bo v3.1) (Fl v3.2.1) (Fl v3.2.2))]) (mk116 (c.toNat:Int) (v0,v1,v2,v3)) hsm).subA (.cons hsub .nil);by_cases ht:t4=[]
 · have hk0:t4.length=0:=by rw[ht];rfl
   have de:(((b.length-t4.length:Nat):Int) != ((b.length:Nat):Int))=false:=by
    rw[bne,show((b.length-t4.length:Nat):Int)=((b.length:Nat):Int) from by omega]
    simp
   have hbl2:Bel σ.length (.agg (XC116 c (UN v0) (UN v1) (mlV v2) (Bo v3.1) (Fl v3.2.1) (Fl v3.2.2))):=.agg _ (fun i hi=>by
     have:∀y∈(XC116 c (UN v0) (UN v1) (mlV v2) (Bo v3.1) (Fl v3.2.1) (Fl v3.2.2):List AV),Bel σ.length y:=by
      intro y hy;simp only[List.mem_cons,List.not_mem_nil,or_false]at hy;rcases hy with rfl|rfl|rfl|rfl|rfl|rfl|rfl|rfl|rfl|rfl|rfl|rfl|rfl|rfl|rfl|rfl|rfl|rfl|rfl
      all_goals first|exact .pl _|exact .nils|exact z09 _ _|exact z0u _ _|exact z0g _ _
     exact this _ (List.getElem_mem hi))
   simp -implicitDefEqProofs only[go_sem,List.take_length,de];refine CO.intro km ?_
   cases hm:mayR (mk116 (c.toNat:Int) (v0,v1,v2,v3)) with
   |false =>
    simp -implicitDefEqProofs only[go_sem];exact tr_ (σ':=σ) (ex:=[_,_]) rfl (z0d _) hbel
   |true =>
    have hW:wholeO (if true=true then some (mk116 (c.toNat:Int) (v0,v1,v2,v3),t4) else none)=some (mk116 (c.toNat:Int) (v0,v1,v2,v3)):=by rw[ht];rfl
    rw[hW];simp -implicitDefEqProofs only[go_sem];exact tr_ (σ':=σ) (ex:=[_,_]) rfl (z1P hbl2) hbel
 · have hkp:0<t4.length:=by cases t4 with
    |nil=>exact absurd rfl ht
    |cons _ _=>simp
   have de:(((b.length-t4.length:Nat):Int) != ((b.length:Nat):Int))=true:=by
    rw[bne,neI (show((b.length-t4.length:Nat):Int)≠((b.length:Nat):Int) by omega)];rfl
   have hW:wholeO (if mayR (mk116 (c.toNat:Int) (v0,v1,v2,v3))=true then some (mk116 (c.toNat:Int) (v0,v1,v2,v3),t4) else none)=none:=by
    split
    · cases ht2:t4 with
      |nil=>exact absurd ht2 ht
      |cons _ _=>rfl
    · rfl
   rw[hW];simp -implicitDefEqProofs only[go_sem,List.take_length,de];exact tr_ (σ':=σ) (ex:=[_,_]) rfl (z0d _) hbel
end
section
variable (σ:St)
def wk8_ (c:UInt8) (o:Option ReM):AV:=match o with
 |some x=>.tup [.agg (XC8 c (I x.sta)),Bo true]
 |none=>.tup [noReV,Bo false]
theorem zhD (c:UInt8) (t0:Byt):Sub (wk8_ c (wholeO (onlyR (dR_8 (c.toNat:Int)) mayR t0))) (z0N (wholeO (onlyR (dR_8 (c.toNat:Int)) mayR t0))):=by
 simp only[onlyR,dR_8]
 cases byteR t0 with
 |none=>exact z0e
 |some p =>
 obtain⟨v0,t1⟩:=p;simp only[Option.bind_some];split
 · cases t1 with
   |nil=>exact .tup (.cons (.agg (.cons (.refl _) <| .cons (.refl _) <| .cons (.refl _) <| .cons (.refl _) <| .cons (.refl _) <| .cons (.refl _) <| .cons (.refl _) <| .cons (.nils 3) <| .cons (.refl _) <| .cons (.refl _) <| .cons (.refl _) <| .cons (.nils 3) <| .cons (.nils 3) <| .cons (.refl _) <| .cons (.refl _) <| .cons (.refl _) <| .cons (.nils 1) <| .cons (.nils 2) <| .cons (.refl _) <| .nil)) (.refl _))
   |cons _ _=>exact z0e
 · exact z0e
set_option maxHeartbeats 16000000 in
theorem zhE (b:Byt) (hb:b.length≤50000) (c:UInt8) (t0:Byt) (hbt:b=c::t0) (hd:dOf (c.toNat:Int)=S8) :
  Ans Tryz.prog 46 [.sl 1 (byv b)] σ (z0N (wholeO (onlyR (dR_8 (c.toNat:Int)) mayR t0))) σ:=by
 obtain⟨hbl,dn,hpos,hx,wc,dr0,le0⟩:=z2A b c t0 hbt;have kf:=z0r (σ++[B19,.box (XC8 c (I 0))]) (c.toNat:Int);rw[hd]at kf;refine Ans.subR ?_ (zhD c t0);refine Ans.of_run' t46 (fun hbel _=>?_)
 simp -implicitDefEqProofs only[c46,r46,go_sem,dn,hpos,hx,bc,wc,List.append_assoc,List.length_append];refine CO.intro kf ?_;simp -implicitDefEqProofs only[go_sem];refine L.step fun J hJ=>?_
 simp -implicitDefEqProofs only[go_sem,z00,List.take_length,ziR,le0,dr0]
 cases h0:byteR t0 with
 |none =>
  have hW:wholeO (onlyR (dR_8 (c.toNat:Int)) mayR t0)=none:=by simp only[onlyR,dR_8,h0,Option.bind_some,Option.bind_none];rfl
  rw[hW];refine CD.intro (zfA (σ++[B19,.box (XC8 c (I 0))]) (σ.length+1) t0 (by omega) _ _ _ _ _ _ _ _ _ _ _ _ _ _ _ _ _ _ _ (g1 _ _ _ _) (ze0 h0)) ?_
  simp -implicitDefEqProofs only[go_sem,z00,List.take_length];exact tr_ (σ':=σ) (ex:=[_,_]) rfl (z0d _) hbel
 |some x0 =>
 obtain⟨v0,t1⟩:=x0;obtain⟨dr1,lo0,hi0⟩:=ends_byte.drop (b:=b) (a:=1) (by omega) (by rw[dr0];exact h0)
 have hlt0:=z1E ends_byte h0;have ht0:=zc4 h0;have h1l0:t0.length=t1.length+1:=by rw[ht0];rfl
 have ad0:IntKind.i64.wrap ((1:Int)+1)=((b.length-t1.length:Nat):Int):=by rw[wrapN (by omega) (by omega)];omega
 have le1:(((b.length-t1.length:Nat):Int)≤(b.length:Nat))=True:=eq_true (by omega)
 have k0:=zfB (σ++[B19,.box (XC8 c (I 0))]) (σ.length+1) t0 (by omega) _ _ _ _ _ _ _ _ _ _ _ _ _ _ _ _ _ _ _ (g1 _ _ _ _) v0 t1 ht0
 rw[s1]at k0;refine CD.intro k0 ?_;simp -implicitDefEqProofs only[go_sem,z00,ad0,List.take_length];refine hJ _ _ ?_;clear hJ k0;refine L.step fun J hJ=>?_
 have hcl:onlyR (dR_8 (c.toNat:Int)) mayR t0=if mayR ({ x0 (c.toNat:Int) with sta:=(((v0).toNat:Nat):Int) }) then some ({ x0 (c.toNat:Int) with sta:=(((v0).toNat:Nat):Int) },t1) else none:=by simp only[onlyR,dR_8,h0,Option.bind_some]
 rw[hcl];have hsub:Sub (.agg (XC8 c (I (v0.toNat:Nat)))) (reV ({ x0 (c.toNat:Int) with sta:=(((v0).toNat:Nat):Int) })):=.agg (.cons (.refl _) <| .cons (.refl _) <| .cons (.refl _) <| .cons (.refl _) <| .cons (.refl _) <| .cons (.refl _) <| .cons (.refl _) <| .cons (.nils 3) <| .cons (.refl _) <| .cons (.refl _) <| .cons (.refl _) <| .cons (.nils 3) <| .cons (.nils 3) <| .cons (.refl _) <| .cons (.refl _) <| .cons (.refl _) <| .cons (.nils 1) <| .cons (.nils 2) <| .cons (.refl _) <| .nil)
 have hsm:ReSm ({ x0 (c.toNat:Int) with sta:=(((v0).toNat:Nat):Int) }):=⟨(by intro x h;cases h),z3R,(by intro x h;cases h)⟩
 have km:=(z1L (σ++[B19,.box (XC8 c (I (v0.toNat:Nat)))]) ({ x0 (c.toNat:Int) with sta:=(((v0).toNat:Nat):Int) }) hsm).subA (.cons hsub .nil)
 by_cases ht:t1=[]
 · have hk0:t1.length=0:=by rw[ht];rfl
   have de:((2:Int) != ((b.length:Nat):Int))=false:=by
    rw[bne,show(2:Int)=((b.length:Nat):Int) from by omega]
    simp
   have hbl2:Bel σ.length (.agg (XC8 c (I (v0.toNat:Nat)))):=.agg _ (fun i hi=>by
     have:∀y∈(XC8 c (I (v0.toNat:Nat)):List AV),Bel σ.length y:=by
      intro y hy;simp only[List.mem_cons,List.not_mem_nil,or_false]at hy;rcases hy with rfl|rfl|rfl|rfl|rfl|rfl|rfl|rfl|rfl|rfl|rfl|rfl|rfl|rfl|rfl|rfl|rfl|rfl|rfl
      all_goals first|exact .pl _|exact .nils|exact z09 _ _|exact z0u _ _|exact z0g _ _
     exact this _ (List.getElem_mem hi))
   simp -implicitDefEqProofs only[go_sem,List.take_length,de];refine CO.intro km ?_
   cases hm:mayR ({ x0 (c.toNat:Int) with sta:=(((v0).toNat:Nat):Int) }) with
   |false =>
    simp -implicitDefEqProofs only[go_sem];exact tr_ (σ':=σ) (ex:=[_,_]) rfl (z0d _) hbel
   |true =>
    have hW:wholeO (if true=true then some ({ x0 (c.toNat:Int) with sta:=(((v0).toNat:Nat):Int) },t1) else none)=some ({ x0 (c.toNat:Int) with sta:=(((v0).toNat:Nat):Int) }):=by rw[ht];rfl
    rw[hW];simp -implicitDefEqProofs only[go_sem];exact tr_ (σ':=σ) (ex:=[_,_]) rfl (z1P hbl2) hbel
 · have hkp:0<t1.length:=by cases t1 with
    |nil=>exact absurd rfl ht
    |cons _ _=>simp
   have de:((2:Int) != ((b.length:Nat):Int))=true:=by
    rw[bne,neI (show(2:Int)≠((b.length:Nat):Int) by omega)];rfl
   have hW:wholeO (if mayR ({ x0 (c.toNat:Int) with sta:=(((v0).toNat:Nat):Int) })=true then some ({ x0 (c.toNat:Int) with sta:=(((v0).toNat:Nat):Int) },t1) else none)=none:=by
    split
    · cases ht2:t1 with
      |nil=>exact absurd ht2 ht
      |cons _ _=>rfl
    · rfl
   rw[hW];simp -implicitDefEqProofs only[go_sem,List.take_length,de];exact tr_ (σ':=σ) (ex:=[_,_]) rfl (z0d _) hbel
def ziX (c:UInt8) (o:Option ReM):AV:=match o with
 |some x=>.tup [.agg (XC128 c (mlV x.ru.src) (mlV x.ru.tgt) (Bo x.ru.any) (Fl x.ru.lo) (Fl x.ru.hi) (.sl 1 (txs x.ru.eq))),Bo true]
 |none=>.tup [noReV,Bo false]
theorem ze4 (c:UInt8) (t0:Byt):Sub (ziX c (wholeO (onlyR (z43 (c.toNat:Int)) mayR t0))) (z0N (wholeO (onlyR (z43 (c.toNat:Int)) mayR t0))):=by
 simp only[onlyR,z43]
 cases ruR t0 with
 |none=>exact z0e
 |some p =>
 obtain⟨v0,t1⟩:=p;simp only[Option.bind_some];split
 · cases t1 with
   |nil=>exact .tup (.cons (.agg (.cons (.refl _) <| .cons (.refl _) <| .cons (.refl _) <| .cons (.refl _) <| .cons (.refl _) <| .cons (.refl _) <| .cons (.refl _) <| .cons (.nils 3) <| .cons (.refl _) <| .cons (.refl _) <| .cons (.refl _) <| .cons (.refl _) <| .cons (.refl _) <| .cons (.refl _) <| .cons (.refl _) <| .cons (.refl _) <| .cons (.refl _) <| .cons (.nils 2) <| .cons (.refl _) <| .nil)) (.refl _))
   |cons _ _=>exact z0e
 · exact z0e
set_option maxHeartbeats 16000000 in
theorem ze5 (b:Byt) (hb:b.length≤50000) (c:UInt8) (t0:Byt) (hbt:b=c::t0) (hd:dOf (c.toNat:Int)=S128) :
  Ans Tryz.prog 46 [.sl 1 (byv b)] σ (z0N (wholeO (onlyR (z43 (c.toNat:Int)) mayR t0))) σ:=by
 obtain⟨hbl,dn,hpos,hx,wc,dr0,le0⟩:=z2A b c t0 hbt;have kf:=z0r (σ++[B19,.box (XC128 c (.nils) (.nils) (Bo false) (Fl 0) (Fl 0) (.nils))]) (c.toNat:Int);rw[hd]at kf;refine Ans.subR ?_ (ze4 c t0);refine Ans.of_run' t46 (fun hbel _=>?_)
 simp -implicitDefEqProofs only[c46,r46,go_sem,dn,hpos,hx,bc,wc,List.append_assoc,List.length_append];refine CO.intro kf ?_;simp -implicitDefEqProofs only[go_sem];refine L.step fun J hJ=>?_
 simp -implicitDefEqProofs only[go_sem,z00,List.take_length,zfS,le0,dr0]
 cases h0:ruR t0 with
 |none =>
  have hW:wholeO (onlyR (z43 (c.toNat:Int)) mayR t0)=none:=by simp only[onlyR,z43,h0,Option.bind_some,Option.bind_none];rfl
  rw[hW];refine CD.intro (zfC (σ++[B19,.box (XC128 c (.nils) (.nils) (Bo false) (Fl 0) (Fl 0) (.nils))]) (σ.length+1) t0 (by omega) _ _ _ _ _ _ _ _ _ _ _ _ _ (g1 _ _ _ _) h0) ?_
  simp -implicitDefEqProofs only[go_sem,z00,List.take_length];exact tr_ (σ':=σ) (ex:=[_,_]) rfl (z0d _) hbel
 |some x0 =>
 obtain⟨v0,t1⟩:=x0;obtain⟨dr1,lo0,hi0⟩:=ends_ru.drop (b:=b) (a:=1) (by omega) (by rw[dr0];exact h0)
 have hlt0:=z1E ends_ru h0;have ad0:IntKind.i64.wrap ((1:Int)+((t0.length-t1.length:Nat):Int))=((b.length-t1.length:Nat):Int):=by rw[wrapN (by omega) (by omega)];omega
 have le1:(((b.length-t1.length:Nat):Int)≤(b.length:Nat))=True:=eq_true (by omega)
 have k0:=zfD (σ++[B19,.box (XC128 c (.nils) (.nils) (Bo false) (Fl 0) (Fl 0) (.nils))]) (σ.length+1) t0 (by omega) _ _ _ _ _ _ _ _ _ _ _ _ _ _ _ _ _ _ _ (g1 _ _ _ _) v0 t1 h0
 rw[s1]at k0;refine CD.intro k0 ?_;simp -implicitDefEqProofs only[go_sem,z00,ad0,List.take_length];refine hJ _ _ ?_;clear hJ k0;refine L.step fun J hJ=>?_
 have hcl:onlyR (z43 (c.toNat:Int)) mayR t0=if mayR ({ x0 (c.toNat:Int) with ru:=v0 }) then some ({ x0 (c.toNat:Int) with ru:=v0 },t1) else none:=by simp only[onlyR,z43,h0,Option.bind_some]
 rw[hcl];have hsub:Sub (.agg (XC128 c (mlV v0.src) (mlV v0.tgt) (Bo v0.any) (Fl v0.lo) (Fl v0.hi) (.sl 1 (txs v0.eq)))) (reV ({ x0 (c.toNat:Int) with ru:=v0 })):=.agg (.cons (.refl _) <| .cons (.refl _) <| .cons (.refl _) <| .cons (.refl _) <| .cons (.refl _) <| .cons (.refl _) <| .cons (.refl _) <| .cons (.nils 3) <| .cons (.refl _) <| .cons (.refl _) <| .cons (.refl _) <| .cons (.refl _) <| .cons (.refl _) <| .cons (.refl _) <| .cons (.refl _) <| .cons (.refl _) <| .cons (.refl _) <| .cons (.nils 2) <| .cons (.refl _) <| .nil)
 have hsm:ReSm ({ x0 (c.toNat:Int) with ru:=v0 }):=⟨(by intro x h;cases h),ru_sm (ru_fits.bwd _ _ _ h0).1.1,(by intro x h;cases h)⟩
 have km:=(z1L (σ++[B19,.box (XC128 c (mlV v0.src) (mlV v0.tgt) (Bo v0.any) (Fl v0.lo) (Fl v0.hi) (.sl 1 (txs v0.eq)))]) ({ x0 (c.toNat:Int) with ru:=v0 }) hsm).subA (.cons hsub .nil)
 by_cases ht:t1=[]
 · have hk0:t1.length=0:=by rw[ht];rfl
   have de:(((b.length-t1.length:Nat):Int) != ((b.length:Nat):Int))=false:=by
    rw[bne,show((b.length-t1.length:Nat):Int)=((b.length:Nat):Int) from by omega]
    simp
   have hbl2:Bel σ.length (.agg (XC128 c (mlV v0.src) (mlV v0.tgt) (Bo v0.any) (Fl v0.lo) (Fl v0.hi) (.sl 1 (txs v0.eq)))):=.agg _ (fun i hi=>by
     have:∀y∈(XC128 c (mlV v0.src) (mlV v0.tgt) (Bo v0.any) (Fl v0.lo) (Fl v0.hi) (.sl 1 (txs v0.eq)):List AV),Bel σ.length y:=by
      intro y hy;simp only[List.mem_cons,List.not_mem_nil,or_false]at hy;rcases hy with rfl|rfl|rfl|rfl|rfl|rfl|rfl|rfl|rfl|rfl|rfl|rfl|rfl|rfl|rfl|rfl|rfl|rfl|rfl
      all_goals first|exact .pl _|exact .nils|exact z09 _ _|exact z0u _ _|exact z0g _ _
     exact this _ (List.getElem_mem hi))
   simp -implicitDefEqProofs only[go_sem,List.take_length,de];refine CO.intro km ?_
   cases hm:mayR ({ x0 (c.toNat:Int) with ru:=v0 }) with
   |false =>
    simp -implicitDefEqProofs only[go_sem];exact tr_ (σ':=σ) (ex:=[_,_]) rfl (z0d _) hbel
   |true =>
    have hW:wholeO (if true=true then some ({ x0 (c.toNat:Int) with ru:=v0 },t1) else none)=some ({ x0 (c.toNat:Int) with ru:=v0 }):=by rw[ht];rfl
    rw[hW];simp -implicitDefEqProofs only[go_sem];exact tr_ (σ':=σ) (ex:=[_,_]) rfl (z1P hbl2) hbel
 · have hkp:0<t1.length:=by cases t1 with
    |nil=>exact absurd rfl ht
    |cons _ _=>simp
   have de:(((b.length-t1.length:Nat):Int) != ((b.length:Nat):Int))=true:=by
    rw[bne,neI (show((b.length-t1.length:Nat):Int)≠((b.length:Nat):Int) by omega)];rfl
   have hW:wholeO (if mayR ({ x0 (c.toNat:Int) with ru:=v0 })=true then some ({ x0 (c.toNat:Int) with ru:=v0 },t1) else none)=none:=by
    split
    · cases ht2:t1 with
      |nil=>exact absurd ht2 ht
      |cons _ _=>rfl
    · rfl
   rw[hW];simp -implicitDefEqProofs only[go_sem,List.take_length,de];exact tr_ (σ':=σ) (ex:=[_,_]) rfl (z0d _) hbel
def wk16_ (c:UInt8) (o:Option ReM):AV:=match o with
 |some x=>.tup [.agg (XC16 c (mlV x.mt)),Bo true]
 |none=>.tup [noReV,Bo false]
theorem zfV (c:UInt8) (t0:Byt):Sub (wk16_ c (wholeO (onlyR (dR_16 (c.toNat:Int)) mayR t0))) (z0N (wholeO (onlyR (dR_16 (c.toNat:Int)) mayR t0))):=by
 simp only[onlyR,dR_16]
 cases listR t0 with
 |none=>exact z0e
 |some p =>
 obtain⟨v0,t1⟩:=p;simp only[Option.bind_some];split
 · cases t1 with
   |nil=>exact .tup (.cons (.agg (.cons (.refl _) <| .cons (.refl _) <| .cons (.refl _) <| .cons (.refl _) <| .cons (.refl _) <| .cons (.refl _) <| .cons (.refl _) <| .cons (.refl _) <| .cons (.refl _) <| .cons (.refl _) <| .cons (.refl _) <| .cons (.nils 3) <| .cons (.nils 3) <| .cons (.refl _) <| .cons (.refl _) <| .cons (.refl _) <| .cons (.nils 1) <| .cons (.nils 2) <| .cons (.refl _) <| .nil)) (.refl _))
   |cons _ _=>exact z0e
 · exact z0e
set_option maxHeartbeats 16000000 in
theorem zfW (b:Byt) (hb:b.length≤50000) (c:UInt8) (t0:Byt) (hbt:b=c::t0) (hd:dOf (c.toNat:Int)=S16) :
  Ans Tryz.prog 46 [.sl 1 (byv b)] σ (z0N (wholeO (onlyR (dR_16 (c.toNat:Int)) mayR t0))) σ:=by
 obtain⟨hbl,dn,hpos,hx,wc,dr0,le0⟩:=z2A b c t0 hbt;have kf:=z0r (σ++[B19,.box (XC16 c (.nils))]) (c.toNat:Int);rw[hd]at kf;refine Ans.subR ?_ (zfV c t0);refine Ans.of_run' t46 (fun hbel _=>?_)
 simp -implicitDefEqProofs only[c46,r46,go_sem,dn,hpos,hx,bc,wc,List.append_assoc,List.length_append];refine CO.intro kf ?_;simp -implicitDefEqProofs only[go_sem];refine L.step fun J hJ=>?_
 simp -implicitDefEqProofs only[go_sem,z00,List.take_length,zhy,le0,dr0]
 cases h0:listR t0 with
 |none =>
  have hW:wholeO (onlyR (dR_16 (c.toNat:Int)) mayR t0)=none:=by simp only[onlyR,dR_16,h0,Option.bind_some,Option.bind_none];rfl
  rw[hW];refine CD.intro (z7T (σ++[B19,.box (XC16 c (.nils))]) (σ.length+1) t0 (by omega) _ _ _ _ _ _ _ _ _ _ _ _ _ _ _ _ _ _ (g1 _ _ _ _) h0) ?_
  simp -implicitDefEqProofs only[go_sem,z00,List.take_length];exact tr_ (σ':=σ) (ex:=[_,_]) rfl (z0d _) hbel
 |some x0 =>
 obtain⟨v0,t1⟩:=x0;obtain⟨dr1,lo0,hi0⟩:=ends_list.drop (b:=b) (a:=1) (by omega) (by rw[dr0];exact h0)
 have hlt0:=z1E ends_list h0;have ad0:IntKind.i64.wrap ((1:Int)+((t0.length-t1.length:Nat):Int))=((b.length-t1.length:Nat):Int):=by rw[wrapN (by omega) (by omega)];omega
 have le1:(((b.length-t1.length:Nat):Int)≤(b.length:Nat))=True:=eq_true (by omega)
 have k0:=z7U (σ++[B19,.box (XC16 c (.nils))]) (σ.length+1) t0 (by omega) _ _ _ _ _ _ _ _ _ _ _ _ _ _ _ _ _ _ _ (g1 _ _ _ _) v0 t1 h0
 rw[s1]at k0;refine CD.intro k0 ?_;simp -implicitDefEqProofs only[go_sem,z00,ad0,List.take_length];refine hJ _ _ ?_;clear hJ k0;refine L.step fun J hJ=>?_
 have hcl:onlyR (dR_16 (c.toNat:Int)) mayR t0=if mayR ({ x0 (c.toNat:Int) with mt:=v0 }) then some ({ x0 (c.toNat:Int) with mt:=v0 },t1) else none:=by simp only[onlyR,dR_16,h0,Option.bind_some]
 rw[hcl];have hsub:Sub (.agg (XC16 c (mlV v0))) (reV ({ x0 (c.toNat:Int) with mt:=v0 })):=.agg (.cons (.refl _) <| .cons (.refl _) <| .cons (.refl _) <| .cons (.refl _) <| .cons (.refl _) <| .cons (.refl _) <| .cons (.refl _) <| .cons (.refl _) <| .cons (.refl _) <| .cons (.refl _) <| .cons (.refl _) <| .cons (.nils 3) <| .cons (.nils 3) <| .cons (.refl _) <| .cons (.refl _) <| .cons (.refl _) <| .cons (.nils 1) <| .cons (.nils 2) <| .cons (.refl _) <| .nil)
 have hsm:ReSm ({ x0 (c.toNat:Int) with mt:=v0 }):=⟨z1Z (listB_fits.bwd _ _ _ h0).1,z3R,(by intro x h;cases h)⟩
 have km:=(z1L (σ++[B19,.box (XC16 c (mlV v0))]) ({ x0 (c.toNat:Int) with mt:=v0 }) hsm).subA (.cons hsub .nil)
 by_cases ht:t1=[]
 · have hk0:t1.length=0:=by rw[ht];rfl
   have de:(((b.length-t1.length:Nat):Int) != ((b.length:Nat):Int))=false:=by
    rw[bne,show((b.length-t1.length:Nat):Int)=((b.length:Nat):Int) from by omega]
    simp
   have hbl2:Bel σ.length (.agg (XC16 c (mlV v0))):=.agg _ (fun i hi=>by
     have:∀y∈(XC16 c (mlV v0):List AV),Bel σ.length y:=by
      intro y hy;simp only[List.mem_cons,List.not_mem_nil,or_false]at hy;rcases hy with rfl|rfl|rfl|rfl|rfl|rfl|rfl|rfl|rfl|rfl|rfl|rfl|rfl|rfl|rfl|rfl|rfl|rfl|rfl
      all_goals first|exact .pl _|exact .nils|exact z09 _ _|exact z0u _ _|exact z0g _ _
     exact this _ (List.getElem_mem hi))
   simp -implicitDefEqProofs only[go_sem,List.take_length,de];refine CO.intro km ?_
   cases hm:mayR ({ x0 (c.toNat:Int) with mt:=v0 }) with
   |false =>
    simp -implicitDefEqProofs only[go_sem];exact tr_ (σ':=σ) (ex:=[_,_]) rfl (z0d _) hbel
   |true =>
    have hW:wholeO (if true=true then some ({ x0 (c.toNat:Int) with mt:=v0 },t1) else none)=some ({ x0 (c.toNat:Int) with mt:=v0 }):=by rw[ht];rfl
    rw[hW];simp -implicitDefEqProofs only[go_sem];exact tr_ (σ':=σ) (ex:=[_,_]) rfl (z1P hbl2) hbel
 · have hkp:0<t1.length:=by cases t1 with
    |nil=>exact absurd rfl ht
    |cons _ _=>simp
   have de:(((b.length-t1.length:Nat):Int) != ((b.length:Nat):Int))=true:=by
    rw[bne,neI (show((b.length-t1.length:Nat):Int)≠((b.length:Nat):Int) by omega)];rfl
   have hW:wholeO (if mayR ({ x0 (c.toNat:Int) with mt:=v0 })=true then some ({ x0 (c.toNat:Int) with mt:=v0 },t1) else none)=none:=by
    split
    · cases ht2:t1 with
      |nil=>exact absurd ht2 ht
      |cons _ _=>rfl
    · rfl
   rw[hW];simp -implicitDefEqProofs only[go_sem,List.take_length,de];exact tr_ (σ':=σ) (ex:=[_,_]) rfl (z0d _) hbel
end
section
variable (σ:St)
def ziY (c:UInt8) (o:Option ReM):AV:=match o with
 |some x=>.tup [.agg (XC768 c (lsV x.ls) (Fl x.val)),Bo true]
 |none=>.tup [noReV,Bo false]
theorem ze6 (c:UInt8) (t0:Byt):Sub (ziY c (wholeO (onlyR (z3G (c.toNat:Int)) mayR t0))) (z0N (wholeO (onlyR (z3G (c.toNat:Int)) mayR t0))):=by
 simp only[onlyR,z3G]
 cases setR t0 with
 |none=>exact z0e
 |some p =>
 obtain⟨v0,t1⟩:=p;simp only[Option.bind_some]
 cases valR t1 with
 |none=>exact z0e
 |some p =>
 obtain⟨v1,t2⟩:=p;simp only[Option.bind_some];split
 · cases t2 with
   |nil=>exact .tup (.cons (.agg (.cons (.refl _) <| .cons (.refl _) <| .cons (.refl _) <| .cons (.refl _) <| .cons (.refl _) <| .cons (.refl _) <| .cons (.refl _) <| .cons (.nils 3) <| .cons (.refl _) <| .cons (.refl _) <| .cons (.refl _) <| .cons (.nils 3) <| .cons (.nils 3) <| .cons (.refl _) <| .cons (.refl _) <| .cons (.refl _) <| .cons (.nils 1) <| .cons (.refl _) <| .cons (.refl _) <| .nil)) (.refl _))
   |cons _ _=>exact z0e
 · exact z0e
set_option maxHeartbeats 16000000 in
theorem ze7 (b:Byt) (hb:b.length≤50000) (c:UInt8) (t0:Byt) (hbt:b=c::t0) (hd:dOf (c.toNat:Int)=S768) :
  Ans Tryz.prog 46 [.sl 1 (byv b)] σ (z0N (wholeO (onlyR (z3G (c.toNat:Int)) mayR t0))) σ:=by
 obtain⟨hbl,dn,hpos,hx,wc,dr0,le0⟩:=z2A b c t0 hbt;have kf:=z0r (σ++[B19,.box (XC768 c (.nils) (Fl 0))]) (c.toNat:Int);rw[hd]at kf;refine Ans.subR ?_ (ze6 c t0);refine Ans.of_run' t46 (fun hbel _=>?_)
 simp -implicitDefEqProofs only[c46,r46,go_sem,dn,hpos,hx,bc,wc,List.append_assoc,List.length_append];refine CO.intro kf ?_;simp -implicitDefEqProofs only[go_sem];refine L.step fun J hJ=>?_
 simp -implicitDefEqProofs only[go_sem,z00,List.take_length,zfT,le0,dr0]
 cases h0:setR t0 with
 |none =>
  have hW:wholeO (onlyR (z3G (c.toNat:Int)) mayR t0)=none:=by simp only[onlyR,z3G,h0,Option.bind_some,Option.bind_none];rfl
  rw[hW];refine CD.intro (zfE (σ++[B19,.box (XC768 c (.nils) (Fl 0))]) (σ.length+1) t0 (by omega) _ _ _ _ _ _ _ _ _ _ _ _ _ _ _ _ _ _ (g1 _ _ _ _) h0) ?_
  simp -implicitDefEqProofs only[go_sem,z00,List.take_length];exact tr_ (σ':=σ) (ex:=[_,_]) rfl (z0d _) hbel
 |some x0 =>
 obtain⟨v0,t1⟩:=x0;obtain⟨dr1,lo0,hi0⟩:=ends_set.drop (b:=b) (a:=1) (by omega) (by rw[dr0];exact h0)
 have hlt0:=z1E ends_set h0;have ad0:IntKind.i64.wrap ((1:Int)+((t0.length-t1.length:Nat):Int))=((b.length-t1.length:Nat):Int):=by rw[wrapN (by omega) (by omega)];omega
 have le1:(((b.length-t1.length:Nat):Int)≤(b.length:Nat))=True:=eq_true (by omega)
 have k0:=zfF (σ++[B19,.box (XC768 c (.nils) (Fl 0))]) (σ.length+1) t0 (by omega) _ _ _ _ _ _ _ _ _ _ _ _ _ _ _ _ _ _ _ (g1 _ _ _ _) v0 t1 h0
 rw[s1]at k0;refine CD.intro k0 ?_;simp -implicitDefEqProofs only[go_sem,z00,ad0,List.take_length];refine hJ _ _ ?_;clear hJ k0;refine L.step fun J hJ=>?_
 simp -implicitDefEqProofs only[go_sem,z00,List.take_length,zfU,le1,dr1]
 cases h1:valR t1 with
 |none =>
  have hW:wholeO (onlyR (z3G (c.toNat:Int)) mayR t0)=none:=by simp only[onlyR,z3G,h0,h1,Option.bind_some,Option.bind_none];rfl
  rw[hW];refine CD.intro (zfG (σ++[B19,.box (XC768 c (lsV v0) (Fl 0))]) (σ.length+1) t1 (by omega) _ _ _ _ _ _ _ _ _ _ _ _ _ _ _ _ _ _ (g1 _ _ _ _) h1) ?_
  simp -implicitDefEqProofs only[go_sem,z00,List.take_length];exact tr_ (σ':=σ) (ex:=[_,_]) rfl (z0d _) hbel
 |some x1 =>
 obtain⟨v1,t2⟩:=x1;obtain⟨dr2,lo1,hi1⟩:=ends_val.drop (b:=b) (a:=(b.length-t1.length)) (by omega) (by rw[dr1];exact h1)
 have hlt1:=z1E ends_val h1;have h8l1:=zhz h1;have ad1:IntKind.i64.wrap (((b.length-t1.length:Nat):Int)+8)=((b.length-t2.length:Nat):Int):=by rw[wrapN (by omega) (by omega)];omega
 have le2:(((b.length-t2.length:Nat):Int)≤(b.length:Nat))=True:=eq_true (by omega)
 have k1:=zfH (σ++[B19,.box (XC768 c (lsV v0) (Fl 0))]) (σ.length+1) t1 (by omega) _ _ _ _ _ _ _ _ _ _ _ _ _ _ _ _ _ _ _ (g1 _ _ _ _) v1 t2 h1
 rw[s1]at k1;refine CD.intro k1 ?_;simp -implicitDefEqProofs only[go_sem,z00,ad1,List.take_length];refine hJ _ _ ?_;clear hJ k1;refine L.step fun J hJ=>?_
 have hcl:onlyR (z3G (c.toNat:Int)) mayR t0=if mayR ({ x0 (c.toNat:Int) with ls:=v0,val:=v1 }) then some ({ x0 (c.toNat:Int) with ls:=v0,val:=v1 },t2) else none:=by simp only[onlyR,z3G,h0,h1,Option.bind_some]
 rw[hcl];have hsub:Sub (.agg (XC768 c (lsV v0) (Fl v1))) (reV ({ x0 (c.toNat:Int) with ls:=v0,val:=v1 })):=.agg (.cons (.refl _) <| .cons (.refl _) <| .cons (.refl _) <| .cons (.refl _) <| .cons (.refl _) <| .cons (.refl _) <| .cons (.refl _) <| .cons (.nils 3) <| .cons (.refl _) <| .cons (.refl _) <| .cons (.refl _) <| .cons (.nils 3) <| .cons (.nils 3) <| .cons (.refl _) <| .cons (.refl _) <| .cons (.refl _) <| .cons (.nils 1) <| .cons (.refl _) <| .cons (.refl _) <| .nil)
 have hsm:ReSm ({ x0 (c.toNat:Int) with ls:=v0,val:=v1 }):=⟨(by intro x h;cases h),z3R,ls_sm (set_fits.bwd _ _ _ h0).1⟩
 have km:=(z1L (σ++[B19,.box (XC768 c (lsV v0) (Fl v1))]) ({ x0 (c.toNat:Int) with ls:=v0,val:=v1 }) hsm).subA (.cons hsub .nil)
 by_cases ht:t2=[]
 · have hk0:t2.length=0:=by rw[ht];rfl
   have de:(((b.length-t2.length:Nat):Int) != ((b.length:Nat):Int))=false:=by
    rw[bne,show((b.length-t2.length:Nat):Int)=((b.length:Nat):Int) from by omega]
    simp
   have hbl2:Bel σ.length (.agg (XC768 c (lsV v0) (Fl v1))):=.agg _ (fun i hi=>by
     have:∀y∈(XC768 c (lsV v0) (Fl v1):List AV),Bel σ.length y:=by
      intro y hy;simp only[List.mem_cons,List.not_mem_nil,or_false]at hy;rcases hy with rfl|rfl|rfl|rfl|rfl|rfl|rfl|rfl|rfl|rfl|rfl|rfl|rfl|rfl|rfl|rfl|rfl|rfl|rfl
      all_goals first|exact .pl _|exact .nils|exact z09 _ _|exact z0u _ _|exact z0g _ _
     exact this _ (List.getElem_mem hi))
   simp -implicitDefEqProofs only[go_sem,List.take_length,de];refine CO.intro km ?_
   cases hm:mayR ({ x0 (c.toNat:Int) with ls:=v0,val:=v1 }) with
   |false =>
    simp -implicitDefEqProofs only[go_sem];exact tr_ (σ':=σ) (ex:=[_,_]) rfl (z0d _) hbel
   |true =>
    have hW:wholeO (if true=true then some ({ x0 (c.toNat:Int) with ls:=v0,val:=v1 },t2) else none)=some ({ x0 (c.toNat:Int) with ls:=v0,val:=v1 }):=by rw[ht];rfl
    rw[hW];simp -implicitDefEqProofs only[go_sem];exact tr_ (σ':=σ) (ex:=[_,_]) rfl (z1P hbl2) hbel
 · have hkp:0<t2.length:=by cases t2 with
    |nil=>exact absurd rfl ht
    |cons _ _=>simp
   have de:(((b.length-t2.length:Nat):Int) != ((b.length:Nat):Int))=true:=by
    rw[bne,neI (show((b.length-t2.length:Nat):Int)≠((b.length:Nat):Int) by omega)];rfl
   have hW:wholeO (if mayR ({ x0 (c.toNat:Int) with ls:=v0,val:=v1 })=true then some ({ x0 (c.toNat:Int) with ls:=v0,val:=v1 },t2) else none)=none:=by
    split
    · cases ht2:t2 with
      |nil=>exact absurd ht2 ht
      |cons _ _=>rfl
    · rfl
   rw[hW];simp -implicitDefEqProofs only[go_sem,List.take_length,de];exact tr_ (σ':=σ) (ex:=[_,_]) rfl (z0d _) hbel
end
section
variable (σ:St)
def ziZ (c:UInt8) (o:Option ReM):AV:=match o with
 |some x=>.tup [.agg (XC117 c (I x.id) (UN x.st) (UN x.en) (mlV x.mt) (Bo x.any) (Fl x.lo) (Fl x.hi)),Bo true]
 |none=>.tup [noReV,Bo false]
theorem ze8 (c:UInt8) (t0:Byt):Sub (ziZ c (wholeO (onlyR (z2t (c.toNat:Int)) mayR t0))) (z0N (wholeO (onlyR (z2t (c.toNat:Int)) mayR t0))):=by
 simp only[onlyR,z2t]
 cases numR 1099511627776 t0 with
 |none=>exact z0e
 |some p =>
 obtain⟨v0,t1⟩:=p;simp only[Option.bind_some]
 cases numR 1099511627776 t1 with
 |none=>exact z0e
 |some p =>
 obtain⟨v1,t2⟩:=p;simp only[Option.bind_some]
 cases numR 1099511627776 t2 with
 |none=>exact z0e
 |some p =>
 obtain⟨v2,t3⟩:=p;simp only[Option.bind_some]
 cases listR t3 with
 |none=>exact z0e
 |some p =>
 obtain⟨v3,t4⟩:=p;simp only[Option.bind_some]
 cases bandR t4 with
 |none=>exact z0e
 |some p =>
 obtain⟨v4,t5⟩:=p;simp only[Option.bind_some];split
 · cases t5 with
   |nil=>exact .tup (.cons (.agg (.cons (.refl _) <| .cons (.refl _) <| .cons (.refl _) <| .cons (.refl _) <| .cons (.refl _) <| .cons (.refl _) <| .cons (.refl _) <| .cons (.refl _) <| .cons (.refl _) <| .cons (.refl _) <| .cons (.refl _) <| .cons (.nils 3) <| .cons (.nils 3) <| .cons (.refl _) <| .cons (.refl _) <| .cons (.refl _) <| .cons (.nils 1) <| .cons (.nils 2) <| .cons (.refl _) <| .nil)) (.refl _))
   |cons _ _=>exact z0e
 · exact z0e
set_option maxHeartbeats 16000000 in
theorem ze9 (b:Byt) (hb:b.length≤50000) (c:UInt8) (t0:Byt) (hbt:b=c::t0) (hd:dOf (c.toNat:Int)=S117) :
  Ans Tryz.prog 46 [.sl 1 (byv b)] σ (z0N (wholeO (onlyR (z2t (c.toNat:Int)) mayR t0))) σ:=by
 obtain⟨hbl,dn,hpos,hx,wc,dr0,le0⟩:=z2A b c t0 hbt;have kf:=z0r (σ++[B19,.box (XC117 c (I 0) (UN 0) (UN 0) (.nils) (Bo false) (Fl 0) (Fl 0))]) (c.toNat:Int);rw[hd]at kf;refine Ans.subR ?_ (ze8 c t0);refine Ans.of_run' t46 (fun hbel _=>?_)
 simp -implicitDefEqProofs only[c46,r46,go_sem,dn,hpos,hx,bc,wc,List.append_assoc,List.length_append];refine CO.intro kf ?_;simp -implicitDefEqProofs only[go_sem];refine L.step fun J hJ=>?_
 simp -implicitDefEqProofs only[go_sem,z00,List.take_length,zfN,le0,dr0]
 cases h0:numR 1099511627776 t0 with
 |none =>
  have hW:wholeO (onlyR (z2t (c.toNat:Int)) mayR t0)=none:=by simp only[onlyR,z2t,h0,Option.bind_some,Option.bind_none];rfl
  rw[hW];refine CD.intro (z7R (σ++[B19,.box (XC117 c (I 0) (UN 0) (UN 0) (.nils) (Bo false) (Fl 0) (Fl 0))]) (σ.length+1) t0 (by omega) _ _ _ _ _ _ _ _ _ _ _ _ _ _ _ _ _ _ (g1 _ _ _ _) h0) ?_
  simp -implicitDefEqProofs only[go_sem,z00,List.take_length];exact tr_ (σ':=σ) (ex:=[_,_]) rfl (z0d _) hbel
 |some x0 =>
 obtain⟨v0,t1⟩:=x0;obtain⟨dr1,lo0,hi0⟩:=(ends_num _).drop (b:=b) (a:=1) (by omega) (by rw[dr0];exact h0)
 have hlt0:=z1E (ends_num _) h0;have ad0:IntKind.i64.wrap ((1:Int)+((t0.length-t1.length:Nat):Int))=((b.length-t1.length:Nat):Int):=by rw[wrapN (by omega) (by omega)];omega
 have le1:(((b.length-t1.length:Nat):Int)≤(b.length:Nat))=True:=eq_true (by omega)
 have k0:=z7S (σ++[B19,.box (XC117 c (I 0) (UN 0) (UN 0) (.nils) (Bo false) (Fl 0) (Fl 0))]) (σ.length+1) t0 (by omega) _ _ _ _ _ _ _ _ _ _ _ _ _ _ _ _ _ _ _ (g1 _ _ _ _) v0 t1 h0
 rw[s1]at k0;refine CD.intro k0 ?_;simp -implicitDefEqProofs only[go_sem,z00,ad0,List.take_length];refine hJ _ _ ?_;clear hJ k0;refine L.step fun J hJ=>?_
 simp -implicitDefEqProofs only[go_sem,z00,List.take_length,zfO,le1,dr1]
 cases h1:numR 1099511627776 t1 with
 |none =>
  have hW:wholeO (onlyR (z2t (c.toNat:Int)) mayR t0)=none:=by simp only[onlyR,z2t,h0,h1,Option.bind_some,Option.bind_none];rfl
  rw[hW];refine CD.intro (zb1 (σ++[B19,.box (XC117 c (I (v0:Nat)) (UN 0) (UN 0) (.nils) (Bo false) (Fl 0) (Fl 0))]) (σ.length+1) t1 (by omega) _ _ _ _ _ _ _ _ _ _ _ _ _ _ _ _ _ _ (g1 _ _ _ _) h1) ?_
  simp -implicitDefEqProofs only[go_sem,z00,List.take_length];exact tr_ (σ':=σ) (ex:=[_,_]) rfl (z0d _) hbel
 |some x1 =>
 obtain⟨v1,t2⟩:=x1;obtain⟨dr2,lo1,hi1⟩:=(ends_num _).drop (b:=b) (a:=(b.length-t1.length)) (by omega) (by rw[dr1];exact h1)
 have hlt1:=z1E (ends_num _) h1;have ad1:IntKind.i64.wrap (((b.length-t1.length:Nat):Int)+((t1.length-t2.length:Nat):Int))=((b.length-t2.length:Nat):Int):=by rw[wrapN (by omega) (by omega)];omega
 have le2:(((b.length-t2.length:Nat):Int)≤(b.length:Nat))=True:=eq_true (by omega)
 have k1:=zb2 (σ++[B19,.box (XC117 c (I (v0:Nat)) (UN 0) (UN 0) (.nils) (Bo false) (Fl 0) (Fl 0))]) (σ.length+1) t1 (by omega) _ _ _ _ _ _ _ _ _ _ _ _ _ _ _ _ _ _ _ (g1 _ _ _ _) v1 t2 h1
 rw[s1]at k1;refine CD.intro k1 ?_;simp -implicitDefEqProofs only[go_sem,z00,ad1,List.take_length];refine hJ _ _ ?_;clear hJ k1;refine L.step fun J hJ=>?_
 simp -implicitDefEqProofs only[go_sem,z00,List.take_length,zfP,le2,dr2]
 cases h2:numR 1099511627776 t2 with
 |none =>
  have hW:wholeO (onlyR (z2t (c.toNat:Int)) mayR t0)=none:=by simp only[onlyR,z2t,h0,h1,h2,Option.bind_some,Option.bind_none];rfl
  rw[hW];refine CD.intro (zb3 (σ++[B19,.box (XC117 c (I (v0:Nat)) (UN v1) (UN 0) (.nils) (Bo false) (Fl 0) (Fl 0))]) (σ.length+1) t2 (by omega) _ _ _ _ _ _ _ _ _ _ _ _ _ _ _ _ _ _ (g1 _ _ _ _) h2) ?_
  simp -implicitDefEqProofs only[go_sem,z00,List.take_length];exact tr_ (σ':=σ) (ex:=[_,_]) rfl (z0d _) hbel
 |some x2 =>
 obtain⟨v2,t3⟩:=x2;obtain⟨dr3,lo2,hi2⟩:=(ends_num _).drop (b:=b) (a:=(b.length-t2.length)) (by omega) (by rw[dr2];exact h2)
 have hlt2:=z1E (ends_num _) h2;have ad2:IntKind.i64.wrap (((b.length-t2.length:Nat):Int)+((t2.length-t3.length:Nat):Int))=((b.length-t3.length:Nat):Int):=by rw[wrapN (by omega) (by omega)];omega
 have le3:(((b.length-t3.length:Nat):Int)≤(b.length:Nat))=True:=eq_true (by omega)
 have k2:=zb4 (σ++[B19,.box (XC117 c (I (v0:Nat)) (UN v1) (UN 0) (.nils) (Bo false) (Fl 0) (Fl 0))]) (σ.length+1) t2 (by omega) _ _ _ _ _ _ _ _ _ _ _ _ _ _ _ _ _ _ _ (g1 _ _ _ _) v2 t3 h2
 rw[s1]at k2;refine CD.intro k2 ?_;simp -implicitDefEqProofs only[go_sem,z00,ad2,List.take_length];refine hJ _ _ ?_;clear hJ k2;refine L.step fun J hJ=>?_
 simp -implicitDefEqProofs only[go_sem,z00,List.take_length,zfQ,le3,dr3]
 cases h3:listR t3 with
 |none =>
  have hW:wholeO (onlyR (z2t (c.toNat:Int)) mayR t0)=none:=by simp only[onlyR,z2t,h0,h1,h2,h3,Option.bind_some,Option.bind_none];rfl
  rw[hW];refine CD.intro (z7T (σ++[B19,.box (XC117 c (I (v0:Nat)) (UN v1) (UN v2) (.nils) (Bo false) (Fl 0) (Fl 0))]) (σ.length+1) t3 (by omega) _ _ _ _ _ _ _ _ _ _ _ _ _ _ _ _ _ _ (g1 _ _ _ _) h3) ?_
  simp -implicitDefEqProofs only[go_sem,z00,List.take_length];exact tr_ (σ':=σ) (ex:=[_,_]) rfl (z0d _) hbel
 |some x3 =>
 obtain⟨v3,t4⟩:=x3;obtain⟨dr4,lo3,hi3⟩:=ends_list.drop (b:=b) (a:=(b.length-t3.length)) (by omega) (by rw[dr3];exact h3)
 have hlt3:=z1E ends_list h3;have ad3:IntKind.i64.wrap (((b.length-t3.length:Nat):Int)+((t3.length-t4.length:Nat):Int))=((b.length-t4.length:Nat):Int):=by rw[wrapN (by omega) (by omega)];omega
 have le4:(((b.length-t4.length:Nat):Int)≤(b.length:Nat))=True:=eq_true (by omega)
 have k3:=z7U (σ++[B19,.box (XC117 c (I (v0:Nat)) (UN v1) (UN v2) (.nils) (Bo false) (Fl 0) (Fl 0))]) (σ.length+1) t3 (by omega) _ _ _ _ _ _ _ _ _ _ _ _ _ _ _ _ _ _ _ (g1 _ _ _ _) v3 t4 h3
 rw[s1]at k3;refine CD.intro k3 ?_;simp -implicitDefEqProofs only[go_sem,z00,ad3,List.take_length];refine hJ _ _ ?_;clear hJ k3;refine L.step fun J hJ=>?_
 simp -implicitDefEqProofs only[go_sem,z00,List.take_length,zfR,le4,dr4]
 cases h4:bandR t4 with
 |none =>
  have hW:wholeO (onlyR (z2t (c.toNat:Int)) mayR t0)=none:=by simp only[onlyR,z2t,h0,h1,h2,h3,h4,Option.bind_some,Option.bind_none];rfl
  rw[hW];refine CD.intro (zb5 (σ++[B19,.box (XC117 c (I (v0:Nat)) (UN v1) (UN v2) (mlV v3) (Bo false) (Fl 0) (Fl 0))]) (σ.length+1) t4 (by omega) _ _ _ _ _ _ _ _ _ _ _ _ _ _ _ _ (g1 _ _ _ _) h4) ?_
  simp -implicitDefEqProofs only[go_sem,z00,List.take_length];exact tr_ (σ':=σ) (ex:=[_,_]) rfl (z0d _) hbel
 |some x4 =>
 obtain⟨v4,t5⟩:=x4;obtain⟨dr5,lo4,hi4⟩:=ends_band.drop (b:=b) (a:=(b.length-t4.length)) (by omega) (by rw[dr4];exact h4)
 have hlt4:=z1E ends_band h4;have ad4:IntKind.i64.wrap (((b.length-t4.length:Nat):Int)+((t4.length-t5.length:Nat):Int))=((b.length-t5.length:Nat):Int):=by rw[wrapN (by omega) (by omega)];omega
 have le5:(((b.length-t5.length:Nat):Int)≤(b.length:Nat))=True:=eq_true (by omega)
 have k4:=zb6 (σ++[B19,.box (XC117 c (I (v0:Nat)) (UN v1) (UN v2) (mlV v3) (Bo false) (Fl 0) (Fl 0))]) (σ.length+1) t4 (by omega) _ _ _ _ _ _ _ _ _ _ _ _ _ _ _ _ _ _ _ (g1 _ _ _ _) v4 t5 h4
 rw[s1]at k4;refine CD.intro k4 ?_;simp -implicitDefEqProofs only[go_sem,z00,ad4,List.take_length];refine hJ _ _ ?_;clear hJ k4;refine L.step fun J hJ=>?_
 have hcl:onlyR (z2t (c.toNat:Int)) mayR t0=if mayR (mk117 (c.toNat:Int) (v0,v1,v2,v3,v4)) then some (mk117 (c.toNat:Int) (v0,v1,v2,v3,v4),t5) else none:=by simp only[onlyR,z2t,h0,h1,h2,h3,h4,Option.bind_some]
 rw[hcl];have hsub:Sub (.agg (XC117 c (I (v0:Nat)) (UN v1) (UN v2) (mlV v3) (Bo v4.1) (Fl v4.2.1) (Fl v4.2.2))) (reV (mk117 (c.toNat:Int) (v0,v1,v2,v3,v4))):=.agg (.cons (.refl _) <| .cons (.refl _) <| .cons (.refl _) <| .cons (.refl _) <| .cons (.refl _) <| .cons (.refl _) <| .cons (.refl _) <| .cons (.refl _) <| .cons (.refl _) <| .cons (.refl _) <| .cons (.refl _) <| .cons (.nils 3) <| .cons (.nils 3) <| .cons (.refl _) <| .cons (.refl _) <| .cons (.refl _) <| .cons (.nils 1) <| .cons (.nils 2) <| .cons (.refl _) <| .nil);have hsm:ReSm (mk117 (c.toNat:Int) (v0,v1,v2,v3,v4)):=⟨z1Z (listB_fits.bwd _ _ _ h3).1,z3R,(by intro x h;cases h)⟩
 have km:=(z1L (σ++[B19,.box (XC117 c (I (v0:Nat)) (UN v1) (UN v2) (mlV v3) (Bo v4.1) (Fl v4.2.1) (Fl v4.2.2))]) (mk117 (c.toNat:Int) (v0,v1,v2,v3,v4)) hsm).subA (.cons hsub .nil);by_cases ht:t5=[]
 · have hk0:t5.length=0:=by rw[ht];rfl
   have de:(((b.length-t5.length:Nat):Int) != ((b.length:Nat):Int))=false:=by
    rw[bne,show((b.length-t5.length:Nat):Int)=((b.length:Nat):Int) from by omega]
    simp
   have hbl2:Bel σ.length (.agg (XC117 c (I (v0:Nat)) (UN v1) (UN v2) (mlV v3) (Bo v4.1) (Fl v4.2.1) (Fl v4.2.2))):=.agg _ (fun i hi=>by
     have:∀y∈(XC117 c (I (v0:Nat)) (UN v1) (UN v2) (mlV v3) (Bo v4.1) (Fl v4.2.1) (Fl v4.2.2):List AV),Bel σ.length y:=by
      intro y hy;simp only[List.mem_cons,List.not_mem_nil,or_false]at hy;rcases hy with rfl|rfl|rfl|rfl|rfl|rfl|rfl|rfl|rfl|rfl|rfl|rfl|rfl|rfl|rfl|rfl|rfl|rfl|rfl
      all_goals first|exact .pl _|exact .nils|exact z09 _ _|exact z0u _ _|exact z0g _ _
     exact this _ (List.getElem_mem hi))
   simp -implicitDefEqProofs only[go_sem,List.take_length,de];refine CO.intro km ?_
   cases hm:mayR (mk117 (c.toNat:Int) (v0,v1,v2,v3,v4)) with
   |false =>
    simp -implicitDefEqProofs only[go_sem];exact tr_ (σ':=σ) (ex:=[_,_]) rfl (z0d _) hbel
   |true =>
    have hW:wholeO (if true=true then some (mk117 (c.toNat:Int) (v0,v1,v2,v3,v4),t5) else none)=some (mk117 (c.toNat:Int) (v0,v1,v2,v3,v4)):=by rw[ht];rfl
    rw[hW];simp -implicitDefEqProofs only[go_sem];exact tr_ (σ':=σ) (ex:=[_,_]) rfl (z1P hbl2) hbel
 · have hkp:0<t5.length:=by cases t5 with
    |nil=>exact absurd rfl ht
    |cons _ _=>simp
   have de:(((b.length-t5.length:Nat):Int) != ((b.length:Nat):Int))=true:=by
    rw[bne,neI (show((b.length-t5.length:Nat):Int)≠((b.length:Nat):Int) by omega)];rfl
   have hW:wholeO (if mayR (mk117 (c.toNat:Int) (v0,v1,v2,v3,v4))=true then some (mk117 (c.toNat:Int) (v0,v1,v2,v3,v4),t5) else none)=none:=by
    split
    · cases ht2:t5 with
      |nil=>exact absurd ht2 ht
      |cons _ _=>rfl
    · rfl
   rw[hW];simp -implicitDefEqProofs only[go_sem,List.take_length,de];exact tr_ (σ':=σ) (ex:=[_,_]) rfl (z0d _) hbel
end
section
variable (σ:St)
theorem z99 (b:Byt) (c:UInt8) (t0:Byt) (hbt:b=c::t0) (hd:dOf (c.toNat:Int)=⟨#[]⟩) (hb:b.length≤50000):Ans Tryz.prog 46 [.sl 1 (byv b)] σ (z0N none) σ:=by
 have hbl:b.length=t0.length+1:=by rw[hbt];rfl
 have dn:(((b.length:Nat):Int)==0)=false:=neI (by omega)
 have hpos:((0:Int)<(b.length:Nat))=True:=eq_true (by omega)
 have hx:(byv b)[0]?=some (bc c):=by rw[hbt];rfl
 have z0:Int.toNat 0=0:=rfl;have wc:IntKind.i64.wrap (c.toNat:Int)=(c.toNat:Int):=wrapI (by have:=c.toNat_lt;omega)
 have kf:=z0r (σ++[B19,.box [Sx ⟨#[]⟩,I (c.toNat:Nat),I 0,Sx ⟨#[]⟩,UN 0,UN 0,I 0,.nils,Bo false,Fl 0,Fl 0,.nils,.nils,Bo false,Fl 0,Fl 0,.nils,.nils,Fl 0]]) (c.toNat:Int);rw[hd]at kf;have ze:(((⟨#[]⟩:ByteArray).size:Nat):Int)=0:=rfl;have km:=z98 (σ++[B19,.box [Sx ⟨#[]⟩,I (c.toNat:Nat),I 0,Sx ⟨#[]⟩,UN 0,UN 0,I 0,.nils,Bo false,Fl 0,Fl 0,.nils,.nils,Bo false,Fl 0,Fl 0,.nils,.nils,Fl 0]]) (x0 (c.toNat:Int)) hd;have hsub:Sub (.agg [Sx ⟨#[]⟩,I (c.toNat:Nat),I 0,Sx ⟨#[]⟩,UN 0,UN 0,I 0,.nils,Bo false,Fl 0,Fl 0,.nils,.nils,Bo false,Fl 0,Fl 0,.nils,.nils,Fl 0]) (reV (x0 (c.toNat:Int))):=.agg (.cons (.refl _) (.cons (.refl _) (.cons (.refl _) (.cons (.refl _) (.cons (.refl _) (.cons (.refl _) (.cons (.refl _) (.cons (.nils 3) (.cons (.refl _) (.cons (.refl _) (.cons (.refl _) (.cons (.nils 3) (.cons (.nils 3) (.cons (.refl _) (.cons (.refl _) (.cons (.refl _) (.cons (.nils 1) (.cons (.nils 2) (.cons (.refl _) .nil)))))))))))))))))));have km:=km.subA (.cons hsub .nil);refine Ans.subR ?_ z0e;by_cases h1:b.length=1
 · have de:((1:Int) != ((b.length:Nat):Int))=false:=by rw[h1];rfl
   refine Ans.of_run' t46 (fun hbel _=>?_)
   simp -implicitDefEqProofs only[c46,r46,go_sem,z03,dn,hpos,hx,bc,wc,z0,List.append_assoc,List.length_append,g0,g1,s0,s1];refine CO.intro kf ?_;simp -implicitDefEqProofs only[go_sem];refine L.step fun J hJ=>?_
   simp -implicitDefEqProofs only[go_sem,ze,z03,de];refine CO.intro km ?_;simp -implicitDefEqProofs only[go_sem,g0,g1,s0,s1];exact tr_ (σ':=σ) (ex:=[_,_]) rfl (z0d _) hbel
 · have de:((1:Int) != ((b.length:Nat):Int))=true:=by rw[bne,neI (show(1:Int)≠((b.length:Nat):Int) by omega)];rfl
   refine Ans.of_run' t46 (fun hbel _=>?_)
   simp -implicitDefEqProofs only[c46,r46,go_sem,z03,dn,hpos,hx,bc,wc,z0,List.append_assoc,List.length_append,g0,g1,s0,s1];refine CO.intro kf ?_;simp -implicitDefEqProofs only[go_sem];refine L.step fun J hJ=>?_
   simp -implicitDefEqProofs only[go_sem,ze,z03,de,g0,g1,s0,s1];exact tr_ (σ':=σ) (ex:=[_,_]) rfl (z0d _) hbel
theorem z7X (b:Byt) (hb:b.length≤50000):Ans Tryz.prog 46 [.sl 1 (byv b)] σ (z0N (wholeO (bodyR b))) σ:=by
 obtain hbt|⟨c,t,hbt⟩:b=[]∨∃c t,b=c::t:=by
  cases b with
  |nil=>exact .inl rfl
  |cons c t=>exact .inr ⟨c,t,rfl⟩
 · have hW:wholeO (bodyR b)=none:=by rw[hbt];rfl
   have dn:(((b.length:Nat):Int)==0)=true:=by rw[hbt];rfl
   rw[hW];refine Ans.subR ?_ z0e;refine Ans.of_run' t46 (fun hbel _=>?_)
   simp -implicitDefEqProofs only[c46,r46,go_sem,z03,dn,g0,s0];exact tr_ (σ':=σ) (ex:=[_]) rfl (z0d _) hbel
 · have hB:bodyR b=onlyR (clR (fOf (c.toNat:Int)).1 (c.toNat:Int)) mayR t:=by rw[hbt];rfl
   rw[hB];have hlt:=c.toNat_lt;generalize hop:(c.toNat:Int)=op at *;rcases ops17 op with h|h|h|h|h|h|h|h|h|h|h|h|h|h|h|h|h|h
   · have e:(fOf op).1=0:=by rw[h];rfl
     rw[e,clD_0];have:=z7W σ b hb c t hbt (by rw[hop,h];rfl)
     rw[hop]at this;exact this
   · have e:(fOf op).1=1:=by rw[h];rfl
     rw[e,clD_1];have:=z6u σ b hb c t hbt (by rw[hop,h];rfl)
     rw[hop]at this;exact this
   · have e:(fOf op).1=3:=by rw[h];rfl
     rw[e,clD_3];have:=ze1 σ b hb c t hbt (by rw[hop,h];rfl)
     rw[hop]at this;exact this
   · have e:(fOf op).1=3:=by rw[h];rfl
     rw[e,clD_3];have:=ze1 σ b hb c t hbt (by rw[hop,h];rfl)
     rw[hop]at this;exact this
   · have e:(fOf op).1=116:=by rw[h];rfl
     rw[e,zhu];have:=ze3 σ b hb c t hbt (by rw[hop,h];rfl)
     rw[hop]at this;exact this
   · have e:(fOf op).1=117:=by rw[h];rfl
     rw[e,zhv];have:=ze9 σ b hb c t hbt (by rw[hop,h];rfl)
     rw[hop]at this;exact this
   · have e:(fOf op).1=1:=by rw[h];rfl
     rw[e,clD_1];have:=z6u σ b hb c t hbt (by rw[hop,h];rfl)
     rw[hop]at this;exact this
   · have e:(fOf op).1=8:=by rw[h];rfl
     rw[e,clD_8];have:=zhE σ b hb c t hbt (by rw[hop,h];rfl)
     rw[hop]at this;exact this
   · have e:(fOf op).1=128:=by rw[h];rfl
     rw[e,zhw];have:=ze5 σ b hb c t hbt (by rw[hop,h];rfl)
     rw[hop]at this;exact this
   · have e:(fOf op).1=1:=by rw[h];rfl
     rw[e,clD_1];have:=z6u σ b hb c t hbt (by rw[hop,h];rfl)
     rw[hop]at this;exact this
   · have e:(fOf op).1=768:=by rw[h];rfl
     rw[e,zhx];have:=ze7 σ b hb c t hbt (by rw[hop,h];rfl)
     rw[hop]at this;exact this
   · have e:(fOf op).1=1:=by rw[h];rfl
     rw[e,clD_1];have:=z6u σ b hb c t hbt (by rw[hop,h];rfl)
     rw[hop]at this;exact this
   · have e:(fOf op).1=16:=by rw[h];rfl
     rw[e,ziJ];have:=zfW σ b hb c t hbt (by rw[hop,h];rfl)
     rw[hop]at this;exact this
   · have e:(fOf op).1=0:=by rw[h];rfl
     rw[e,clD_0];have:=z7W σ b hb c t hbt (by rw[hop,h];rfl)
     rw[hop]at this;exact this
   · have e:(fOf op).1=1:=by rw[h];rfl
     rw[e,clD_1];have:=z6u σ b hb c t hbt (by rw[hop,h];rfl)
     rw[hop]at this;exact this
   · have e:(fOf op).1=0:=by rw[h];rfl
     rw[e,clD_0];have:=z7W σ b hb c t hbt (by rw[hop,h];rfl)
     rw[hop]at this;exact this
   · have e:(fOf op).1=0:=by rw[h];rfl
     rw[e,clD_0];have:=z7W σ b hb c t hbt (by rw[hop,h];rfl)
     rw[hop]at this;exact this
   · have hW:wholeO (onlyR (clR (fOf op).1 op) mayR t)=none:=by
      rw[z8W h]
      have:onlyR (clR 0 op) mayR t=none:=by
       show(if mayR (x0 op) then some (x0 op,t) else none)=none
       rw[if_neg];intro hm;have:=zdz hm;have e:(x0 op).op=op:=rfl;rw[e,z8W h]at this;cases this
      rw[this];rfl
     rw[hW];exact z99 σ b c t hbt (by rw[hop];exact zdF h) hb
theorem zea (b:Byt):wholeO (reqR b)=(textR 16 b).bind fun p=>if tokB p.1 then(wholeO (bodyR p.2)).map fun x=>{ x with tok:=p.1 } else none:=by
 simp only[reqR,z0Y,seqR,onlyR]
 cases textR 16 b with
 |none=>rfl
 |some p =>
  simp only[Option.bind_some]
  cases tokB p.1 with
  |false=>rfl
  |true =>
   simp only[if_true,Option.bind_some]
   cases bodyR p.2 with
   |none=>rfl
   |some y =>
    obtain⟨y,t⟩:=y
    cases t with
    |nil=>rfl
    |cons _ _=>rfl
theorem z9a (b:Byt) (hb:b.length≤50000):Ans Tryz.prog 44 [.sl 1 (byv b)] σ (z0N (wholeO (reqR b))) σ:=by
 rw[zea];have k1:=fun s=>z1m s b 16 (by omega) (by decide)
 cases ht:textR 16 b with
 |none =>
  simp only[z0R ht]at k1;refine Ans.subR (r:=.tup [noReV,Bo false]) ?_ z0e;refine Ans.of_run' t44 (fun hbel _=>?_)
  simp -implicitDefEqProofs only[c44,r44,go_sem,g0,s0];refine CO.intro (k1 _) ?_;simp -implicitDefEqProofs only[go_sem,g0,s0];exact tr_ (σ':=σ) (ex:=[_]) rfl (z0d _) hbel
 |some p =>
  obtain⟨s,t⟩:=p;simp only[z1t ht]at k1;obtain⟨d1,l1,e1⟩:=(z0T 16).drop (b:=b) (a:=0) (Nat.zero_le _) ht;have le1:(((b.length-t.length:Nat):Int)≤(b.length:Nat))=True:=eq_true (by omega)
  have k2:=fun σ=>z2k σ s
  simp only[Option.bind_some]
  cases hk:tokB s with
  |false =>
   simp only[hk]at k2;refine Ans.subR (r:=.tup [noReV,Bo false]) ?_ z0e;refine Ans.of_run' t44 (fun hbel _=>?_)
   simp -implicitDefEqProofs only[c44,r44,go_sem,g0,s0];refine CO.intro (k1 _) ?_;simp -implicitDefEqProofs only[go_sem,g0,s0];refine CO.intro (k2 _) ?_;simp -implicitDefEqProofs only[go_sem,g0,s0];exact tr_ (σ':=σ) (ex:=[_]) rfl (z0d _) hbel
  |true =>
   simp only[hk]at k2;have k3:=fun σ=>z7X σ t (by omega)
   simp only[if_true]
   cases hw:wholeO (bodyR t) with
   |none =>
    rw[hw]at k3;unfold z0N at k3;simp only at k3;refine Ans.subR (r:=.tup [noReV,Bo false]) ?_ z0e;refine Ans.of_run' t44 (fun hbel _=>?_)
    unfold reV reC at k3;simp -implicitDefEqProofs only[c44,r44,go_sem,g0,s0];refine CO.intro (k1 _) ?_;simp -implicitDefEqProofs only[go_sem,g0,s0];refine CO.intro (k2 _) ?_;simp -implicitDefEqProofs only[go_sem,g0,s0,z03,le1,z0O,z0P,List.take_length,Int.le_refl,d1];refine CO.intro (k3 _) ?_;simp -implicitDefEqProofs only[go_sem,g0,g1,s0,s1,List.append_assoc,List.length_append,List.cons_append,List.nil_append];exact tr_ (σ':=σ) (ex:=[_,_]) rfl (z0d _) hbel
   |some x =>
    rw[hw]at k3;unfold z0N at k3;simp only at k3;have hbx:=z7M σ.length { x with tok:=s }
    show Ans Tryz.prog 44 [.sl 1 (byv b)] σ (.tup [reV { x with tok:=s },Bo true]) σ
    refine Ans.of_run' t44 (fun hbel _=>?_)
    unfold reV reC at *;simp only at hbx;simp -implicitDefEqProofs only[c44,r44,go_sem,g0,s0];refine CO.intro (k1 _) ?_;simp -implicitDefEqProofs only[go_sem,g0,s0];refine CO.intro (k2 _) ?_;simp -implicitDefEqProofs only[go_sem,g0,s0,z03,le1,z0O,z0P,List.take_length,Int.le_refl,d1];refine CO.intro (k3 _) ?_;simp -implicitDefEqProofs only[go_sem,g0,g1,s0,s1,List.append_assoc,List.length_append,List.cons_append,List.nil_append];exact tr_ (σ':=σ) (ex:=[_,_]) rfl (z1P hbx) hbel
end
end Go.Proofs.YtmkmhhjkdaklbaaGreat
namespace Go.Proofs.YtmkmhhjkdaklbaaGreat
open Go Go.Ab
set_option maxRecDepth 100000
def c34:ACode :=
 (sq_ [pr_ 0 mf_]
 (sq_ [pr_ 6 (.build z19_ [(0,1,(.const (.string (ByteArray.mk #[114,111,111,116])))),(1,1,(.const (.int .i64 1)))]),
 pr_ 1 (.allocm z19_),
 st_ (so_ 19 1 6)]
 (sq_ [pr_ 8 (.bsl true 1 false 6 [.pl (.int .u8 0)] [(0,1,(.const (.int .u8 4))),(1,1,(.const (.int .u8 114))),(2,1,(.const (.int .u8 111))),(3,1,(.const (.int .u8 111))),(4,1,(.const (.int .u8 116))),(5,1,(.const (.int .u8 1)))]),
 pr_ 9 (.strm (.tmp 8)),
 c1_ 10 43 9,
 mv_ 7 10,
 pr_ 11 (ex_ 0 7),
 pr_ 12 (ex_ 1 7),
 pr_ 2 (.allocm z19_),
 st_ (so_ 19 2 11),
 mv_ 3 12]
 (sq_ [pr_ 14 (.bsl true 1 false 7 [.pl (.int .u8 0)] [(0,1,(.const (.int .u8 4))),(1,1,(.const (.int .u8 114))),(2,1,(.const (.int .u8 111))),(3,1,(.const (.int .u8 111))),(4,1,(.const (.int .u8 116))),(5,1,(.const (.int .u8 1))),(6,1,(.const (.int .u8 0)))]),
 pr_ 15 (.strm (.tmp 14)),
 c1_ 16 43 15,
 mv_ 13 16,
 pr_ 17 (ex_ 0 13),
 pr_ 18 (ex_ 1 13),
 pr_ 4 (.allocm z19_),
 st_ (so_ 19 4 17),
 mv_ 5 18]
 (sq_ [pr_ 19 (lt_ 19 1),
 c1_ 20 39 19,
 pr_ 21 (.b2s (.tmp 20)),
 pr_ 22 (.bin false .eql (.tmp 21) (.const (.string (ByteArray.mk #[4,114,111,111,116,1])))),
 mv_ 23 22,
 gp_ 24 23 true (mo_ 3),
 pr_ 25 (pa_ 23 24),
 mv_ 26 25,
 gp_ 27 26 true (fa_ 0 2),
 gp_ 28 26 true (lf_ 1 27),
 gp_ 29 26 true (.bin false .eql (.tmp 28) (.const (.string (ByteArray.mk #[114,111,111,116])))),
 pr_ 30 (pa_ 26 29),
 mv_ 31 30,
 gp_ 32 31 true (fa_ 1 2),
 gp_ 33 31 true (lf_ 1 32),
 gp_ 34 31 true (bk_ .eql 33 .i64 1),
 pr_ 35 (pa_ 31 34),
 mv_ 36 35,
 gp_ 37 36 true (mo_ 5),
 gp_ 38 36 true (no_ 37),
 pr_ 39 (pa_ 36 38),
 mv_ 40 39,
 gp_ 41 40 true (lt_ 19 1),
 gc_ 42 40 true 35 [(.tmp 41)],
 pr_ 43 (pa_ 40 42),
 mv_ 44 43,
 gp_ 45 44 true (lt_ 19 1),
 gc_ 46 44 true 37 [(.tmp 45)],
 gp_ 47 44 true (.b2s (.tmp 46)),
 gp_ 48 44 true (.bin false .eql (.tmp 47) (.const (.string (ByteArray.mk #[1])))),
 pr_ 49 (pa_ 44 48),
 mv_ 0 49]
 .ret)))))
def o34:List Tmp:=[1,2,4,8,14]
def r34:List RV:=[.tmp 0]
theorem t34:Text Tryz.prog 34 o34 c34 r34 50:=.mk_ Tryz.f34 rfl
def c12:ACode :=
 (sq_ [pr_ 3 (.boxr (.tmp 0)),
 pr_ 6 mf_]
 (sq_ [pr_ 13 (lt_ 19 3),
 c1_ 14 41 13,
 ⟨some 7,none,.fresh 19 7 (.tmp 14)⟩]
 (sq_ [pr_ 15 (lt_ 19 7),
 c1_ 16 39 15,
 pr_ 17 (.app 1 (.const (.slice none 0 0)) (.tmp 16)),
 mv_ 8 17]
 (.seq (sq_ [mv_ 18 8,
 pr_ 19 (.lenv (.tmp 18)),
 pr_ 20 (bk_ .eql 19 .i64 0)]
 (.cond (.tmp 20)
 (sq_ [pr_ 6 mf_]
 .ret)
 .skip))
 (.seq (sq_ [mv_ 21 1,
 pr_ 22 (bk_ .lss 21 .i64 0)]
 (.cond (.tmp 22)
 (.ops [pr_ 1 (mi_ .i64 0)])
 .skip))
 (sq_ [mv_ 23 1,
 mv_ 24 8,
 pr_ 25 (.lenv (.tmp 24)),
 pr_ 26 (bt_ .rem 23 25),
 mv_ 1 26]
 (.seq (sq_ [mv_ 27 8,
 mv_ 28 1,
 pr_ 29 (.iadrs 1 (.tmp 27) (.tmp 28)),
 pr_ 30 (lf_ 1 29),
 mv_ 31 2,
 pr_ 32 (bt_ .eql 30 31)]
 (.cond (.tmp 32)
 (sq_ [cl_ 33 34 [],
 mv_ 6 33]
 .ret)
 .skip))
 (sq_ [mv_ 34 8,
 mv_ 35 1,
 mv_ 36 2,
 pr_ 37 (.iadrs 1 (.tmp 34) (.tmp 35)),
 st_ (so_ 1 37 36)]
 (.seq (.ghost (.shut 8) (.ops [mv_ 39 8,
 c1_ 40 43 39,
 mv_ 38 40,
 pr_ 41 (ex_ 0 38),
 pr_ 42 (ex_ 1 38),
 ⟨some 9,none,.fresh 19 9 (.tmp 41)⟩,
 mv_ 10 42]))
 (sq_ [mv_ 44 8,
 c1_ 45 44 44,
 mv_ 43 45,
 pr_ 46 (ex_ 0 43),
 pr_ 47 (ex_ 1 43),
 ⟨some 11,none,.fresh 19 11 (.tmp 46)⟩,
 mv_ 12 47]
 (sq_ [mv_ 48 10,
 mv_ 49 12,
 pr_ 50 (.bin true .eql (.tmp 48) (.tmp 49)),
 mv_ 51 50,
 gp_ 52 51 true (lt_ 19 9),
 gp_ 53 51 true (lt_ 19 11),
 gc_ 54 51 true 42 [(.tmp 52),(.tmp 53)],
 pr_ 55 (pa_ 51 54),
 mv_ 56 55,
 gp_ 57 56 true (mo_ 10),
 gp_ 58 56 true (no_ 57),
 gp_ 59 56 true (mo_ 58),
 gp_ 60 59 false (lt_ 19 9),
 gp_ 61 59 false (lt_ 19 7),
 gc_ 62 59 false 42 [(.tmp 60),(.tmp 61)],
 gp_ 63 59 false (no_ 62),
 gp_ 64 56 true (po_ 59 63),
 pr_ 65 (pa_ 56 64),
 mv_ 66 65,
 gc_ 67 66 true 34 [],
 pr_ 68 (pa_ 66 67),
 mv_ 6 68]
 .ret)))))))))))
def o12:List Tmp:=[]
def r12:List RV:=[.tmp 6]
theorem t12:Text Tryz.prog 12 o12 c12 r12 69:=.mk_ Tryz.f12 rfl
end Go.Proofs.YtmkmhhjkdaklbaaGreat
namespace Go.Proofs.YtmkmhhjkdaklbaaGreat
open Go Go.Ab Go.Cod
set_option maxRecDepth 100000
theorem zeb (b:Bool):(b==b)=true:=by cases b<;>rfl
structure ReLn (x:ReM):Prop where
 mt:x.mt.length≤1000
 src:x.ru.src.length≤1000
 tgt:x.ru.tgt.length≤1000
 eq:x.ru.eq.length≤100000
 ls:x.ls.length≤1000
theorem z5u {n:Nat} (h:emI n=true):n=0:=by unfold emI at h;simp only[beq_iff_eq]at h;omega
theorem zj0 {x:ReM} (h:mayR x=true):ReLn x:=by
 unfold mayR zeroB z0c at h;generalize (fOf x.op).1=f at h;simp only[Bool.and_eq_true]at h;obtain⟨_,⟨_,_,_,_,_,_,z7,z8,_⟩,_,_,_,_,_,r6,_,_,r9,r10⟩:=h;have l1:=(z2T r6).1
 have l2:x.ru.src.length≤1000∧x.ru.tgt.length≤1000∧x.ru.eq.length≤100000:=by
  cases h128:hasF f 128 with
  |true =>
   rw[h128]at r9;obtain⟨q1,q2,q3,q4,q5⟩:=z1A (show ruIs x.ru=true from r9)
   have:=(z2T q1).1;have:=(z2T q2).1;omega
  |false =>
   rw[h128]at z7;have z7:noRl x.ru=true:=z7;unfold noRl at z7;simp only[Bool.and_eq_true]at z7;have:=z5u z7.1;have:=z5u z7.2.1;have:=z5u z7.2.2.1;omega
 have l3:x.ls.length≤1000:=by
  cases h256:hasF f 256 with
  |true =>
   rw[h256]at r10;have:=(z4i (show setB x.ls=true from r10)).1
   omega
  |false =>
   rw[h256]at z8;have:=z5u (show emI x.ls.length=true from z8)
   omega
 exact⟨by omega,l2.1,l2.2.1,l2.2.2,l3⟩
theorem no_ln:ReLn noRe:=⟨by decide,by decide,by decide,by decide,by decide⟩
theorem zec {b:Byt} {x:ReM} {t:Byt} (h:bodyR b=some (x,t)):mayR x=true:=by
 cases b with
 |nil=>cases h
 |cons c u =>
  have h:onlyR (clR (fOf (c.toNat:Int)).1 (c.toNat:Int)) mayR u=some (x,t):=h;simp only[onlyR]at h
  cases h3:clR (fOf (c.toNat:Int)).1 (c.toNat:Int) u with
  |none=>simp[h3]at h
  |some y =>
   simp only[h3,Option.bind_some]at h;split at h
   · rename_i hm;simp only[Option.some.injEq]at h;subst h;exact hm
   · cases h
theorem z6v {α:Type} {o:Option (α×Byt)} {x:α} (h:wholeO o=some x):o=some (x,[]):=by
 unfold wholeO at h;split at h
 · simp only[Option.some.injEq]at h;rw[h]
 · cases h
theorem zfX {b:Byt} {x:ReM} (h:wholeO (bodyR b)=some x):mayR x=true:=zec (z6v h)
theorem zhF {b:Byt} {x:ReM} (h:wholeO (reqR b)=some x):mayR x=true:=by
 rw[zea]at h
 cases ht:textR 16 b with
 |none=>rw[ht]at h;cases h
 |some p =>
  rw[ht]at h;simp only[Option.bind_some]at h;split at h
  · cases hw:wholeO (bodyR p.2) with
    |none=>rw[hw]at h;cases h
    |some y =>
     rw[hw]at h;simp only[Option.map_some,Option.some.injEq]at h;subst h;have hm:mayR y=true:=zfX hw;exact hm
  · cases h
theorem zed (x:ReM) (h:ReLn x) (σ:St):Ans Tryz.prog 42 [reV x,reV x] σ (Bo true) σ:=by
 have:=z7b σ x x h.mt h.src h.tgt h.eq h.ls;rw[z6t]at this;exact this
end Go.Proofs.YtmkmhhjkdaklbaaGreat
namespace Go.Proofs.YtmkmhhjkdaklbaaGreat
open Go Go.Ab Go.Cod Go.ChangeShapes Go.WideShapes Go.ChangeAt Go.RowKit
set_option maxRecDepth 100000
theorem zhG (r:RuM):([z1O r]:List Byt).flatten.length≤2000:=by
 unfold z1O
 cases h:ruIs r with
 |false=>simp
 |true =>
  have hp:=z5q h r.eq.length (Nat.le_refl _);have hl:=(z1A h).2.2.2.1;rw[z7D]at hp;simp;omega
theorem za3 (r:ReM):(z1V r).length≤4000:=by
 unfold z1V
 cases hM:mayR r with
 |false=>exact Nat.zero_le _
 |true =>
  obtain⟨op0,op1,id0,id1,htx,hst,hen,sta0,sta1,hmt,hru,hls⟩:=bd_ok hM;rw[if_pos rfl];unfold z0L putB2 putB1;have f1:∀b:Byt,([b]:List Byt).flatten=b:=fun b=>by simp
  have f2:∀b c:Byt,([b,c]:List Byt).flatten.length=b.length+c.length:=fun b c=>by simp
  refine Nat.le_trans (z0y (n:=3600) (m:=8) (z0y (n:=2600) (m:=1000) (z0y (n:=600) (m:=2000) (z0y (n:=583) (m:=17) (z0y (n:=73) (m:=510) (z0y (n:=72) (m:=1) (z0y (n:=52) (m:=20) (z0y (n:=12) (m:=40) (z0y (n:=2) (m:=10) (by simp) ?_) ?_) ?_) ?_) ?_) ?_) ?_) ?_) ?_) (by decide)<;>intro _
  · rw[f1];exact z0I (by omega)
  · rw[f1];have:=z1Y r.txt (by omega);omega
  · rw[f2];have:=z0I (n:=r.st) (by omega);have:=z0I (n:=r.en) (by omega);omega
  · simp
  · exact(z6s hmt).2
  · rw[f1];exact z4F _
  · exact zhG _
  · exact z9Y _
  · rw[f1];exact Nat.le_of_eq (z2j _)
theorem za4 (r:ReM):(z20 r).length≤4100:=by
 unfold z20
 cases hM:reIs r with
 |false=>exact Nat.zero_le _
 |true =>
  have h1:=za3 r;have h2:=z1Y r.tok (by have:=(z3Y hM).1;omega)
  have h3:=(z3Y hM).1;rw[if_pos rfl,List.length_append];omega
theorem wf8c {n:Int} (h:(Lit.int .u8 n).wf=true):0≤n∧n<256:=by
 simp[Lit.wf,IntKind.min,IntKind.max,IntKind.bits,IntKind.signed]at h;omega
section
variable {H:Type} {enc:TypeId×Value→H} {W:World} {base:Nat} {v:Value} {d:DataW H} {ps:List MemPlace}
theorem zj1 (hv:Value.okWide Tryz.prog W .any base 5 v) (h:DataW.Trod enc Tryz.prog W 0 (fun _=>true) true 5 v d ps):∃c:UInt8,Rep noM noR W (bc c) v:=by
 obtain⟨n,rfl⟩:=okWide_int Tryz.underlying5 hv;obtain⟨x,hx,m,hm,e⟩:=Reads.arg (P:=Tryz.prog) (t:=5) (fun f=>Reads.int Tryz.underlying5 f) rfl h
 simp only[List.cons.injEq,and_true]at e;subst e;obtain⟨h0,h1⟩:=wf8c hm;obtain⟨k,rfl⟩:=Int.eq_ofNat_of_zero_le h0;refine⟨k.toUInt8,?_⟩;unfold bc;rw[toNat_toUInt8 (by omega)]
 exact hx
end
end Go.Proofs.YtmkmhhjkdaklbaaGreat
namespace Go.Proofs.YtmkmhhjkdaklbaaGreat
open Go Go.Ab Go.Cod
set_option maxRecDepth 100000
theorem g4q (σ:St) (x y z u w:Ob) (ex:St):(σ++x::y::z::u::w::ex)[σ.length+4]?=some w:=by rw[List.getElem?_append_right (by simp)];simp
theorem s4q (σ:St) (x y z u v w:Ob) (ex:St):(σ++x::y::z::u::v::ex).set (σ.length+4) w=σ++x::y::z::u::w::ex:=by rw[List.set_append_right _ _ (by simp)];simp
def rootR:ReM:=⟨⟨#[114,111,111,116]⟩,1,0,⟨#[]⟩,0,0,0,[],false,0,0,⟨[],[],false,0,0,[]⟩,[],0⟩
theorem zee:reIs rootR=true:=by kernel_rfl
theorem zfY:mayR rootR=true:=by kernel_rfl
theorem z9b:z1V rootR=[1]:=by
 unfold z1V;rw[if_pos zfY]
 kernel_rfl
theorem zc5:z20 rootR=[4,114,111,111,116,1]:=by
 unfold z20 txtB;rw[if_pos zee,z9b,z3M (by decide)]
 rfl
theorem zef:wholeO (reqR [4,114,111,111,116,1])=some rootR:=by kernel_rfl
theorem zeg:wholeO (reqR [4,114,111,111,116,1,0])=none:=by kernel_rfl
def rootZ:AV:=.agg [Sx ⟨#[114,111,111,116]⟩,I 1,I 0,Sx .empty,UN 0,UN 0,I 0,.nils,Bo false,Fl 0,Fl 0,.nils,.nils,Bo false,Fl 0,Fl 0,.nils,.nils,Fl 0]
theorem z7Y:Sub rootZ (reV rootR):=.agg (.cons (.refl _) (.cons (.refl _) (.cons (.refl _) (.cons (.refl _) (.cons (.refl _) (.cons (.refl _) (.cons (.refl _) (.cons (.nils 3) (.cons (.refl _) (.cons (.refl _) (.cons (.refl _) (.cons (.nils 3) (.cons (.nils 3) (.cons (.refl _) (.cons (.refl _) (.cons (.refl _) (.cons (.nils 1) (.cons (.nils 2) (.cons (.refl _) .nil)))))))))))))))))))
theorem rq_b (σ:St):Ans Tryz.prog 34 [] σ (Bo true) σ:=by
 have q1:=fun s=>z4j s [4,114,111,111,116,1] (by decide)
 have q2:=fun s=>z4j s [4,114,111,111,116,1,0] (by decide)
 rw[zef]at q1;rw[zeg]at q2;have p1:=fun s=>(z5f s rootR).subA (.cons z7Y .nil)
 have p2:=fun s=>(zaS s rootR).subA (.cons z7Y .nil)
 have p3:=fun s=>(zaV s rootR).subA (.cons z7Y .nil)
 rw[zc5]at p1;rw[zee]at p2;rw[z9b]at p3;unfold z0N rootR reV reC at q1;unfold z0N noRe reV reC at q2;unfold rootZ at p1 p2 p3;simp only[byv,List.map_cons,List.map_nil]at q1 q2;obtain⟨B1,e1⟩:∃B:Byt,B=[4,114,111,111,116,1]:=⟨_,rfl⟩;obtain⟨B2,e2⟩:∃B:Byt,B=[1]:=⟨_,rfl⟩;have h1:((⟨B1.toArray⟩:ByteArray).toList==(ByteArray.mk #[4,114,111,111,116,1]).toList)=true:=by rw[e1];decide +kernel
 have h2:((⟨B2.toArray⟩:ByteArray).toList==(ByteArray.mk #[1]).toList)=true:=by rw[e2];decide +kernel
 rw[←e1]at p1;rw[←e2]at p3;refine Ans.of_run' t34 (fun hbel _=>?_)
 simp -implicitDefEqProofs only[c34,r34,go_sem,List.append_assoc,List.cons_append,List.nil_append,List.length_append,List.length_cons,List.length_nil,g0,s0,g1,s1,g2,s2,g3,s3,g4q,s4q];refine CO.intro (q1 _) ?_;simp -implicitDefEqProofs only[go_sem,List.append_assoc,List.cons_append,List.nil_append,List.length_append,List.length_cons,List.length_nil,g0,s0,g1,s1,g2,s2,g3,s3,g4q,s4q];refine CO.intro (q2 _) ?_;simp -implicitDefEqProofs only[go_sem,List.append_assoc,List.cons_append,List.nil_append,List.length_append,List.length_cons,List.length_nil,g0,s0,g1,s1,g2,s2,g3,s3,g4q,s4q];refine CO.intro (p1 _) ?_;simp -implicitDefEqProofs only[go_sem,List.append_assoc,List.cons_append,List.nil_append,List.length_append,List.length_cons,List.length_nil,g0,s0,g1,s1,g2,s2,g3,s3,g4q,s4q,z1z,bc,z3N,z3V,AV.isStr,h1];refine CO.intro (p2 _) ?_;simp -implicitDefEqProofs only[go_sem,List.append_assoc,List.cons_append,List.nil_append,List.length_append,List.length_cons,List.length_nil,g0,s0,g1,s1,g2,s2,g3,s3,g4q,s4q];refine CO.intro (p3 _) ?_;simp -implicitDefEqProofs only[go_sem,List.append_assoc,List.cons_append,List.nil_append,List.length_append,List.length_cons,List.length_nil,g0,s0,g1,s1,g2,s2,g3,s3,g4q,s4q,z1z,bc,z3N,z3V,AV.isStr,h2];exact Fini.trim2 (σ':=σ) rfl rfl (Nat.le_refl _) (.pl _) hbel
theorem zhH (b:Byt) (k:Nat) (c:UInt8):(byv b).set k (bc c)=byv (b.set k c):=by unfold byv;rw[List.map_set]
theorem zeh {b b':Byt} {r x:ReM} (hb:b=z20 r) (hi:reIs r=true) (hs:SzA r) (hne:b'≠b) (h:wholeO (reqR b')=some x):z2W x r=false:=by
 obtain⟨h1,h2,h3⟩:=zhs (z6v h);rw[List.append_nil]at h1;rw[zbU h2 h3.a hi hs,decide_eq_false_iff_not];intro h4;exact hne (by rw[h1,h4,hb])
theorem za5 {b b':Byt} {r:ReM} (hb:b=z20 r) (hi:reIs r=true) (hs:SzA r) (hne:b'≠b) :
  ∃(x:ReM) (ok:Bool),ReLn x∧z0N (wholeO (reqR b'))=.tup [reV x,Bo ok]∧(ok=false∨z2W x r=false):=by
 cases h:wholeO (reqR b') with
 |none=>exact⟨noRe,false,no_ln,rfl,.inl rfl⟩
 |some x=>exact⟨x,true,zj0 (zhF h),rfl,.inr (zeh hb hi hs hne h)⟩
theorem z7Z (a:AcM) (ha:ActSz a) (at_:Int) (by_:UInt8):Ans Tryz.prog 12 [acV a,I at_,bc by_] [] (.pl (.bool true)) []:=by
 have u1:=fun s=>z9X s a
 have i1:=zbN a;have w1:=zdS ha;have m1:=z90 a;generalize z07 a=r at u1 i1 w1 m1;have p1:=fun s=>z5f s r
 have hl:=za4 r
 have hne:0<(z20 r).length:=by
  have:z20 r=txtB r.tok++z1V r:=by unfold z20;rw[if_pos i1]
  have:=z4T r.tok.size;unfold txtB at *
  cases h:putN r.tok.size with
  |nil=>exact absurd h this
  |cons _ _=>simp_all
 obtain⟨b,hb⟩:∃b,b=z20 r:=⟨_,rfl⟩;rw[←hb]at p1 hl hne
 have he:b.isEmpty=false:=by cases b with
  |nil=>simp at hne
  |cons _ _=>rfl
 obtain⟨k0,hk⟩:∃k0:Nat,(at_<0∧k0=0)∨(at_=k0):=by
  by_cases hc:at_<0
  · exact⟨0,.inl ⟨hc,rfl⟩⟩
  · exact⟨at_.toNat,.inr (by omega)⟩
 have hlt:k0%b.length<b.length:=Nat.mod_lt _ hne;have hz:((b.length:Int)=0)=False:=eq_false (by omega)
 have dz:((b.length:Int)==0)=false:=neI (by omega)
 have e2:((k0:Int).tmod b.length)=((k0%b.length:Nat):Int):=rfl;have e4:((0:Int).tmod b.length)=((0%b.length:Nat):Int):=by simp
 have hg:(byv b)[k0%b.length]?=some (bc b[k0%b.length]):=z4U b _ hlt;have l1:b.length≤4294967296:=by omega
 have e0:=zeb;have hlt':(((k0%b.length:Nat):Int)<(b.length:Nat))=True:=eq_true (Int.ofNat_lt.2 hlt);have hpos:((0:Int)≤((k0%b.length:Nat):Int))=True:=eq_true (Int.natCast_nonneg _);unfold acV acC at u1⊢
 cases hsame:(((b[k0%b.length].toNat:Nat):Int)==((by_.toNat:Nat):Int)) with
 |true =>
  unfold reV reC at *;refine Ans.of_run t12 ?_;simp -implicitDefEqProofs only[c12,r12,go_sem];refine CO.intro (u1 _) ?_;simp -implicitDefEqProofs only[go_sem];refine CO.intro (p1 _) ?_;simp -implicitDefEqProofs only[go_sem,z1z,bc,z8B,he,z03,l1,dz,g0];rcases hk with⟨hc,rfl⟩|rfl
  · have dc:decide (at_<0)=true:=by simpa using hc
    simp -implicitDefEqProofs only[go_sem,dc,hz,e4,z03,g0,hg,hlt',hpos,bc,hsame,Int.toNat_natCast];refine CO.intro (rq_b _) ?_;simp -implicitDefEqProofs only[go_sem];exact Fini.trim2 (σ':=[]) rfl rfl (Nat.le_refl _) (.pl _) (fun o ho=>by cases ho)
  · have dc:decide ((k0:Int)<0)=false:=by simp
    simp -implicitDefEqProofs only[go_sem,dc,hz,e2,z03,g0,hg,hlt',hpos,bc,hsame,Int.toNat_natCast];refine CO.intro (rq_b _) ?_;simp -implicitDefEqProofs only[go_sem];exact Fini.trim2 (σ':=[]) rfl rfl (Nat.le_refl _) (.pl _) (fun o ho=>by cases ho)
 |false =>
  have hne':b.set (k0%b.length) by_≠b:=by
   intro h;have h2:=congrArg (fun l:Byt=>l[k0%b.length]?) h
   simp only[List.getElem?_set,List.getElem?_eq_getElem hlt,hlt,if_true,Option.some.injEq]at h2;rw[←h2]at hsame;simp at hsame
  obtain⟨x,ok,hx,hv,hok⟩:=za5 hb i1 w1 hne';have q1:=fun s=>z4j s (b.set (k0%b.length) by_) (by rw[List.length_set];omega)
  have q2:=fun s=>z9a s (b.set (k0%b.length) by_) (by rw[List.length_set];omega)
  rw[hv]at q1 q2;have s1:=zed x hx;have s2:=fun s=>z7b s x r hx.mt hx.src hx.tgt hx.eq hx.ls
  generalize z2W x r=sm at s2 hok;have hset:=zhH b (k0%b.length) by_;unfold bc at hset;unfold reV reC at *;refine Ans.of_run t12 ?_;simp -implicitDefEqProofs only[c12,r12,go_sem];refine CO.intro (u1 _) ?_;simp -implicitDefEqProofs only[go_sem];refine CO.intro (p1 _) ?_;simp -implicitDefEqProofs only[go_sem,z1z,bc,z8B,he,z03,l1,dz,g0];rcases hk with⟨hc,rfl⟩|rfl
  · have dc:decide (at_<0)=true:=by simpa using hc
    simp -implicitDefEqProofs only[go_sem,dc,hz,e4,z03,g0,s0,hg,hlt',hpos,bc,hsame,Int.toNat_natCast,hset,List.length_set];refine CO.intro (q1 _) ?_;simp -implicitDefEqProofs only[go_sem];refine CO.intro (q2 _) ?_;simp -implicitDefEqProofs only[go_sem,e0];refine CO.intro (s1 _) ?_;rcases hok with rfl|rfl
    · simp -implicitDefEqProofs only[go_sem];refine CO.intro (rq_b _) ?_;simp -implicitDefEqProofs only[go_sem];exact Fini.trim2 (σ':=[]) rfl rfl (Nat.le_refl _) (.pl _) (fun o ho=>by cases ho)
    · cases ok with
      |false =>
       simp -implicitDefEqProofs only[go_sem];refine CO.intro (rq_b _) ?_;simp -implicitDefEqProofs only[go_sem];exact Fini.trim2 (σ':=[]) rfl rfl (Nat.le_refl _) (.pl _) (fun o ho=>by cases ho)
      |true =>
       simp -implicitDefEqProofs only[go_sem];refine CO.intro (s2 _) ?_;simp -implicitDefEqProofs only[go_sem];refine CO.intro (rq_b _) ?_;simp -implicitDefEqProofs only[go_sem];exact Fini.trim2 (σ':=[]) rfl rfl (Nat.le_refl _) (.pl _) (fun o ho=>by cases ho)
  · have dc:decide ((k0:Int)<0)=false:=by simp
    simp -implicitDefEqProofs only[go_sem,dc,hz,e2,z03,g0,s0,hg,hlt',hpos,bc,hsame,Int.toNat_natCast,hset,List.length_set];refine CO.intro (q1 _) ?_;simp -implicitDefEqProofs only[go_sem];refine CO.intro (q2 _) ?_;simp -implicitDefEqProofs only[go_sem,e0];refine CO.intro (s1 _) ?_;rcases hok with rfl|rfl
    · simp -implicitDefEqProofs only[go_sem];refine CO.intro (rq_b _) ?_;simp -implicitDefEqProofs only[go_sem];exact Fini.trim2 (σ':=[]) rfl rfl (Nat.le_refl _) (.pl _) (fun o ho=>by cases ho)
    · cases ok with
      |false =>
       simp -implicitDefEqProofs only[go_sem];refine CO.intro (rq_b _) ?_;simp -implicitDefEqProofs only[go_sem];exact Fini.trim2 (σ':=[]) rfl rfl (Nat.le_refl _) (.pl _) (fun o ho=>by cases ho)
      |true =>
       simp -implicitDefEqProofs only[go_sem];refine CO.intro (s2 _) ?_;simp -implicitDefEqProofs only[go_sem];refine CO.intro (rq_b _) ?_;simp -implicitDefEqProofs only[go_sem];exact Fini.trim2 (σ':=[]) rfl rfl (Nat.le_refl _) (.pl _) (fun o ho=>by cases ho)
end Go.Proofs.YtmkmhhjkdaklbaaGreat
