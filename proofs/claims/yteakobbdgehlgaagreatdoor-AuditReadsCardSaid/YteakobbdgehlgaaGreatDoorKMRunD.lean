/- The words of a block's rounds, by the program. No condition. -/
import Derived.Test.YteakobbdgehlgaaGreatDoorKShA1D
import Derived.Test.YteakobbdgehlgaaGreatDoorAbArgD
import Derived.Test.YteakobbdgehlgaaGreatDoorAbSXD
import Derived.Test.YteakobbdgehlgaaGreatDoorKMCode1D
import Derived.Test.YteakobbdgehlgaaGreatDoorKMCode2D
import Derived.Laws.Externs
set_option linter.unusedSimpArgs false
set_option linter.unusedVariables false
set_option linter.unusedSectionVars false
namespace Go.Proofs.YteakobbdgehlgaaGreatDoor.Sha
open Go Go.Ab
set_option maxRecDepth 100000
def sg0 (a:BitVec 32):BitVec 32:=ror a 7 ^^^ ror a 18 ^^^ a >>> 3
def sg1 (a:BitVec 32):BitVec 32:=ror a 17 ^^^ ror a 19 ^^^ a >>> 10
def word4 (a b c d:UInt8):BitVec 32:=b32 a <<< 24 ||| b32 b <<< 16 ||| b32 c <<< 8 ||| b32 d
abbrev gB (b:List UInt8) (i:Nat):UInt8:=b.getD i 0
abbrev gW (w:List (BitVec 32)) (i:Nat):BitVec 32:=w.getD i 0
def nextW (b:List UInt8) (w:List (BitVec 32)) (i:Nat):BitVec 32 :=
 if i<16 then word4 (gB b (4*i)) (gB b (4*i+1)) (gB b (4*i+2)) (gB b (4*i+3))
 else gW w (i-16)+sg0 (gW w (i-15))+gW w (i-7)+sg1 (gW w (i-2))
def z0d (b:List UInt8):Nat→List (BitVec 32)
 |0=>List.replicate 64 0
 |i+1=>(z0d b i).set i (nextW b (z0d b i) i)
theorem z1y (b:List UInt8):∀i,(z0d b i).length=64
 |0=>List.length_replicate
 |i+1=>by rw[z0d,List.length_set,z1y b i]
def wv (w:List (BitVec 32)):List AV:=w.map V32
def bv (b:List UInt8):List AV:=b.map fun c=>.pl (.int .u8 ((c.toNat:Nat):Int))
theorem z1U (w:List (BitVec 32)):(wv w).length=w.length:=List.length_map ..
theorem z0N (b:List UInt8):(bv b).length=b.length:=List.length_map ..
theorem zdR {b:List UInt8} {i:Nat} (h:i<b.length):(bv b)[i]?=some (.pl (.int .u8 (((gB b i).toNat:Nat):Int))):=by
 unfold bv gB;rw[List.getElem?_map,List.getElem?_eq_getElem h,List.getD_eq_getElem?_getD,List.getElem?_eq_getElem h];rfl
theorem z3z {w:List (BitVec 32)} {i:Nat} (h:i<w.length):(wv w)[i]?=some (V32 (gW w i)):=by
 unfold wv gW;rw[List.getElem?_map,List.getElem?_eq_getElem h,List.getD_eq_getElem?_getD,List.getElem?_eq_getElem h];rfl
theorem zdS (w:List (BitVec 32)) (i:Nat) (x:BitVec 32):(wv w).set i (V32 x)=wv (w.set i x):=by unfold wv;rw[List.map_set]
section
variable (σ:St)
theorem bv_all (b:List UInt8):(bv b).all AV.one=true:=by
 unfold bv;rw[List.all_eq_true];intro x hx;obtain⟨c,_,rfl⟩:=List.mem_map.1 hx;rfl
theorem z7d (w:List (BitVec 32)):(wv w).all AV.one=true:=by
 unfold wv;rw[List.all_eq_true];intro x hx;obtain⟨c,_,rfl⟩:=List.mem_map.1 hx;rfl
theorem z87 {w:List (BitVec 32)} {n:Nat} (h:w.length=n):List.take n (wv w)=wv w:=List.take_of_length_le (by rw[z1U];omega)
theorem zcv {w:List (BitVec 32)} {n:Nat} (h:w.length=n):List.drop n (wv w)=[]:=List.drop_of_length_le (by rw[z1U];omega)
theorem z8J (n:Nat) (w:List (BitVec 32)):Bel n (.agg (wv w)):=.agg _ fun i hi=>by
 have e:(wv w)[i]'hi=V32 (w[i]'(by rw[z1U]at hi;exact hi)):=by simp[wv]
 rw[e];exact .pl _
theorem zaJ {b:List UInt8} {i:Nat} (h:i<b.length):(List.drop (i*1) (bv b)).head?=some (.pl (.int .u8 (((gB b i).toNat:Nat):Int))):=by
 rw[Nat.mul_one,List.head?_drop,zdR h]
theorem z0O {n:Nat} (h:n<1000):IntKind.i64.wrap (n:Int)=(n:Int):=by
 simp only[IntKind.wrap,IntKind.bits,IntKind.signed];simp;omega
theorem z7e {w:List (BitVec 32)} {i:Nat} (h:i<w.length) (x:BitVec 32):List.take i (wv w)++[V32 x]++List.drop (i+1) (wv w)=wv (w.set i x):=by
 rw[←zdS,List.set_eq_take_append_cons_drop,if_pos (by rw[z1U];exact h)]
 simp
theorem G0 (x:Ob) (ex:St):(σ++x::ex)[σ.length]?=some x:=by rw[List.getElem?_append_right (by simp)];simp
theorem S0 (x y:Ob) (ex:St):(σ++x::ex).set σ.length y=σ++y::ex:=by rw[List.set_append_right _ _ (by simp)];simp
theorem G1 (x y:Ob) (ex:St):(σ++x::y::ex)[σ.length+1]?=some y:=by rw[List.getElem?_append_right (by simp)];simp
theorem S1 (x y z:Ob) (ex:St):(σ++x::y::ex).set (σ.length+1) z=σ++x::z::ex:=by rw[List.set_append_right _ _ (by simp)];simp
theorem z9P (b:List UInt8) (hb:b.length=64):Ans Tryz.prog 92 [.agg (bv b)] σ (.agg (wv (z0d b 64))) σ:=by
 have hl:=z0N b;have ha:=bv_all b;have hz:([.pl (.int .u32 0),.pl (.int .u32 0),.pl (.int .u32 0),.pl (.int .u32 0),.pl (.int .u32 0),.pl (.int .u32 0),.pl (.int .u32 0),.pl (.int .u32 0),.pl (.int .u32 0),.pl (.int .u32 0),.pl (.int .u32 0),.pl (.int .u32 0),.pl (.int .u32 0),.pl (.int .u32 0),.pl (.int .u32 0),.pl (.int .u32 0),.pl (.int .u32 0),.pl (.int .u32 0),.pl (.int .u32 0),.pl (.int .u32 0),.pl (.int .u32 0),.pl (.int .u32 0),.pl (.int .u32 0),.pl (.int .u32 0),.pl (.int .u32 0),.pl (.int .u32 0),.pl (.int .u32 0),.pl (.int .u32 0),.pl (.int .u32 0),.pl (.int .u32 0),.pl (.int .u32 0),.pl (.int .u32 0),.pl (.int .u32 0),.pl (.int .u32 0),.pl (.int .u32 0),.pl (.int .u32 0),.pl (.int .u32 0),.pl (.int .u32 0),.pl (.int .u32 0),.pl (.int .u32 0),.pl (.int .u32 0),.pl (.int .u32 0),.pl (.int .u32 0),.pl (.int .u32 0),.pl (.int .u32 0),.pl (.int .u32 0),.pl (.int .u32 0),.pl (.int .u32 0),.pl (.int .u32 0),.pl (.int .u32 0),.pl (.int .u32 0),.pl (.int .u32 0),.pl (.int .u32 0),.pl (.int .u32 0),.pl (.int .u32 0),.pl (.int .u32 0),.pl (.int .u32 0),.pl (.int .u32 0),.pl (.int .u32 0),.pl (.int .u32 0),.pl (.int .u32 0),.pl (.int .u32 0),.pl (.int .u32 0),.pl (.int .u32 0)]:List AV)=wv (z0d b 0):=rfl;refine Ans.of_run' t92 (fun hbel _=>?_)
 simp -implicitDefEqProofs only[c92,r92,go_sem,hl,hb,ha,List.append_assoc,List.cons_append,List.nil_append,List.length_append,List.length_cons,List.length_nil];rw[hz];clear hz;refine Go.Ab.L.count 16 (fun i=>mkE 89 [(1,.rp (bv b)),(2,.ptr σ.length 0),(3,.ptr (σ.length+1) 0),(10,I i)]) (fun i=>σ++[.box (wv (z0d b 0)),.box (wv (z0d b i))]) ?_ ?_ rfl rfl
 · intro i hi J hJ;have e1:IntKind.i64.wrap (4*(i:Int))=((4*i:Nat):Int):=by rw[←z0O (n:=4*i) (by omega)];congr 1
   have e2:∀k:Nat,k<4→IntKind.i64.wrap (((4*i:Nat):Int)+(k:Int))=((4*i+k:Nat):Int):=fun k hk=>by rw[←z0O (n:=4*i+k) (by omega)];congr 1
   have f1:=e2 1 (by decide)
   have f2:=e2 2 (by decide)
   have f3:=e2 3 (by decide)
   have hd:decide ((i:Int)<16)=true:=decide_eq_true (by omega)
   have l0:(((4*i:Nat):Int)<((64:Nat):Int))=True:=eq_true (by omega)
   have l1:(((4*i+1:Nat):Int)<((64:Nat):Int))=True:=eq_true (by omega)
   have l2:(((4*i+2:Nat):Int)<((64:Nat):Int))=True:=eq_true (by omega)
   have l3:(((4*i+3:Nat):Int)<((64:Nat):Int))=True:=eq_true (by omega)
   have p0:∀n:Nat,((0:Int)≤(n:Int))=True:=fun n=>eq_true (Int.natCast_nonneg _)
   have hh:∀k,k<64→(List.drop k (bv b)).head?=some (.pl (.int .u8 (((gB b k).toNat:Nat):Int))):=fun k hk=>by have:=zaJ (b:=b) (i:=k) (by omega);rwa [Nat.mul_one]at this
   have h0:=hh (4*i) (by omega)
   have h1:=hh (4*i+1) (by omega)
   have h2:=hh (4*i+2) (by omega)
   have h3:=hh (4*i+3) (by omega)
   have k1:((1:Nat):Int)=1:=rfl;have k2:((2:Nat):Int)=2:=rfl;have k3:((3:Nat):Int)=3:=rfl;rw[k1]at f1;rw[k2]at f2;rw[k3]at f3;have l4:((i:Int)<((64:Nat):Int))=True:=eq_true (by omega)
   have w1:=z1y b i;have hs:=zdS (z0d b i) i (nextW b (z0d b i) i);have hn:nextW b (z0d b i) i=word4 (gB b (4*i)) (gB b (4*i+1)) (gB b (4*i+2)) (gB b (4*i+3)):=by unfold nextW;rw[if_pos hi]
   have v1:=V_shl (b32 (gB b (4*i))) 24 (by decide)
   have v2:=V_shl (b32 (gB b (4*i+1))) 16 (by decide)
   have v3:=V_shl (b32 (gB b (4*i+2))) 8 (by decide)
   have l5:(i≤63)=True:=eq_true (by omega)
   have hp:=fun x=>z7e (w:=z0d b i) (i:=i) (by omega) x
   have t24:Int.toNat 24=24:=rfl;have t16:Int.toNat 16=16:=rfl;have t8:Int.toNat 8=8:=rfl;have wi:IntKind.i64.wrap ((i:Int)+1)=((i+1:Nat):Int):=by rw[←z0O (n:=i+1) (by omega)];congr 1
   simp -implicitDefEqProofs only[mkE,go_sem,t24,t16,t8,wi,e1,l5,hp,l4,w1,z1U,G1,S1,v1,v2,v3,Nat.mul_one,h0,h1,h2,h3,f1,f2,f3,hd,l0,l1,l2,l3,p0,Int.toNat_natCast,z8H,V_or];unfold word4 at hn;have hw:z0d b (i+1)=(z0d b i).set i (nextW b (z0d b i) i):=rfl;rw[hw,hn]at hJ;exact hJ
 · intro J;have hd:decide (((16:Nat):Int)<16)=false:=rfl;simp -implicitDefEqProofs only[mkE,go_sem,hd];refine Go.Ab.L.count 48 (fun k=>mkE 89 [(2,.ptr σ.length 0),(3,.ptr (σ.length+1) 0),(5,I ((16+k:Nat):Int))]) (fun k=>σ++[.box (wv (z0d b 0)),.box (wv (z0d b (16+k)))]) ?_ ?_ rfl rfl
   · intro k hk J hJ;have hd:decide ((((16+k:Nat)):Int)<64)=true:=decide_eq_true (by omega)
     generalize hi:16+k=i at hd hJ⊢;have e:∀m:Nat,m≤i→IntKind.i64.wrap ((i:Int)-(m:Int))=((i-m:Nat):Int):=fun m hm=>by rw[←z0O (n:=i-m) (by omega)];congr 1;omega
     have f1:=e 15 (by omega)
     have f2:=e 2 (by omega)
     have f3:=e 16 (by omega)
     have f4:=e 7 (by omega)
     have k1:((15:Nat):Int)=15:=rfl;have k2:((2:Nat):Int)=2:=rfl;have k3:((16:Nat):Int)=16:=rfl;have k4:((7:Nat):Int)=7:=rfl;rw[k1]at f1;rw[k2]at f2;rw[k3]at f3;rw[k4]at f4;have l:∀m:Nat,(((i-m:Nat):Int)<((64:Nat):Int))=True:=fun m=>eq_true (by omega)
     have p0:∀n:Nat,((0:Int)≤(n:Int))=True:=fun n=>eq_true (Int.natCast_nonneg _)
     have w1:=z1y b i;have hh:∀m:Nat,(List.drop (i-m) (wv (z0d b i))).head?=some (V32 (gW (z0d b i) (i-m))):=fun m=>by rw[List.head?_drop,z3z (by omega)]
     have li:(i-15≤63)=True:=eq_true (by omega)
     have li:(i≤63)=True:=eq_true (by omega)
     have l0:((i:Int)<((64:Nat):Int))=True:=eq_true (by omega)
     have hp:=fun x=>z7e (w:=z0d b i) (i:=i) (by omega) x
     have hn:nextW b (z0d b i) i=gW (z0d b i) (i-16)+sg0 (gW (z0d b i) (i-15))+gW (z0d b i) (i-7)+sg1 (gW (z0d b i) (i-2)):=by unfold nextW;rw[if_neg (by omega)]
     have hw:z0d b (i+1)=(z0d b i).set i (nextW b (z0d b i) i):=rfl;have hi1:16+(k+1)=i+1:=by omega
     have wi:IntKind.i64.wrap ((i:Int)+1)=((i+1:Nat):Int):=by rw[←z0O (n:=i+1) (by omega)];congr 1
     rw[hi1,hw,hn]at hJ;unfold sg0 sg1 at hJ;simp -implicitDefEqProofs only[mkE,go_sem,hd,f1,f2,f3,f4,l,p0,G1,S1,w1,z1U,hh,Nat.mul_one,Int.toNat_natCast,l0,li,hp,wi];have r7:∀(A:BitVec 32) s,Ans Tryz.prog 93 [V32 A,.pl (.int .i64 (-7))] s (V32 (ror A 7)) s:=fun A s=>z2O s A 7 (by decide) (by decide)
     have r18:∀(A:BitVec 32) s,Ans Tryz.prog 93 [V32 A,.pl (.int .i64 (-18))] s (V32 (ror A 18)) s:=fun A s=>z2O s A 18 (by decide) (by decide)
     have r17:∀(A:BitVec 32) s,Ans Tryz.prog 93 [V32 A,.pl (.int .i64 (-17))] s (V32 (ror A 17)) s:=fun A s=>z2O s A 17 (by decide) (by decide)
     have r19:∀(A:BitVec 32) s,Ans Tryz.prog 93 [V32 A,.pl (.int .i64 (-19))] s (V32 (ror A 19)) s:=fun A s=>z2O s A 19 (by decide) (by decide)
     have t3:Int.toNat 3=3:=rfl;have t10:Int.toNat 10=10:=rfl;have v3:=fun A=>V_shr A 3 (by decide)
     have v10:=fun A=>V_shr A 10 (by decide)
     refine CO.intro (r7 _ _) ?_;simp -implicitDefEqProofs only[go_sem];refine CO.intro (r18 _ _) ?_;simp -implicitDefEqProofs only[go_sem,V_xor,t3,v3];refine CO.intro (r17 _ _) ?_;simp -implicitDefEqProofs only[go_sem];refine CO.intro (r19 _ _) ?_;simp -implicitDefEqProofs only[go_sem,V_xor,t10,v10,f3,f4,l,p0,G1,S1,w1,z1U,hh,Nat.mul_one,Int.toNat_natCast,l0,li,hp,wi,V_add];exact hJ
   · intro J;have hd:decide (((16+48:Nat):Int)<64)=false:=rfl;have w0:=z1y b 0;have w1:=z1y b 64;have z0:((0:Nat)+64≤64)=True:=eq_true (by decide)
     have a1:=z7d (z0d b 64);have k1:=z87 w1;have k2:=zcv w0;have ab:=z8J σ.length (z0d b 64);simp -implicitDefEqProofs only[mkE,go_sem,hd,G0,S0,G1,S1,w0,w1,z1U,a1,k1,k2,List.append_nil];exact Fini.trim2 (σ':=σ) (ex:=[_,_]) (by simp -implicitDefEqProofs only[go_sem,resA,z01,rvA,oneOf,G0,w1,z1U,k1]<;>rfl) rfl (Nat.le_refl _) ab hbel
end
structure S8 where
 a:BitVec 32
 b:BitVec 32
 c:BitVec 32
 d:BitVec 32
 e:BitVec 32
 f:BitVec 32
 g:BitVec 32
 h:BitVec 32
def S8.l (s:S8):List (BitVec 32):=[s.a,s.b,s.c,s.d,s.e,s.f,s.g,s.h]
def s8v (s:S8):List AV:=[V32 s.a,V32 s.b,V32 s.c,V32 s.d,V32 s.e,V32 s.f,V32 s.g,V32 s.h]
def t1W (K W:BitVec 32) (s:S8):BitVec 32:=s.h+(ror s.e 6 ^^^ ror s.e 11 ^^^ ror s.e 25)+((s.e &&& s.f) ^^^ (~~~ s.e &&& s.g))+K+W
def t2W (s:S8):BitVec 32:=(ror s.a 2 ^^^ ror s.a 13 ^^^ ror s.a 22)+((s.a &&& s.b) ^^^ (s.a &&& s.c) ^^^ (s.b &&& s.c))
def rnd (K W:BitVec 32) (s:S8):S8:=⟨t1W K W s+t2W s,s.a,s.b,s.c,s.d+t1W K W s,s.e,s.f,s.g⟩
def shaK:List Nat:=[1116352408,1899447441,3049323471,3921009573,961987163,1508970993,2453635748,2870763221,3624381080,310598401,607225278,1426881987,1925078388,2162078206,2614888103,3248222580,3835390401,4022224774,264347078,604807628,770255983,1249150122,1555081692,1996064986,2554220882,2821834349,2952996808,3210313671,3336571891,3584528711,113926993,338241895,666307205,773529912,1294757372,1396182291,1695183700,1986661051,2177026350,2456956037,2730485921,2820302411,3259730800,3345764771,3516065817,3600352804,4094571909,275423344,430227734,506948616,659060556,883997877,958139571,1322822218,1537002063,1747873779,1955562222,2024104815,2227730452,2361852424,2428436474,2756734187,3204031479,3329325298]
def kW (i:Nat):BitVec 32:=BitVec.ofNat 32 (shaK.getD i 0)
def rounds (w:List (BitVec 32)) (s:S8):Nat→S8
 |0=>s
 |i+1=>rnd (kW i) (gW w i) (rounds w s i)
def addTo (h x:List (BitVec 32)):Nat→List (BitVec 32)
 |0=>x
 |j+1=>(addTo h x j).set j (gW (addTo h x j) j+gW h j)
theorem z2T (h x:List (BitVec 32)) (hx:x.length=8):∀j,(addTo h x j).length=8
 |0=>hx
 |j+1=>by rw[addTo,List.length_set,z2T h x hx j]
def z3S (h:S8) (b:List UInt8):List (BitVec 32):=addTo h.l (rounds (z0d b 64) h 64).l 8
def kV:List Value:=shaK.map fun n:Nat=>Value.int .u32 (n:Int)
theorem zex:∀n∈shaK,n<4294967296:=by decide +kernel
theorem zfu {i:Nat} (h:i<64):(kW i).toNat=shaK.getD i 0:=by
 have hl:shaK.length=64:=rfl;have:=zex (shaK[i]'(by omega)) (List.getElem_mem _)
 unfold kW;rw[BitVec.toNat_ofNat,List.getD_eq_getElem?_getD,List.getElem?_eq_getElem (by omega),Option.getD_some]
 exact Nat.mod_eq_of_lt this
theorem zaK {i:Nat} (h:i<64):(List.map AV.pl (List.drop i kV)).head?=some (V32 (kW i)):=by
 have hl:shaK.length=64:=rfl;unfold kV;rw[List.head?_map,List.head?_drop,List.getElem?_map,List.getElem?_eq_getElem (by omega)]
 show some (AV.pl (Value.int .u32 ((shaK[i]'(by omega):Nat):Int)))=_
 unfold V32;rw[zfu h,List.getD_eq_getElem?_getD,List.getElem?_eq_getElem (by omega),Option.getD_some]
section
variable (σ:St)
theorem zaL (h:S8) (b:List UInt8) (hb:b.length=64) (hG:∀ex,gloA (σ++ex) 0=some kV):Ans Tryz.prog 56 [.agg (s8v h),.agg (bv b)] σ (.agg (wv (z3S h b))) σ:=by
 have hl:=z0N b;have ha:=bv_all b;have htk:List.take 64 (bv b)=bv b:=List.take_of_length_le (by rw[hl];omega)
 have hsp:=fun s=>z9P s b hb
 have wl:=z1y b 64;generalize hw0:z0d b 64=w at hsp wl;have wa:=z7d w;refine Ans.of_run' t56 (fun hbel _=>?_)
 unfold s8v;simp -implicitDefEqProofs only[c56,r56,go_sem,hl,hb,ha,htk];refine CO.intro (hsp _) ?_;simp -implicitDefEqProofs only[go_sem,z1U,wl,wa,List.append_assoc,List.cons_append,List.nil_append,List.length_append,List.length_cons,List.length_nil,G0,S0,G1,S1];have hs8:([V32 h.a,V32 h.b,V32 h.c,V32 h.d,V32 h.e,V32 h.f,V32 h.g,V32 h.h]:List AV)=s8v (rounds w h 0):=rfl;refine Go.Ab.L.count 64 (fun i=>mkE 114 [(2,.rp (s8v h)),(4,.ptr σ.length 0),(5,.rp (wv w)),(6,.ptr (σ.length+1) 0),(21,I i)]) (fun i=>σ++[.box [.pl (.int .u32 0),.pl (.int .u32 0),.pl (.int .u32 0),.pl (.int .u32 0),.pl (.int .u32 0),.pl (.int .u32 0),.pl (.int .u32 0),.pl (.int .u32 0)],.box (s8v (rounds w h i))]) ?_ ?_ ?_ ?_
 · intro i hi J hJ;have hd:decide ((i:Int)<64)=true:=decide_eq_true (by omega)
   generalize hs:rounds w h i=s;have hw:rounds w h (i+1)=rnd (kW i) (gW w i) (rounds w h i):=rfl;rw[hw,hs]at hJ;have l0:((0:Int)<((8:Nat):Int))=True:=eq_true (by decide)
   have n0:Int.toNat 0=0:=rfl;have l1:((1:Int)<((8:Nat):Int))=True:=eq_true (by decide)
   have n1:Int.toNat 1=1:=rfl;have l2:((2:Int)<((8:Nat):Int))=True:=eq_true (by decide)
   have n2:Int.toNat 2=2:=rfl;have l3:((3:Int)<((8:Nat):Int))=True:=eq_true (by decide)
   have n3:Int.toNat 3=3:=rfl;have l4:((4:Int)<((8:Nat):Int))=True:=eq_true (by decide)
   have n4:Int.toNat 4=4:=rfl;have l5:((5:Int)<((8:Nat):Int))=True:=eq_true (by decide)
   have n5:Int.toNat 5=5:=rfl;have l6:((6:Int)<((8:Nat):Int))=True:=eq_true (by decide)
   have n6:Int.toNat 6=6:=rfl;have l7:((7:Int)<((8:Nat):Int))=True:=eq_true (by decide)
   have n7:Int.toNat 7=7:=rfl;have q6:∀(A:BitVec 32) s,Ans Tryz.prog 93 [V32 A,.pl (.int .i64 (-6))] s (V32 (ror A 6)) s:=fun A s=>z2O s A 6 (by decide) (by decide)
   have q11:∀(A:BitVec 32) s,Ans Tryz.prog 93 [V32 A,.pl (.int .i64 (-11))] s (V32 (ror A 11)) s:=fun A s=>z2O s A 11 (by decide) (by decide)
   have q25:∀(A:BitVec 32) s,Ans Tryz.prog 93 [V32 A,.pl (.int .i64 (-25))] s (V32 (ror A 25)) s:=fun A s=>z2O s A 25 (by decide) (by decide)
   have q2:∀(A:BitVec 32) s,Ans Tryz.prog 93 [V32 A,.pl (.int .i64 (-2))] s (V32 (ror A 2)) s:=fun A s=>z2O s A 2 (by decide) (by decide)
   have q13:∀(A:BitVec 32) s,Ans Tryz.prog 93 [V32 A,.pl (.int .i64 (-13))] s (V32 (ror A 13)) s:=fun A s=>z2O s A 13 (by decide) (by decide)
   have q22:∀(A:BitVec 32) s,Ans Tryz.prog 93 [V32 A,.pl (.int .i64 (-22))] s (V32 (ror A 22)) s:=fun A s=>z2O s A 22 (by decide) (by decide)
   have hm:(if IntKind.u32.signed=true then(-1:Int) else IntKind.u32.max)=4294967295:=rfl
   have hK:=fun ex=>hG ex
   have hkv:=zaK hi;have l64:((i:Int)<((64:Nat):Int))=True:=eq_true (by omega)
   have p0:((0:Int)≤(i:Int))=True:=eq_true (Int.natCast_nonneg _);have hwi:(List.drop i (wv w)).head?=some (V32 (gW w i)):=by rw[List.head?_drop,z3z (by omega)]
   have wi:IntKind.i64.wrap ((i:Int)+1)=((i+1:Nat):Int):=by rw[←z0O (n:=i+1) (by omega)];congr 1
   unfold s8v;simp -implicitDefEqProofs only[mkE,go_sem,hd,G1,S1,l0,l1,l2,l3,l4,l5,l6,l7,n0,n1,n2,n3,n4,n5,n6,n7,Nat.mul_one,List.drop_succ_cons,List.drop_zero,List.head?_cons];refine CO.intro (q6 _ _) ?_;simp -implicitDefEqProofs only[go_sem];refine CO.intro (q11 _ _) ?_;simp -implicitDefEqProofs only[go_sem,V_xor];refine CO.intro (q25 _ _) ?_;simp -implicitDefEqProofs only[go_sem,V_xor,V_and,hm,V_not,V_add,G1,S1,l0,l1,l2,l3,l4,l5,l6,l7,n0,n1,n2,n3,n4,n5,n6,n7,Nat.mul_one,List.drop_succ_cons,List.drop_zero,List.head?_cons,l64,p0,hwi,hK,hkv,Int.toNat_natCast];refine CO.intro (q2 _ _) ?_;simp -implicitDefEqProofs only[go_sem];refine CO.intro (q13 _ _) ?_;simp -implicitDefEqProofs only[go_sem,V_xor];refine CO.intro (q22 _ _) ?_;simp -implicitDefEqProofs only[go_sem,V_xor,V_and,hm,V_not,V_add,G1,S1,l0,l1,l2,l3,l4,l5,l6,l7,n0,n1,n2,n3,n4,n5,n6,n7,Nat.mul_one,List.drop_succ_cons,List.drop_zero,List.head?_cons,l64,p0,wi,Int.toNat_natCast];unfold rnd t1W t2W s8v at hJ;exact hJ
 · intro J0;have hd0:decide (((64:Nat):Int)<64)=false:=rfl;have hr:z3S h b=addTo h.l (rounds w h 64).l 8:=by unfold z3S;rw[←hw0]
   rw[hr];generalize rounds w h 64=x;have hx8:s8v x=wv (addTo h.l x.l 0):=rfl;have hh8:s8v h=wv h.l:=rfl;simp -implicitDefEqProofs only[mkE,go_sem,hd0];rw[hx8];refine Go.Ab.L.count 8 (fun j=>mkE 114 [(2,.rp (s8v h)),(4,.ptr σ.length 0),(6,.ptr (σ.length+1) 0),(101,I j)]) (fun j=>σ++[.box [.pl (.int .u32 0),.pl (.int .u32 0),.pl (.int .u32 0),.pl (.int .u32 0),.pl (.int .u32 0),.pl (.int .u32 0),.pl (.int .u32 0),.pl (.int .u32 0)],.box (wv (addTo h.l x.l j))]) ?_ ?_ rfl rfl
   · intro j hj J hJ;have hd:decide ((j:Int)<8)=true:=decide_eq_true (by omega)
     have l8:((j:Int)<((8:Nat):Int))=True:=eq_true (by omega)
     have p0:((0:Int)≤(j:Int))=True:=eq_true (Int.natCast_nonneg _);have w1:=z2T h.l x.l rfl j;have h1:(List.drop j (wv (addTo h.l x.l j))).head?=some (V32 (gW (addTo h.l x.l j) j)):=by rw[List.head?_drop,z3z (by omega)]
     have h2:(List.drop j (wv h.l)).head?=some (V32 (gW h.l j)):=by rw[List.head?_drop,z3z (by show j<8;exact hj)]
     have li:(j≤7)=True:=eq_true (by omega)
     have hp:=fun y=>z7e (w:=addTo h.l x.l j) (i:=j) (by omega) y
     have wi:IntKind.i64.wrap ((j:Int)+1)=((j+1:Nat):Int):=by rw[←z0O (n:=j+1) (by omega)];congr 1
     have hw:addTo h.l x.l (j+1)=(addTo h.l x.l j).set j (gW (addTo h.l x.l j) j+gW h.l j):=rfl;rw[hw]at hJ;rw[hh8]at hJ⊢;simp -implicitDefEqProofs only[mkE,go_sem,hd,l8,p0,G1,S1,w1,z1U,h1,h2,Nat.mul_one,Int.toNat_natCast,V_add,li,hp,wi];exact hJ
   · intro J;have hd:decide (((8:Nat):Int)<8)=false:=rfl;have w1:=z2T h.l x.l rfl 8;have a1:=z7d (addTo h.l x.l 8);have k1:=z87 w1;have ab:=z8J σ.length (addTo h.l x.l 8);simp -implicitDefEqProofs only[mkE,go_sem,hd,G0,S0,G1,S1,w1,z1U,a1,k1,List.append_nil,List.drop_succ_cons,List.drop_zero,List.drop_nil];exact Fini.trim2 (σ':=σ) (ex:=[_,_]) (by simp -implicitDefEqProofs only[go_sem,resA,z01,rvA,oneOf,G0,w1,z1U,k1]<;>rfl) rfl (Nat.le_refl _) ab hbel
 · rfl
 · rfl
end
end Go.Proofs.YteakobbdgehlgaaGreatDoor.Sha
namespace Go.Proofs.YteakobbdgehlgaaGreatDoor.Sha
open Go Go.Ab Go.Cod
set_option maxRecDepth 100000
theorem z7f (v:AV):∀n:Nat,chunks 1 false n (z08 [v] n)=List.replicate n v
 |0=>rfl
 |n+1=>by
  rw[chunks,z08,List.replicate_succ];show v::chunks 1 false n (z08 [v] n)=_;rw[z7f v n]
theorem wrdB_len (w:Nat):(wrdB w).length=8:=rfl
theorem z3l (b:List UInt8) (f:AV→Bool) (h:∀c:UInt8,f (.pl (.int .u8 ((c.toNat:Nat):Int)))=true):(bv b).all f=true:=by
 unfold bv;rw[List.all_eq_true];intro x hx;obtain⟨c,_,rfl⟩:=List.mem_map.1 hx;exact h c
theorem z4h (n:Nat) (b:List UInt8):Bel n (.sl 1 (bv b)):=.sl 1 _ fun i hi=>by
 have e:(bv b)[i]'hi=.pl (.int .u8 (((b[i]'(by rw[z0N]at hi;exact hi)).toNat:Nat):Int)):=by simp[bv]
 rw[e];exact .pl _
theorem bel_bva (n:Nat) (b:List UInt8):Bel n (.agg (bv b)):=.agg _ fun i hi=>by
 have e:(bv b)[i]'hi=.pl (.int .u8 (((b[i]'(by rw[z0N]at hi;exact hi)).toNat:Nat):Int)):=by simp[bv]
 rw[e];exact .pl _
theorem z8N (a b:List UInt8):bv (a++b)=bv a++bv b:=List.map_append ..
abbrev Z8:AV:=.pl (.int .u8 0)
theorem zfv (n:Nat):bv (List.replicate n 0)=List.replicate n Z8:=by unfold bv;rw[List.map_replicate];rfl
def padZ (n:Nat):Nat:=(119-n%64)%64
def padB (b:List UInt8):List UInt8:=b++(128::(List.replicate (padZ b.length) 0++wrdB (8*b.length)))
theorem z3H (n:Nat):padZ n<64:=Nat.mod_lt _ (by decide)
theorem z6x (n:Nat):(n+1+padZ n)%64=56:=by unfold padZ;omega
theorem z6y (n i:Nat) (h:i<padZ n):(n+1+i)%64≠56:=by unfold padZ at h;omega
theorem z8O (b:List UInt8):(padB b).length%64=0:=by
 have:=z6x b.length;unfold padB;simp only[List.length_append,List.length_cons,List.length_replicate,wrdB_len];omega
def rowP (b:List UInt8) (j:Nat):List UInt8:=b++(128::(List.replicate (padZ b.length) 0++((wrdB (8*b.length)).take j++List.replicate (8-j) 0)))
theorem zcx (b:List UInt8):rowP b 8=padB b:=by unfold rowP padB;rw[List.take_of_length_le (by rw[wrdB_len];decide)];simp
theorem z8P (b:List UInt8) (j:Nat) (hj:j≤8):(rowP b j).length=b.length+1+padZ b.length+8:=by
 unfold rowP;simp only[List.length_append,List.length_cons,List.length_replicate,List.length_take,wrdB_len];omega
theorem zcy (b:List UInt8) (j:Nat) (hj:j<8):(rowP b j).set (b.length+1+padZ b.length+j) ((wrdB (8*b.length)).getD j 0)=rowP b (j+1):=by
 unfold rowP;have hw:=wrdB_len (8*b.length);generalize wrdB (8*b.length)=w at hw;have e:b.length+1+padZ b.length+j=b.length+(1+(padZ b.length+j)):=by omega
 rw[e,List.set_append_right _ _ (by omega),Nat.add_sub_cancel_left,Nat.add_comm 1,List.set_cons_succ,List.set_append_right _ _ (by simp)]
 have e2:padZ b.length+j-(List.replicate (padZ b.length) (0:UInt8)).length=j:=by simp
 rw[e2,List.set_append_right _ _ (by rw[List.length_take];omega)]
 have e3:j-(w.take j).length=0:=by rw[List.length_take];omega
 have e4:List.replicate (8-j) (0:UInt8)=0::List.replicate (8-(j+1)) 0:=by rw[show 8-j=(8-(j+1))+1 by omega,List.replicate_succ]
 rw[e3,e4,List.set_cons_zero,List.take_succ_eq_append_getElem (by omega),List.getD_eq_getElem?_getD,List.getElem?_eq_getElem (by omega),Option.getD_some,List.append_assoc]
 rfl
theorem zaO (b:List UInt8):(bv b++List.replicate (padZ b.length+9) Z8).set b.length (.pl (.int .u8 128))=bv (rowP b 0):=by
 rw[List.set_append_right _ _ (by rw[z0N];omega),z0N,Nat.sub_self,show padZ b.length+9=(padZ b.length+8)+1 by omega,List.replicate_succ,List.set_cons_zero]
 unfold rowP;rw[z8N,List.take_zero,List.nil_append,List.replicate_append_replicate];show _=bv b++(_::bv _);rw[zfv];rfl
theorem zey (D j:Nat) (hj:j<8):((((wrdB D).getD j 0).toNat:Nat):Int)=((D/2^(56-8*j)%256:Nat):Int):=by
 match j,hj with
 |0,_|1,_|2,_|3,_|4,_|5,_|6,_=>rfl
 |7,_ =>
  show((D.toUInt8.toNat:Nat):Int)=_;simp[Nat.toUInt8]
theorem zfw (n:Nat):IntKind.u8.wrap (n:Int)=((n%256:Nat):Int):=by
 simp only[IntKind.wrap,IntKind.bits,IntKind.signed];simp
theorem shr64 (D k:Nat) (h:k≤64):((D:Nat):Int).fdiv (2^(min k 64))=((D/2^k:Nat):Int):=by
 rw[Nat.min_eq_left h,Int.fdiv_eq_ediv_of_nonneg _ (Int.pow_nonneg (by omega))]
 simp
theorem zaP (b:List UInt8) (i:Nat) (c:UInt8):(bv b).set i (.pl (.int .u8 ((c.toNat:Nat):Int)))=bv (b.set i c):=by unfold bv;rw[List.map_set]
section
variable (σ:St)
theorem zez (b:List UInt8) (hb:b.length≤100000):Ans Tryz.prog 55 [.sl 1 (bv b)] σ (.sl 1 (bv (padB b))) σ:=by
 have hl:=z0N b;have w1:IntKind.i64.wrap (((b.length:Nat):Int)+1)=((b.length+1:Nat):Int):=by simp only[IntKind.wrap,IntKind.bits,IntKind.signed];simp;omega
 refine Ans.of_run' t55 (fun hbel _=>?_)
 simp -implicitDefEqProofs only[c55,r55,go_sem,hl,w1];refine Go.Ab.L.count (padZ b.length) (fun i=>mkE 45 [(0,.sl 1 (bv b)),(3,I ((b.length+1+i:Nat):Int))]) (fun _=>σ) ?_ ?_ rfl rfl
 · intro i hi J hJ;have hm:(((b.length+1+i:Nat):Int)).tmod 64=(((b.length+1+i)%64:Nat):Int):=rfl
   have hn:((((b.length+1+i)%64:Nat):Int) != 56)=true:=by
    have:=z6y b.length i hi;simp;omega
   have w2:IntKind.i64.wrap (((b.length+1+i:Nat):Int)+1)=((b.length+1+(i+1):Nat):Int):=by simp only[IntKind.wrap,IntKind.bits,IntKind.signed];have:=z3H b.length;simp;omega
   simp -implicitDefEqProofs only[mkE,go_sem,hm,hn,w2];exact hJ
 · intro J;have hm:(((b.length+1+padZ b.length:Nat):Int)).tmod 64=(((b.length+1+padZ b.length)%64:Nat):Int):=rfl;rw[z6x]at hm;have hn:(((56:Nat):Int) != 56)=false:=rfl;have hz:=z3H b.length;generalize hN:b.length+1+padZ b.length=N at hm;have w2:IntKind.i64.wrap ((N:Int)+8)=((N+8:Nat):Int):=by simp only[IntKind.wrap,IntKind.bits,IntKind.signed];simp;omega
   generalize hM:N+8=M at w2;have cm:(((M:Nat):Int)≤(M:Nat)∧((M:Nat):Int)≤4294967296)=True:=eq_true ⟨Int.le_refl _,by omega⟩
   have hr:List.take M (chunks 1 false M (z08 [AV.pl (.int .u8 0)] M))=List.replicate M (AV.pl (.int .u8 0)):=by rw[z7f,List.take_of_length_le (by simp)]
   have cm':(((M:Nat):Int)≤4294967296)=True:=eq_true (by omega)
   have hmin:b.length.min M=b.length:=Nat.min_eq_left (by omega)
   have tk:List.take b.length (bv b)=bv b:=List.take_of_length_le (by rw[hl];exact Nat.le_refl _)
   have dr:List.drop b.length (List.replicate M (AV.pl (.int .u8 0)))=List.replicate (padZ b.length+9) Z8:=by rw[List.drop_replicate];congr 1;omega
   have hl2:(List.replicate M (AV.pl (.int .u8 0))).length=M:=List.length_replicate;have hl3:(bv b++List.replicate (padZ b.length+9) Z8).length=M:=by rw[List.length_append,hl,List.length_replicate];omega
   have lt3:(((b.length:Nat):Int)<((M:Nat):Int))=True:=eq_true (by omega)
   have ge3:(bv b++List.replicate (padZ b.length+9) Z8)[b.length]?=some Z8:=by rw[List.getElem?_append_right (by omega),hl,Nat.sub_self,List.getElem?_replicate,if_pos (by omega)]
   have hr0:=zaO b;simp -implicitDefEqProofs only[mkE,go_sem,hm,hn,w2,cm,hl3,lt3,ge3,hr0,cm',hr,hl,hmin,tk,dr,hl2,z3l,G0,S0,Int.toNat_natCast,Int.le_refl]
   have wd:IntKind.u64.wrap (IntKind.u64.wrap ((b.length:Nat):Int)*8)=((8*b.length:Nat):Int):=by
    have e:IntKind.u64.wrap ((b.length:Nat):Int)=((b.length:Nat):Int):=by simp only[IntKind.wrap,IntKind.bits,IntKind.signed];simp;omega
    rw[e];simp only[IntKind.wrap,IntKind.bits,IntKind.signed];simp;omega
   rw[wd];refine Go.Ab.L.count 8 (fun j=>mkE 45 [(3,I N),(4,.osl σ.length M),(5,.pl (.int .u64 ((8*b.length:Nat):Int))),(29,I j)]) (fun j=>σ++[.row 1 (bv (rowP b j))]) ?_ ?_ rfl rfl
   · intro j hj J hJ;have hd:decide ((j:Int)<8)=true:=decide_eq_true (by omega)
     have x1:IntKind.i64.wrap ((N:Int)+(j:Int))=((N+j:Nat):Int):=by simp only[IntKind.wrap,IntKind.bits,IntKind.signed];simp;omega
     have x2:IntKind.i64.wrap (8*(j:Int))=((8*j:Nat):Int):=by rw[←z0O (n:=8*j) (by omega)];congr 1
     have x3:IntKind.i64.wrap (56-((8*j:Nat):Int))=((56-8*j:Nat):Int):=by rw[←z0O (n:=56-8*j) (by omega)];congr 1;omega
     have p0:∀n:Nat,((0:Int)≤(n:Int))=True:=fun n=>eq_true (Int.natCast_nonneg _)
     have x4:=shr64 (8*b.length) (56-8*j) (by omega)
     have x5:=zey (8*b.length) j hj;have x6:=zfw (8*b.length/2^(56-8*j));rw[←x5]at x6;have wi:IntKind.i64.wrap ((j:Int)+1)=((j+1:Nat):Int):=by rw[←z0O (n:=j+1) (by omega)];congr 1
     have hlj:(rowP b j).length=M:=by rw[z8P b j (by omega)];omega
     have hlj2:=z0N (rowP b j);have lt4:(((N+j:Nat):Int)<((M:Nat):Int))=True:=eq_true (by omega)
     have ge4:(bv (rowP b j))[N+j]?=some (.pl (.int .u8 (((gB (rowP b j) (N+j)).toNat:Nat):Int))):=zdR (by omega)
     have st:=zaP (rowP b j) (N+j) ((wrdB (8*b.length)).getD j 0);have st2:=zcy b j hj;rw[hN]at st2;rw[st2]at st;simp -implicitDefEqProofs only[mkE,go_sem,hd,x1,x2,x3,p0,x4,x6,wi,hlj,hlj2,lt4,ge4,st,G0,S0,Int.toNat_natCast];exact hJ
   · intro J;have hd:decide (((8:Nat):Int)<8)=false:=rfl;have e8:=zcx b;have hl8:(rowP b 8).length=M:=by rw[z8P b 8 (by decide)];omega
     have hl9:=z0N (rowP b 8);simp -implicitDefEqProofs only[mkE,go_sem,hd,G0,S0,hl8,hl9];rw[←e8];exact Fini.trim2 (σ':=σ) (ex:=[_]) rfl rfl (Nat.le_refl _) (z4h _ _) hbel
end
def zer32:List UInt8:=List.replicate 32 0
theorem z4i (s:S8):(s8v s).length=8:=rfl
theorem z3T (s:S8):List.take 8 (s8v s)=s8v s:=rfl
theorem z6z (s:S8):(s8v s).all AV.one=true:=rfl
theorem z8Q (s:S8):List.drop 8 (s8v s)=[]:=rfl
def toS (l:List (BitVec 32)):S8:=⟨gW l 0,gW l 1,gW l 2,gW l 3,gW l 4,gW l 5,gW l 6,gW l 7⟩
theorem toS_l {l:List (BitVec 32)} (h:l.length=8):wv l=s8v (toS l):=by
 match l,h with
 |[a,b,c,d,e,f,g,i],_=>rfl
theorem z61 (h:S8) (b:List UInt8):(z3S h b).length=8:=z2T _ _ rfl 8
def firstS:S8:=⟨1779033703,3144134277,1013904242,2773480762,1359893119,2600822924,528734635,1541459225⟩
def z2E (p:List UInt8):Nat→S8
 |0=>firstS
 |i+1=>toS (z3S (z2E p i) ((p.drop (64*i)).take 64))
def byteS (h:S8) (i:Nat):UInt8:=lo8 (gW h.l (i/4) >>> (24-8*(i%4)))
def outTo (h:S8):Nat→List UInt8
 |0=>List.replicate 32 0
 |i+1=>(outTo h i).set i (byteS h i)
theorem z2U (h:S8):∀i,(outTo h i).length=32
 |0=>List.length_replicate
 |i+1=>by rw[outTo,List.length_set,z2U h i]
def shaB (b:List UInt8):List UInt8:=outTo (z2E (padB b) ((padB b).length/64)) 32
theorem z28 (b:List UInt8):(shaB b).length=32:=z2U _ _
theorem zaQ (b:List UInt8) (k:Nat):(bv b).take k=bv (b.take k):=by unfold bv;rw[List.map_take]
theorem zaR (b:List UInt8) (k:Nat):(bv b).drop k=bv (b.drop k):=by unfold bv;rw[List.map_drop]
section
variable (σ:St)
theorem G2 (x y z:Ob) (ex:St):(σ++x::y::z::ex)[σ.length+2]?=some z:=by rw[List.getElem?_append_right (by simp)];simp
theorem S2 (x y z u:Ob) (ex:St):(σ++x::y::z::ex).set (σ.length+2) u=σ++x::y::u::ex:=by rw[List.set_append_right _ _ (by simp)];simp
theorem zdT {b:List UInt8} {i:Nat} (h:i<b.length) (x:UInt8):List.take i (bv b)++[.pl (.int .u8 ((x.toNat:Nat):Int))]++List.drop (i+1) (bv b)=bv (b.set i x):=by
 rw[←zaP,List.set_eq_take_append_cons_drop,if_pos (by rw[z0N];exact h)]
 simp
theorem sha_ans (b:List UInt8) (hb:b.length≤100000) (hG:∀ex,gloA (σ++ex) 0=some kV):Ans Tryz.prog 27 [.sl 1 (bv b)] σ (.agg (bv (shaB b))) σ:=by
 have hp:=fun s=>zez s b hb
 have h64:=z8O b;unfold shaB;have hpl:(padB b).length=64*((padB b).length/64):=by omega
 generalize padB b=p at hp h64 hpl;generalize hn:p.length/64=n at hpl;have hr:=fun ex h bl (hbl:bl.length=64)=>zaL (σ++ex) h bl hbl (fun ex2=>by rw[List.append_assoc];exact hG _)
 refine Ans.of_run' t27 (fun hbel _=>?_)
 simp -implicitDefEqProofs only[c27,r27,go_sem,List.append_assoc,List.cons_append,List.nil_append,List.length_append,List.length_cons,List.length_nil,G0,S0,G1,S1];refine CO.intro (hp _) ?_;simp -implicitDefEqProofs only[go_sem];refine Go.Ab.L.count n (fun i=>mkE 38 [(2,.ptr σ.length 0),(3,.ptr (σ.length+1) 0),(4,.sl 1 (bv (p.drop (64*i))))]) (fun i=>σ++[.box (bv zer32),.box (s8v (z2E p i))]) ?_ ?_ ?_ ?_
 · intro i hi J hJ;have hd:decide ((0:Int)<((p.drop (64*i)).length:Nat))=true:=decide_eq_true (by rw[List.length_drop];omega)
   have hlb:=z0N (p.drop (64*i));have hll:(p.drop (64*i)).length=p.length-64*i:=List.length_drop;have l64:((64:Int)≤((p.drop (64*i)).length:Nat))=True:=eq_true (by rw[hll];omega)
   have tk:=zaQ (p.drop (64*i)) 64;have dk:=zaR (p.drop (64*i)) 64;have htl:((p.drop (64*i)).take 64).length=64:=by rw[List.length_take,hll];omega
   have hst:z2E p (i+1)=toS (z3S (z2E p i) ((p.drop (64*i)).take 64)):=rfl;have hre:=fun ex=>hr ex (z2E p i) _ htl
   rw[hst]at hJ;have t8:=toS_l (z61 (z2E p i) ((p.drop (64*i)).take 64));rw[t8]at hre;have n64:Int.toNat 64=64:=rfl;have n0:Int.toNat 0=0:=rfl;have tkl:List.take (p.drop (64*i)).length (bv (p.drop (64*i)))=bv (p.drop (64*i)):=List.take_of_length_le (by rw[hlb];exact Nat.le_refl _)
   have hdd:List.drop 64 (List.drop (64*i) p)=List.drop (64*(i+1)) p:=by rw[List.drop_drop];congr 1
   have hla:=z0N ((p.drop (64*i)).take 64);have hall:=bv_all ((p.drop (64*i)).take 64);have tk2:List.take 64 (bv ((p.drop (64*i)).take 64))=bv ((p.drop (64*i)).take 64):=List.take_of_length_le (by rw[hla,htl];exact Nat.le_refl _)
   simp -implicitDefEqProofs only[mkE,go_sem,hd,hlb,l64,tk,dk,htl,G1,S1,n64,n0,List.drop_zero,z4i,z3T,hla,hall,tk2];refine CD.intro (hre _) ?_;simp -implicitDefEqProofs only[mkE,go_sem,hd,hlb,l64,tk,dk,htl,G1,S1,n64,n0,List.drop_zero,z4i,z3T,z6z,z8Q,List.append_nil,hla,hall,tk2,hdd,tkl,Int.le_refl];exact hJ
 · intro J0;have hd0:decide ((0:Int)<((p.drop (64*n)).length:Nat))=false:=decide_eq_false (by rw[List.length_drop];omega)
   have hlb:=z0N (p.drop (64*n));have hzz:([.pl (.int .u8 0),.pl (.int .u8 0),.pl (.int .u8 0),.pl (.int .u8 0),.pl (.int .u8 0),.pl (.int .u8 0),.pl (.int .u8 0),.pl (.int .u8 0),.pl (.int .u8 0),.pl (.int .u8 0),.pl (.int .u8 0),.pl (.int .u8 0),.pl (.int .u8 0),.pl (.int .u8 0),.pl (.int .u8 0),.pl (.int .u8 0),.pl (.int .u8 0),.pl (.int .u8 0),.pl (.int .u8 0),.pl (.int .u8 0),.pl (.int .u8 0),.pl (.int .u8 0),.pl (.int .u8 0),.pl (.int .u8 0),.pl (.int .u8 0),.pl (.int .u8 0),.pl (.int .u8 0),.pl (.int .u8 0),.pl (.int .u8 0),.pl (.int .u8 0),.pl (.int .u8 0),.pl (.int .u8 0)]:List AV)=bv zer32:=rfl;generalize z2E p n=H;simp -implicitDefEqProofs only[mkE,go_sem,hd0,hlb,List.append_assoc,List.cons_append,List.nil_append,List.length_append,List.length_cons,List.length_nil];refine Go.Ab.L.count 32 (fun i=>mkE 38 [(2,.ptr σ.length 0),(3,.ptr (σ.length+1) 0),(5,.ptr (σ.length+2) 0),(21,I i)]) (fun i=>σ++[.box (bv zer32),.box (s8v H),.box (bv (outTo H i))]) ?_ ?_ rfl rfl
   · intro i hi J hJ;have hd:decide ((i:Int)<32)=true:=decide_eq_true (by omega)
     have q1:((i:Int)).tdiv 4=((i/4:Nat):Int):=rfl;have q2:((i:Int)).tmod 4=((i%4:Nat):Int):=rfl;have q3:IntKind.i64.wrap (8*((i%4:Nat):Int))=((8*(i%4):Nat):Int):=by rw[←z0O (n:=8*(i%4)) (by omega)];congr 1
     have q4:IntKind.i64.wrap (24-((8*(i%4):Nat):Int))=((24-8*(i%4):Nat):Int):=by rw[←z0O (n:=24-8*(i%4)) (by omega)];congr 1;omega
     have q5:IntKind.i64.wrap ((i/4:Nat):Int)=((i/4:Nat):Int):=z0O (by omega)
     have p0:∀n:Nat,((0:Int)≤(n:Int))=True:=fun n=>eq_true (Int.natCast_nonneg _)
     have l8:(((i/4:Nat):Int)<((8:Nat):Int))=True:=eq_true (by omega)
     have l32:((i:Int)<((32:Nat):Int))=True:=eq_true (by omega)
     have hh:(List.drop (i/4) (s8v H)).head?=some (V32 (gW H.l (i/4))):=by rw[show s8v H=wv H.l from rfl,List.head?_drop,z3z (by show i/4<8;omega)]
     have v1:=V_shr (gW H.l (i/4)) (24-8*(i%4)) (by omega)
     have v2:=z8I (gW H.l (i/4) >>> (24-8*(i%4)));have wi:IntKind.i64.wrap ((i:Int)+1)=((i+1:Nat):Int):=by rw[←z0O (n:=i+1) (by omega)];congr 1
     have w1:=z2U H i;have w2:=z0N (outTo H i);have li:(i≤31)=True:=eq_true (by omega)
     have hp:=zdT (b:=outTo H i) (i:=i) (by omega)
     have hw:outTo H (i+1)=(outTo H i).set i (byteS H i):=rfl;rw[hw]at hJ;unfold byteS at hJ;simp -implicitDefEqProofs only[mkE,go_sem,hd,q1,q2,q3,q4,q5,p0,l8,l32,hh,v1,v2,wi,w1,w2,li,hp,G1,S1,G2,S2,Nat.mul_one,Int.toNat_natCast];exact hJ
   · intro J;have hd:decide (((32:Nat):Int)<32)=false:=rfl;have w1:=z2U H 32;have w2:=z0N (outTo H 32);have w3:(bv zer32).length=32:=rfl;have a1:=bv_all (outTo H 32);have k1:List.take 32 (bv (outTo H 32))=bv (outTo H 32):=List.take_of_length_le (by rw[w2,w1];exact Nat.le_refl _)
     have k2:List.drop 32 (bv zer32)=[]:=rfl;simp -implicitDefEqProofs only[mkE,go_sem,hd,G0,S0,G1,S1,G2,S2,w1,w2,w3,a1,k1,k2,List.append_nil];exact Fini.trim2 (σ':=σ) (ex:=[_,_,_]) (by simp -implicitDefEqProofs only[go_sem,resA,z01,rvA,oneOf,G0,w1,w2,k1]<;>rfl) rfl (Nat.le_refl _) (bel_bva _ _) hbel
 · rfl
 · rfl
end
end Go.Proofs.YteakobbdgehlgaaGreatDoor.Sha
namespace Go.Proofs.YteakobbdgehlgaaGreatDoor
open Go Go.Ab
set_option maxRecDepth 100000
abbrev Lab:=ByteArray×ByteArray
abbrev lv (x:Lab):AV:=.agg [Sx x.1,Sx x.2]
def lvs (L:List Lab):List AV:=L.map lv
theorem z1z (L:List Lab):(lvs L).length=L.length:=List.length_map ..
theorem zeA (L:List Lab) (i:Nat) (h:i<L.length):(lvs L)[i]?=some (lv L[i]):=by simp[lvs,h]
section
variable (σ:St)
theorem z0F {i n:Nat} (h:i<n):((i:Int)<(n:Nat))=True:=by simp;omega
theorem zaS {i n:Nat} (h:¬i<n):((i:Int)<(n:Nat))=False:=by simp;omega
theorem dec_lt {i n:Nat} (h:i<n):decide ((i:Int)<(n:Nat))=true:=by simp;omega
theorem z88 {i n:Nat} (h:¬i<n):decide ((i:Int)<(n:Nat))=false:=by simp;omega
theorem wrap_succ {i:Nat} (h:i≤100000):IntKind.i64.wrap ((i:Int)+1)=((i+1:Nat):Int):=by rw[wrapN (by omega) (by omega)];rfl
def leS (a b:ByteArray):Bool:=Op.bytesLess a.toList b.toList||a.toList==b.toList
end
abbrev noL:Lab:=(⟨#[]⟩,⟨#[]⟩)
def pos (out:List Lab) (x:Lab):Nat→Nat
 |0=>0
 |n+1=>if Op.bytesLess x.1.toList (out.getD n noL).1.toList then pos out x n else n+1
theorem B_pl (n:Nat) (v:Value):Bel n (.pl v)=True:=eq_true (.pl v)
theorem B_any (n:Nat):Bel n .any=True:=eq_true .any
theorem z62 (n:Nat):Bel n .nils=True:=eq_true .nils
theorem B_tup (n:Nat):Bel n (.tup [])=True:=eq_true (.tup _ fun i hi=>absurd hi (Nat.not_lt_zero _))
theorem B_sl0 (n k:Nat):Bel n (.sl k [])=True:=eq_true (.sl k [] fun i hi=>absurd hi (Nat.not_lt_zero _))
theorem B_osl (n l k:Nat):Bel n (.osl l k)=(l<n):=by
 apply propext;constructor
 · intro h;cases h;assumption
 · intro h;exact .osl l k h
theorem B_ptr (n l k:Nat):Bel n (.ptr l k)=(l<n):=by
 apply propext;constructor
 · intro h;cases h;assumption
 · intro h;exact .ptr l k h
section
variable (σ:St)
theorem g0 (x:Ob) (ex:St):(σ++x::ex)[σ.length]?=some x:=by rw[List.getElem?_append_right (by simp)];simp
theorem s0 (x y:Ob) (ex:St):(σ++x::ex).set σ.length y=σ++y::ex:=by rw[List.set_append_right _ _ (by simp)];simp
end
theorem z8R {n m:Nat} {x:AV} (h:Bel n x) (hle:n≤m):Bel m x:=by
 induction h with
 |any=>exact .any
 |pl v=>exact .pl v
 |nils=>exact .nils
 |sl sz xs _ ih=>exact .sl sz xs ih
 |rp cs _ ih=>exact .rp cs ih
 |ptr l off h=>exact .ptr l off (by omega)
 |osl l k h=>exact .osl l k (by omega)
 |ep l k i off h=>exact .ep l k i off (by omega)
 |psl l off k h=>exact .psl l off k (by omega)
 |zsl=>exact .zsl
 |win sz l k lo h=>exact .win sz l k lo (by omega)
 |agg cs _ ih=>exact .agg cs ih
 |tup cs _ ih=>exact .tup cs ih
 |fn f fs cs _ _ ih ih'=>exact .fn f fs cs ih ih'
theorem zaT {n m:Nat} {o:Ob} (h:BelO n o) (hle:n≤m):BelO m o:=by
 cases o with
 |dead=>trivial
 |glo=>trivial
 |box cs=>exact fun c hc=>z8R (h c hc) hle
 |row sz xs=>exact fun c hc=>z8R (h c hc) hle
section
variable (σ:St)
theorem g1 (x y:Ob) (ex:St):(σ++x::y::ex)[σ.length+1]?=some y:=by rw[List.getElem?_append_right (by simp)];simp
theorem s1 (x y z:Ob) (ex:St):(σ++x::y::ex).set (σ.length+1) z=σ++x::z::ex:=by rw[List.set_append_right _ _ (by simp)];simp
end
end Go.Proofs.YteakobbdgehlgaaGreatDoor
namespace Go.Proofs.YteakobbdgehlgaaGreatDoor
open Go Go.Ab Go.Cod
set_option maxRecDepth 100000
abbrev UN (n:Nat):AV:=.pl (.int .u64 n)
def bc (c:UInt8):AV:=.pl (.int .u8 c.toNat)
def byv (b:Byt):List AV:=b.map bc
theorem z02 (b:Byt):(byv b).length=b.length:=List.length_map ..
theorem zeB:byv []=[]:=rfl
theorem z6A (c:UInt8) (b:Byt):byv (c::b)=bc c::byv b:=rfl
theorem z1c (a b:Byt):byv (a++b)=byv a++byv b:=List.map_append ..
theorem z0q (b:Byt) (k:Nat):(byv b).take k=byv (b.take k):=by simp[byv]
theorem z0r (b:Byt) (k:Nat):(byv b).drop k=byv (b.drop k):=by simp[byv]
theorem z1N (b:Byt) (f:AV→Bool) (h:∀c:UInt8,f (bc c)=true):(byv b).all f=true:=by
 simp only[byv,List.all_map,List.all_eq_true];intro c _;exact h c
theorem z59 (b:Byt) (i:Nat) (h:i<b.length):(byv b)[i]?=some (bc b[i]):=by simp[byv,h]
theorem zfx (n:Nat) (c:UInt8):Bel n (bc c):=.pl _
theorem z1P (n:Nat) (b:Byt):Bel n (.sl 1 (byv b)):=.sl 1 _ fun i hi=>by
 have:(byv b)[i]=bc (b[i]'(by rw[←z02];exact hi)):=by simp[byv]
 rw[this];exact zfx n _
theorem z3s (s:ByteArray):z3h s=byv s.data.toList:=rfl
theorem z8S (s:ByteArray):(s.data.toList.map fun b=>(AV.pl (.int .u8 b.toNat)))=byv s.data.toList:=rfl
theorem z1W:∀b:Byt,byteL (byv b)=some (b.map fun c=>(c.toNat:Int))
 |[]=>rfl
 |c::b=>by simp only[z6A,bc,byteL,z1W b,Option.map_some,List.map_cons]
theorem z1R (b:Byt):textOf (b.map fun c=>(c.toNat:Int))=⟨b.toArray⟩:=by
 unfold textOf;congr 2
 rw[List.map_map]
 conv=>rhs;rw[←List.map_id b]
 apply List.map_congr_left;intro c _;simp
theorem z1u {n:Nat} (h:n<18446744073709551616):IntKind.u64.wrap (n:Int)=(n:Int):=by
 simp only[IntKind.wrap,IntKind.bits,IntKind.signed];simp;omega
theorem z63 {n:Nat}:IntKind.u8.wrap (n:Int)=((n%256:Nat):Int):=by
 simp only[IntKind.wrap,IntKind.bits,IntKind.signed];simp
theorem or128:∀m:Fin 256,IntKind.u8.wrap ((BitVec.ofInt 8 (m.val:Int) ||| BitVec.ofInt 8 128).toNat:Int)=((m.val%128+128:Nat):Int):=by decide +kernel
theorem bc_of {n:Nat} (h:n<256):AV.pl (.int .u8 n)=bc n.toUInt8:=by
 rw[bc,toNat_toUInt8 h]
theorem row1 (σ:St) (x:Ob):(σ++[x])[σ.length]?=some x:=by simp
theorem shr7 (n:Nat):((n:Int).fdiv (2^min (7:Int).toNat 64))=((n/128:Nat):Int):=by
 have:(min (7:Int).toNat 64)=7:=rfl;rw[this];rw[Int.fdiv_eq_ediv_of_nonneg _ (by decide)]
 rfl
theorem z8T:∀(k n:Nat),n<128^(k+1)→(putN n).length≤k+1
 |0,n,h=>by rw[z3j (by simpa using h)];simp
 |k+1,n,h=>by
  by_cases h1:n<128
  · rw[z3j h1];simp
  · rw[z58 h1,List.length_cons];have:=z8T k (n/128) (Nat.div_lt_of_lt_mul (by rw[Nat.pow_succ,Nat.mul_comm]at h;exact h))
    omega
theorem z0J {n:Nat} (h:n<18446744073709551616):(putN n).length≤10:=z8T 9 n (Nat.lt_of_lt_of_le h (by decide))
theorem zaU (n:Nat):IntKind.u8.wrap ((BitVec.ofInt 8 (((n%256:Nat):Int)) ||| BitVec.ofInt 8 128).toNat:Int)=((n%128+128:Nat):Int):=by
 have:=or128 ⟨n%256,Nat.mod_lt _ (by decide)⟩
 simp only[show(n%256)%128=n%128 by omega]at this
 exact this
theorem u8_or (n:Nat):IntKind.u8.wrap ((BitVec.ofInt IntKind.u8.bits (((n%256:Nat):Int)) ||| BitVec.ofInt IntKind.u8.bits 128).toNat:Int)=((n%128+128:Nat):Int):=zaU n
theorem intle (a b:Nat):decide ((a:Int)≤(b:Int))=decide (a≤b):=by rw[Bool.eq_iff_iff];simp
theorem Fini.ret3 {n m:Nat} {rvs:List RV} {r r':AV} {σ σ':St} {env:Env} (h:resA env σ rvs=some r') (e:r'=r) (e':σ=σ'):Fini m rvs r σ' .ret env σ:=by
 subst e;subst e';exact Fini.ret h
section
variable (σ:St)
theorem zaV (n:Nat) (hn:n<18446744073709551616):Ans Tryz.prog 50 [UN n] σ (.osl σ.length (putN n).length) (σ++[.row 1 (byv (putN n))]):=by
 have h10:=z0J hn;refine Ans.of_run t50 ?_;simp -implicitDefEqProofs only[c50,r50,go_sem];refine Go.Ab.L.intro (α:={ p:Nat×Byt // p.1<18446744073709551616∧p.2++putN p.1=putN n }) (fun p=>p.1.1) (fun p=>mkE 19 [(0,UN p.1.1),(3,.osl σ.length p.1.2.length)]) (fun p=>σ++[.row 1 (byv p.1.2)]) ?_ ⟨(n,[]),hn,rfl⟩ rfl rfl
 rintro⟨⟨m,pre⟩,hm,hp⟩ J hJ;have hl:pre.length+(putN m).length≤10:=by rw[←List.length_append,hp];exact h10
 have hx:∀c:Int,(byv pre++[AV.pl (.int .u8 c)]).length=pre.length+1:=fun c=>by simp[z02]
 have d0:=intle 128 m;simp only[Int.cast_ofNat_Int]at d0;have hw:=z1u hm;have hle:pre.length+1≤2^32:=by omega
 by_cases h:m<128
 · have d1:decide ((128:Int)≤m)=false:=by simp;omega
   have d2:IntKind.u8.wrap (m:Int)=m:=by rw[z63];congr 1;omega
   simp -implicitDefEqProofs only[mkE,go_sem,d1,row1,z02,List.length_singleton,hle,d2];refine Fini.ret3 (n:=0) rfl ?_ ?_
   · show AV.osl σ.length (pre.length+1)=AV.osl σ.length (putN n).length;rw[←hp,z3j h];simp
   · rw[List.set_append_right _ _ (Nat.le_refl _)];simp only[Nat.sub_self,List.set_cons_zero];rw[←hp,z1c,z3j h,bc_of (show m<256 by omega)]
     rfl
 · have d1:decide ((128:Int)≤m)=true:=by simp;omega
   simp -implicitDefEqProofs only[mkE,go_sem,d1,row1,z02,List.length_singleton,hle,z63 (n:=m),u8_or,zaU,shr7,z1u (show m/128<18446744073709551616 by omega)]
   rw[List.set_append_right _ _ (Nat.le_refl _)];simp only[Nat.sub_self,List.set_cons_zero]
   have hgo:=hJ ⟨(m/128,pre++[(m%128+128).toUInt8]),by simp only;omega,by
    rw[←hp];simp only[List.append_assoc,List.singleton_append];rw[z58 h]⟩ (by simp only;omega)
   simp only[z1c,List.length_append,List.length_singleton]at hgo
   have key:∀v:Int,v=((m%128+128:Nat):Int)→J (mkE 19 [(0,UN (m/128)),(3,.osl σ.length (pre.length+1))]) (σ++[Ob.row 1 (byv pre++[AV.pl (.int .u8 v)])]):=by
    rintro _ rfl;rw[bc_of (show m%128+128<256 by omega)]
    exact hgo
   exact key _ (zaU m)
theorem z89 (s:ByteArray) (hs:s.size≤4294967280):Ans Tryz.prog 51 [Sx s] σ (.sl 1 (byv (txtB s))) σ:=by
 have h10:=z0J (n:=s.size) (by omega)
 have hsz:=z1m s;have hw:=z1u (n:=s.size) (by omega)
 have hle:(putN s.size).length+s.size≤2^32:=by omega
 refine Ans.of_run' t51 (fun hbel _=>?_)
 simp -implicitDefEqProofs only[c51,r51,go_sem,hw];refine CO.intro (zaV σ s.size (by omega)) ?_
 simp -implicitDefEqProofs only[go_sem,z8S,row1,z02,hsz,hle];simp -implicitDefEqProofs only[go_sem,g0,s0,z02,hsz,←z1c,List.length_append];exact Fini.trim2 (σ':=σ) (by show _=some (AV.sl 1 (byv (txtB s)));rfl) rfl (Nat.le_refl _) (z1P _ _) hbel
end
def getV (b:Byt):AV:=match getN 0 b with
 |some p=>.tup [UN p.1,I (b.length-p.2.length:Nat),Bo true]
 |none=>.tup [UN 0,I 0,Bo false]
theorem z0A {b:Byt} (h:getN 0 b=none):getV b=.tup [UN 0,I 0,Bo false]:=by unfold getV;rw[h]
theorem z0G {b:Byt} {n:Nat} {t:Byt} (h:getN 0 b=some (n,t)):getV b=.tup [UN n,I (b.length-t.length:Nat),Bo true]:=by unfold getV;rw[h]
theorem zfy:∀m:Fin 256,IntKind.u8.wrap ((BitVec.ofInt 8 (m.val:Int) &&& BitVec.ofInt 8 127).toNat:Int)=((m.val%128:Nat):Int):=by decide +kernel
theorem u8_and (c:UInt8):IntKind.u8.wrap ((BitVec.ofInt IntKind.u8.bits (c.toNat:Int) &&& BitVec.ofInt IntKind.u8.bits 127).toNat:Int)=((c.toNat%128:Nat):Int):=zfy ⟨c.toNat,c.toNat_lt⟩
theorem zaW (a d s:Nat) (ha:a<2^s) (hs:s<64) (hd:d*2^s<18446744073709551616) :
  IntKind.u64.wrap ((BitVec.ofInt IntKind.u64.bits (a:Int) ||| BitVec.ofInt IntKind.u64.bits (IntKind.u64.wrap ((d:Int)*2^min (((s:Nat):Int).toNat) IntKind.u64.bits))).toNat:Int)=((a+2^s*d:Nat):Int):=by
 have hm:min (((s:Nat):Int).toNat) IntKind.u64.bits=s:=by
  show min s 64=s;omega
 have ha2:a<18446744073709551616:=Nat.lt_of_lt_of_le ha (by
  calc 2^s≤2^63:=Nat.pow_le_pow_right (by decide) (by omega)
   _≤18446744073709551616:=by decide)
 rw[hm];have e1:((d:Int)*2^s)=((d*2^s:Nat):Int):=by push_cast;rfl
 rw[e1,z1u hd]
 have e2:(BitVec.ofInt IntKind.u64.bits (a:Int) ||| BitVec.ofInt IntKind.u64.bits ((d*2^s:Nat):Int)).toNat=a+2^s*d:=by
  rw[BitVec.toNat_or]
  have f:∀n:Nat,n<18446744073709551616→(BitVec.ofInt IntKind.u64.bits (n:Int)).toNat=n:=fun n hn=>by
   rw[BitVec.ofInt_natCast,BitVec.toNat_ofNat];exact Nat.mod_eq_of_lt hn
  rw[f a ha2,f _ hd,←Nat.shiftLeft_eq,Nat.or_comm,←Nat.shiftLeft_add_eq_or_of_lt ha,Nat.shiftLeft_eq,Nat.mul_comm,Nat.add_comm]
 rw[e2]
 have hlt:a+2^s*d<18446744073709551616:=by
  by_cases h0:d=0
  · subst h0;simpa using ha2
  · have h64:(18446744073709551616:Nat)=2^s*2^(64-s):=by rw[←Nat.pow_add,show s+(64-s)=64 by omega]
    have hd2:d<2^(64-s):=by
     rw[h64,Nat.mul_comm]at hd;exact Nat.lt_of_mul_lt_mul_left hd
    have:2^s*(d+1)≤2^s*2^(64-s):=Nat.mul_le_mul_left _ hd2;rw[Nat.mul_add,Nat.mul_one]at this;omega
 exact z1u hlt
def orT (a:Nat) (c:UInt8) (s:Nat):Int:=IntKind.u64.wrap ((BitVec.ofInt 64 (a:Int) ||| BitVec.ofInt 64 (IntKind.u64.wrap (IntKind.u64.wrap (IntKind.u8.wrap ((BitVec.ofInt 8 (c.toNat:Int) &&& BitVec.ofInt 8 127).toNat:Int))*2^min s 64))).toNat:Int)
theorem zfz (a:Nat) (c:UInt8) (s:Nat) (ha:a<2^s) (hs:s<64) (hd:c.toNat%128*2^s<18446744073709551616):orT a c s=((a+2^s*(c.toNat%128):Nat):Int):=by
 have h1:=zaW a (c.toNat%128) s ha hs hd
 have h2:IntKind.u64.wrap (IntKind.u8.wrap ((BitVec.ofInt 8 (c.toNat:Int) &&& BitVec.ofInt 8 127).toNat:Int))=((c.toNat%128:Nat):Int):=by
  have:IntKind.u8.wrap ((BitVec.ofInt 8 (c.toNat:Int) &&& BitVec.ofInt 8 127).toNat:Int)=((c.toNat%128:Nat):Int):=u8_and c;rw[this];exact z1u (by omega)
 unfold orT;rw[h2];exact h1
theorem z7g {i:Nat} (h:i≤100):IntKind.i64.wrap (7*(i:Int))=((7*i:Nat):Int):=by rw[wrapN (by omega) (by omega)];push_cast;rfl
section
variable (σ:St)
theorem z8U (b:Byt) (hb:b.length≤100000):Ans Tryz.prog 95 [.sl 1 (byv b)] σ (getV b) σ:=by
 refine Ans.of_run t95 ?_;simp -implicitDefEqProofs only[c95,r95,go_sem,z02]
 refine Go.Ab.L.intro (α:={ p:Nat×Nat // p.1≤b.length∧p.1≤9∧p.2<2^(7*p.1)∧getN 0 b=(getN p.1 (b.drop p.1)).map fun q=>(p.2+2^(7*p.1)*q.1,q.2) }) (fun p=>b.length-p.1.1)
  (fun p=>mkE 43 [(5,UN p.1.2),(8,.sl 1 (byv b)),(9,I b.length),(10,I p.1.1)]) (fun _=>σ) ?_ ⟨(0,0),Nat.zero_le _,Nat.zero_le _,by simp,by cases h:getN 0 b<;>simp[h]⟩ rfl rfl
 rintro⟨⟨i,a⟩,hi,h9,ha,hg⟩ J hJ;simp only at hi h9 ha hg hJ;by_cases hlt:i<b.length
 · have hx:=z59 b i hlt;have hdr:b.drop i=b[i]::b.drop (i+1):=List.drop_eq_getElem_cons hlt;rw[hdr]at hg;have hcl:=(b[i]).toNat_lt;generalize hc:b[i]=c at hx hg hcl;have hbeq9:((i:Int)==9)=decide (i=9):=by rw[Bool.eq_iff_iff];simp;omega
   have hgt1:decide ((1:Int)<c.toNat)=decide (1<c.toNat):=by rw[Bool.eq_iff_iff];simp;omega
   have hgt0:decide ((0:Int)<i)=decide (0<i):=by rw[Bool.eq_iff_iff];simp
   have hbeq0:((c.toNat:Int)==0)=decide (c.toNat=0):=by rw[Bool.eq_iff_iff];simp
   have h128:decide ((c.toNat:Int)<128)=decide (c.toNat<128):=by rw[Bool.eq_iff_iff];simp;omega
   simp only[getN]at hg;by_cases hbad:(i=9∧1<c.toNat)∨(0<i∧c.toNat=0)
   · rw[if_pos hbad]at hg;simp only[Option.map_none]at hg;rw[z0A hg];rcases hbad with⟨h1,h2⟩|⟨h1,h2⟩
     · simp -implicitDefEqProofs only[mkE,go_sem,z02,z0F hlt,dec_lt hlt,hx,bc,hbeq9,hgt1,decide_eq_true h1,decide_eq_true h2];exact Fini.ret rfl
     · by_cases h3:i=9
       · have h4:decide (1<c.toNat)=false:=decide_eq_false (by omega)
         simp -implicitDefEqProofs only[mkE,go_sem,z02,z0F hlt,dec_lt hlt,hx,bc,hbeq9,hgt1,hgt0,hbeq0,decide_eq_true h1,decide_eq_true h2,decide_eq_true h3,h4];exact Fini.ret rfl
       · simp -implicitDefEqProofs only[mkE,go_sem,z02,z0F hlt,dec_lt hlt,hx,bc,hbeq9,hgt1,hgt0,hbeq0,decide_eq_true h1,decide_eq_true h2,decide_eq_false h3];exact Fini.ret rfl
   · rw[if_neg hbad]at hg;have hs:7*i<64:=by omega
     have hd:c.toNat%128*2^(7*i)<18446744073709551616:=by
      by_cases h3:i=9
      · subst h3;have:c.toNat≤1:=by omega
        have:c.toNat%128≤1:=by omega
        calc c.toNat%128*2^(7*9)≤1*2^63:=Nat.mul_le_mul_right _ this
         _<18446744073709551616:=by decide
      · have h4:c.toNat%128<2^7:=Nat.mod_lt _ (by decide)
        calc c.toNat%128*2^(7*i)<2^7*2^(7*i):=Nat.mul_lt_mul_of_pos_right h4 (Nat.two_pow_pos _)
         _=2^(7+7*i):=by rw[Nat.pow_add]
         _≤2^63:=Nat.pow_le_pow_right (by decide) (by omega)
         _<18446744073709551616:=by decide
     have hor:=zfz a c (7*i) ha hs hd;have hin:=wrap_succ (i:=i) (by omega)
     have h7:=z7g (i:=i) (by omega)
     have go:∀(P:Prop),(decide (i=9)=true→decide (1<c.toNat)=false→P)→(decide (i=9)=false→P)→P:=fun P p q=>by
      by_cases h3:i=9
      · exact p (decide_eq_true h3) (decide_eq_false (by omega))
      · exact q (decide_eq_false h3)
     have go2:∀(P:Prop),(decide (0<i)=true→decide (c.toNat=0)=false→P)→(decide (0<i)=false→P)→P:=fun P p q=>by
      by_cases h3:0<i
      · exact p (decide_eq_true h3) (decide_eq_false (by omega))
      · exact q (decide_eq_false h3)
     by_cases hend:c.toNat<128
     · have e128:=decide_eq_true hend;rw[if_pos hend]at hg;simp only[Option.map_some]at hg;rw[z0G hg];have hmod:c.toNat%128=c.toNat:=Nat.mod_eq_of_lt hend
       have hfin:∀v:Int,v=((a+2^(7*i)*(c.toNat%128):Nat):Int)→(.tup [.pl (.int .u64 v),I ((i+1:Nat):Int),Bo true]:AV)=.tup [UN (a+2^(7*i)*c.toNat),I (b.length-(b.drop (i+1)).length:Nat),Bo true]:=by
        rintro _ rfl;rw[hmod,List.length_drop,show b.length-(b.length-(i+1))=i+1 by omega]
       refine go _ (fun x1 x2=>go2 _ (fun y1 y2=>?_) fun y1=>?_) fun x1=>go2 _ (fun y1 y2=>?_) fun y1=>?_
       · simp -implicitDefEqProofs only[mkE,go_sem,z02,z0F hlt,dec_lt hlt,hx,bc,hbeq9,hgt1,hgt0,hbeq0,x1,x2,y1,y2,h7,h128,e128,hin];exact Fini.ret' rfl (hfin _ hor)
       · simp -implicitDefEqProofs only[mkE,go_sem,z02,z0F hlt,dec_lt hlt,hx,bc,hbeq9,hgt1,hgt0,hbeq0,x1,x2,y1,h7,h128,e128,hin];exact Fini.ret' rfl (hfin _ hor)
       · simp -implicitDefEqProofs only[mkE,go_sem,z02,z0F hlt,dec_lt hlt,hx,bc,hbeq9,hgt1,hgt0,hbeq0,x1,y1,y2,h7,h128,e128,hin];exact Fini.ret' rfl (hfin _ hor)
       · simp -implicitDefEqProofs only[mkE,go_sem,z02,z0F hlt,dec_lt hlt,hx,bc,hbeq9,hgt1,hgt0,hbeq0,x1,y1,h7,h128,e128,hin];exact Fini.ret' rfl (hfin _ hor)
     · have e128:=decide_eq_false hend;rw[if_neg hend]at hg
       have hi9:i<9:=by
        rcases Nat.lt_or_eq_of_le h9 with h|h
        · exact h
        · omega
       have hgo:=hJ ⟨(i+1,a+2^(7*i)*(c.toNat%128)),by simp only;omega,by simp only;omega,(by
        simp only;have e1:2^(7*(i+1))=2^(7*i)*128:=by rw[Nat.mul_add,Nat.pow_add]
        have:c.toNat%128<128:=Nat.mod_lt _ (by decide)
        have:2^(7*i)*(c.toNat%128+1)≤2^(7*i)*128:=Nat.mul_le_mul_left _ this;rw[Nat.mul_add,Nat.mul_one]at this
        omega),(by
        simp only;rw[hg];have hm:c.toNat%128=c.toNat-128:=by omega
        cases getN (i+1) (b.drop (i+1)) with
        |none=>rfl
        |some q =>
         simp only[Option.map_some,Option.some.injEq,Prod.mk.injEq,and_true]
         rw[hm,show 7*(i+1)=7*i+7 by omega,Nat.pow_add,Nat.mul_add,Nat.add_assoc,←Nat.mul_assoc])⟩ (by simp only;omega)
       have key:∀v:Int,v=((a+2^(7*i)*(c.toNat%128):Nat):Int)→J (mkE 43 [(5,.pl (.int .u64 v)),(8,.sl 1 (byv b)),(9,I b.length),(10,I ((i+1:Nat):Int))]) σ:=by
        rintro _ rfl;exact hgo
       refine go _ (fun x1 x2=>go2 _ (fun y1 y2=>?_) fun y1=>?_) fun x1=>go2 _ (fun y1 y2=>?_) fun y1=>?_
       · simp -implicitDefEqProofs only[mkE,go_sem,z02,z0F hlt,dec_lt hlt,hx,bc,hbeq9,hgt1,hgt0,hbeq0,x1,x2,y1,y2,h7,h128,e128,hin];exact key _ hor
       · simp -implicitDefEqProofs only[mkE,go_sem,z02,z0F hlt,dec_lt hlt,hx,bc,hbeq9,hgt1,hgt0,hbeq0,x1,x2,y1,h7,h128,e128,hin];exact key _ hor
       · simp -implicitDefEqProofs only[mkE,go_sem,z02,z0F hlt,dec_lt hlt,hx,bc,hbeq9,hgt1,hgt0,hbeq0,x1,y1,y2,h7,h128,e128,hin];exact key _ hor
       · simp -implicitDefEqProofs only[mkE,go_sem,z02,z0F hlt,dec_lt hlt,hx,bc,hbeq9,hgt1,hgt0,hbeq0,x1,y1,h7,h128,e128,hin];exact key _ hor
 · have hn:b.drop i=[]:=List.drop_eq_nil_of_le (by omega)
   rw[hn]at hg;simp only[getN,Option.map_none]at hg;rw[z0A hg];simp -implicitDefEqProofs only[mkE,go_sem,z02,zaS hlt,z88 hlt];exact Fini.ret rfl
end
def textV (most:Nat) (b:Byt):AV:=match textR most b with
 |some p=>.tup [Sx p.1,I (b.length-p.2.length:Nat),Bo true]
 |none=>.tup [Sx ⟨#[]⟩,I 0,Bo false]
theorem z0C {most:Nat} {b:Byt} (h:textR most b=none):textV most b=.tup [Sx ⟨#[]⟩,I 0,Bo false]:=by unfold textV;rw[h]
theorem z1e {most:Nat} {b:Byt} {s:ByteArray} {t:Byt} (h:textR most b=some (s,t)):textV most b=.tup [Sx s,I (b.length-t.length:Nat),Bo true]:=by unfold textV;rw[h]
theorem z64 {most:Nat} {b:Byt} (h:getN 0 b=none):textR most b=none:=by simp only[textR,numR,h,Option.bind_none]
theorem z8V {most:Nat} {b:Byt} {n:Nat} {t:Byt} (h:getN 0 b=some (n,t)):textR most b=if n≤most∧n≤t.length then some (⟨(t.take n).toArray⟩,t.drop n) else none:=by
 simp only[textR,numR,h,Option.bind_some];by_cases h1:n≤most
 · simp only[h1,if_true,Option.bind_some,true_and]
 · simp only[h1,if_false,Option.bind_none,false_and]
theorem decNN (a b:Nat):decide ((a:Int)<(b:Int))=decide (a<b):=by rw[Bool.eq_iff_iff];simp
theorem subN {a b:Nat} (h:b≤a) (ha:a≤100000):IntKind.i64.wrap ((a:Int)-(b:Int))=((a-b:Nat):Int):=by rw[wrapN (by omega) (by omega)];omega
theorem addN {a b:Nat} (h:a+b≤100000):IntKind.i64.wrap ((a:Int)+(b:Int))=((a+b:Nat):Int):=by rw[wrapN (by omega) (by omega)];omega
theorem wrapI {a:Nat} (h:a<9223372036854775808):IntKind.i64.wrap (a:Int)=(a:Int):=wrapN (by omega) (by omega)
section
variable (σ:St)
theorem z8a (b:Byt) (most:Nat) (hb:b.length≤100000) (hm:most<9223372036854775808):Ans Tryz.prog 99 [.sl 1 (byv b),I most] σ (textV most b) σ:=by
 refine Ans.of_run t99 ?_;simp -implicitDefEqProofs only[c99,r99,go_sem];refine CO.intro (z8U σ b hb) ?_;have hneg:decide ((most:Int)<0)=false:=by simp
 have hwm:=z1u (n:=most) (by omega)
 cases hg:getN 0 b with
 |none =>
  rw[z0A hg,z0C (z64 hg)];simp -implicitDefEqProofs only[go_sem];exact Fini.ret rfl
 |some p =>
  obtain⟨n,t⟩:=p;obtain⟨hbt,hn,_⟩:=z4J b 0 n t (by omega) hg
  have hn:n<18446744073709551616:=hn;have hlen:b.length=(putN n).length+t.length:=by rw[hbt,List.length_append]
  have hk:b.length-t.length=(putN n).length:=by omega
  have hsub:=subN (a:=b.length) (b:=(putN n).length) (by omega) hb
  have hsub2:b.length-(putN n).length=t.length:=by omega
  have hwt:=z1u (n:=t.length) (by omega)
  have e1:decide ((most:Int)<n)=decide (most<n):=decNN most n;have e2:decide ((t.length:Int)<n)=decide (t.length<n):=decNN _ n;rw[z0G hg,hk];have hR:=z8V (most:=most) hg;by_cases h1:n≤most
  · have x1:decide (most<n)=false:=decide_eq_false (by omega)
    by_cases h2:n≤t.length
    · have x2:decide (t.length<n)=false:=decide_eq_false (by omega)
      rw[if_pos ⟨h1,h2⟩]at hR;have hwn:=wrapI (a:=n) (by omega)
      have hadd:=addN (a:=(putN n).length) (b:=n) (by omega)
      have hlo:((putN n).length:Int)≤((putN n).length+n:Nat):=by omega
      have hhi:(((putN n).length+n:Nat):Int)≤(b.length:Nat):=by omega
      have hcut:(b.take ((putN n).length+n)).drop (putN n).length=t.take n:=by
       rw[hbt,List.take_append,List.take_of_length_le (by omega),Nat.add_sub_cancel_left,List.drop_left]
      rw[z1e hR];simp -implicitDefEqProofs only[go_sem,hneg,hwm,e1,x1,hsub,hsub2,hwt,e2,x2,hwn,hadd,z02,hlo,hhi,AV.isStr,z0q,z0r,hcut,z1N,bc,z1W,z1R];refine Fini.ret' rfl ?_;rw[List.length_drop];have:b.length-(t.length-n)=(putN n).length+n:=by omega
      rw[this];rfl
    · have x2:decide (t.length<n)=true:=decide_eq_true (by omega)
      rw[if_neg (by omega)]at hR
      rw[z0C hR];simp -implicitDefEqProofs only[go_sem,hneg,hwm,e1,x1,z02,hsub,hsub2,hwt,e2,x2];exact Fini.ret rfl
  · have x1:decide (most<n)=true:=decide_eq_true (by omega)
    rw[if_neg (by omega)]at hR
    rw[z0C hR];simp -implicitDefEqProofs only[go_sem,hneg,hwm,e1,x1];exact Fini.ret rfl
end
abbrev rob (b:Byt) (q:Nat×Bool):Ob:=.box [.sl 1 (byv b),I q.1,Bo q.2]
theorem z5c {σ:St} {p:Nat} {o:Ob} (h:σ[p]?=some o) (x:Ob):(σ.set p x)[p]?=some x:=by
 have:=(List.getElem?_eq_some_iff.1 h).1;simp[this]
section
variable (σ:St) (p:Nat) (b:Byt) (q:Nat×Bool)
theorem new_ans:Ans Tryz.prog 59 [.sl 1 (byv b)] σ (.ptr σ.length 0) (σ++[rob b (0,false)]):=by
 refine Ans.of_run t59 ?_;simp -implicitDefEqProofs only[c59,r59,go_sem];exact Fini.ret rfl
theorem z17 (h:σ[p]?=some (rob b q)) (hq:q.1≤b.length):Ans Tryz.prog 96 [.ptr p 0] σ (.sl 1 (byv (b.drop q.1))) σ:=by
 have h1:(q.1:Int)≤(b.length:Nat):=by omega
 refine Ans.of_run t96 ?_;simp -implicitDefEqProofs only[c96,r96,go_sem,h,z02,h1,z0q,z0r,List.take_length,Int.le_refl];exact Fini.ret rfl
theorem z18 (n:Nat) (ok:Bool) (h:σ[p]?=some (rob b q)) (hn:q.1+n≤100000):Ans Tryz.prog 97 [.ptr p 0,I n,Bo ok] σ (Bo !(took q n ok).2) (σ.set p (rob b (took q n ok))):=by
 obtain⟨a,bad⟩:=q;have h9:∀x,(σ.set p x)[p]?=some x:=z5c h;have hadd:=addN (a:=a) (b:=n) hn;unfold took;refine Ans.of_run t97 ?_
 cases bad with
 |true =>
  simp -implicitDefEqProofs only[c97,r97,go_sem,h,h9];exact Fini.ret rfl
 |false =>
  cases ok with
  |true =>
   simp -implicitDefEqProofs only[c97,r97,go_sem,h,h9,hadd,List.set_set];exact Fini.ret rfl
  |false =>
   simp -implicitDefEqProofs only[c97,r97,go_sem,h,h9];exact Fini.ret rfl
end
section
variable (σ:St) (p:Nat) (b:Byt) (q:Nat×Bool)
theorem z22 (most:Nat) (hm:most<18446744073709551616) (h:σ[p]?=some (rob b q)) (hq:Inb b q) (hb:b.length≤50000) :
  Ans Tryz.prog 60 [.ptr p 0,UN most] σ (UN (runR (numR most) 0 b q).1) (σ.set p (rob b (runR (numR most) 0 b q).2)):=by
 refine Ans.of_run t60 ?_;simp -implicitDefEqProofs only[c60,r60,go_sem];refine CO.intro (z17 σ p b q h hq) ?_;simp -implicitDefEqProofs only[go_sem];refine CO.intro (z8U σ (b.drop q.1) (by rw[List.length_drop];omega)) ?_
 obtain⟨a,bad⟩:=q;simp only at hq h⊢;have hq:a≤b.length:=hq
 cases hg:getN 0 (b.drop a) with
 |none =>
  have hR:numR most (b.drop a)=none:=by simp only[numR,hg,Option.bind_none]
  have ht:=z18 σ p b (a,bad) 0 false h (by simp only;omega)
  have ht:Ans Tryz.prog 97 [.ptr p 0,I 0,Bo false] σ (Bo false) (σ.set p (rob b (a,true))):=by
   have e:took (a,bad) 0 false=(a,true):=by cases bad<;>rfl
   rw[e]at ht;exact ht
  rw[z0A hg];simp -implicitDefEqProofs only[go_sem];refine CO.intro ht ?_;simp -implicitDefEqProofs only[go_sem]
  cases bad with
  |true=>rw[z0K];exact Fini.ret rfl
  |false=>rw[z0V hR];exact Fini.ret rfl
 |some x =>
  obtain⟨n,t⟩:=x;rw[z0G hg];have hl:=z8K hg;rw[List.length_drop]at hl;have e1:decide ((n:Int)≤most)=decide (n≤most):=intle n most;have ht:=z18 σ p b (a,bad) ((b.drop a).length-t.length) (decide (n≤most)) h (by simp only[List.length_drop];omega)
  by_cases h1:n≤most
  · have x1:decide (n≤most)=true:=decide_eq_true h1;rw[x1]at ht;have hR:numR most (b.drop a)=some (n,t):=by simp only[numR,hg,Option.bind_some,h1,if_true]
    simp -implicitDefEqProofs only[go_sem,e1,x1];refine CO.intro ht ?_
    cases bad with
    |true =>
     have e:took (a,true) ((b.drop a).length-t.length) true=(a,true):=rfl;rw[e,z0K];simp -implicitDefEqProofs only[go_sem];exact Fini.ret rfl
    |false =>
     have e:took (a,false) ((b.drop a).length-t.length) true=(b.length-t.length,false):=by
      simp only[took,Bool.false_or,Bool.not_true,Bool.false_eq_true,if_false,List.length_drop];congr 1;omega
     rw[e,z0H hR];simp -implicitDefEqProofs only[go_sem];exact Fini.ret rfl
  · have x1:decide (n≤most)=false:=decide_eq_false h1;rw[x1]at ht;have hR:numR most (b.drop a)=none:=by simp only[numR,hg,Option.bind_some,h1,if_false]
    have e:took (a,bad) ((b.drop a).length-t.length) false=(a,true):=by cases bad<;>rfl
    rw[e]at ht;simp -implicitDefEqProofs only[go_sem,e1,x1];refine CO.intro ht ?_;simp -implicitDefEqProofs only[go_sem]
    cases bad with
    |true=>rw[z0K];exact Fini.ret rfl
    |false=>rw[z0V hR];exact Fini.ret rfl
theorem z2F (most:Nat) (hm:most<9223372036854775808) (h:σ[p]?=some (rob b q)) (hq:Inb b q) (hb:b.length≤50000) :
  Ans Tryz.prog 62 [.ptr p 0,I most] σ (Sx (runR (textR most) ⟨#[]⟩ b q).1) (σ.set p (rob b (runR (textR most) ⟨#[]⟩ b q).2)):=by
 refine Ans.of_run t62 ?_;simp -implicitDefEqProofs only[c62,r62,go_sem];refine CO.intro (z17 σ p b q h hq) ?_;simp -implicitDefEqProofs only[go_sem];refine CO.intro (z8a σ (b.drop q.1) most (by rw[List.length_drop];omega) hm) ?_
 obtain⟨a,bad⟩:=q;simp only at hq h⊢;have hq:a≤b.length:=hq
 cases hg:textR most (b.drop a) with
 |none =>
  have ht:=z18 σ p b (a,bad) 0 false h (by simp only;omega)
  have ht:Ans Tryz.prog 97 [.ptr p 0,I 0,Bo false] σ (Bo false) (σ.set p (rob b (a,true))):=by
   have e:took (a,bad) 0 false=(a,true):=by cases bad<;>rfl
   rw[e]at ht;exact ht
  rw[z0C hg];simp -implicitDefEqProofs only[go_sem];refine CO.intro ht ?_;simp -implicitDefEqProofs only[go_sem]
  cases bad with
  |true=>rw[z0K];exact Fini.ret rfl
  |false=>rw[z0V hg];exact Fini.ret rfl
 |some x =>
  obtain⟨n,t⟩:=x;rw[z1e hg];have hl:=((z0T (most:=most) (by omega)).rest hg).1
  rw[List.length_drop]at hl;have ht:=z18 σ p b (a,bad) ((b.drop a).length-t.length) true h (by simp only[List.length_drop];omega)
  simp -implicitDefEqProofs only[go_sem];refine CO.intro ht ?_
  cases bad with
  |true =>
   have e:took (a,true) ((b.drop a).length-t.length) true=(a,true):=rfl;rw[e,z0K];simp -implicitDefEqProofs only[go_sem];exact Fini.ret rfl
  |false =>
   have e:took (a,false) ((b.drop a).length-t.length) true=(b.length-t.length,false):=by
    simp only[took,Bool.false_or,Bool.not_true,Bool.false_eq_true,if_false,List.length_drop];congr 1;omega
   rw[e,z0H hg];simp -implicitDefEqProofs only[go_sem];exact Fini.ret rfl
theorem z1f (h:σ[p]?=some (rob b q)) (hq:Inb b q) (hb:b.length≤50000) :
  Ans Tryz.prog 98 [.ptr p 0] σ (bc (runR byteR 0 b q).1) (σ.set p (rob b (runR byteR 0 b q).2)):=by
 refine Ans.of_run t98 ?_;simp -implicitDefEqProofs only[c98,r98,go_sem];refine CO.intro (z17 σ p b q h hq) ?_;obtain⟨a,bad⟩:=q;simp only at hq h⊢;have hq:a≤b.length:=hq
 cases hg:b.drop a with
 |nil =>
  have hR:byteR (b.drop a)=none:=by rw[hg];rfl
  have d0:decide ((0:Int)<((0:Nat):Int))=false:=by simp
  have ht:=z18 σ p b (a,bad) 1 false h (by simp only;omega)
  have e:took (a,bad) 1 false=(a,true):=by cases bad<;>rfl
  rw[e]at ht;simp -implicitDefEqProofs only[go_sem,zeB,d0];refine CO.intro ht ?_;simp -implicitDefEqProofs only[go_sem]
  cases bad with
  |true=>rw[z0K];exact Fini.ret rfl
  |false=>rw[z0V hR];exact Fini.ret rfl
 |cons c t =>
  have hR:byteR (b.drop a)=some (c,t):=by rw[hg];rfl
  have hl:b.length-a=t.length+1:=by rw[←List.length_drop,hg];rfl
  have d0:decide ((0:Int)<(((byv t).length+1:Nat):Int))=true:=by simp
  have ht:=z18 σ p b (a,bad) 1 true h (by simp only;omega)
  simp -implicitDefEqProofs only[go_sem,z6A,d0];refine CO.intro ht ?_
  cases bad with
  |true =>
   have e:took (a,true) 1 true=(a,true):=rfl;rw[e,z0K];simp -implicitDefEqProofs only[go_sem];exact Fini.ret rfl
  |false =>
   have e:took (a,false) 1 true=(b.length-t.length,false):=by
    simp only[took,Bool.false_or,Bool.not_true,Bool.false_eq_true,if_false];congr 1;omega
   rw[e,z0H hR];simp -implicitDefEqProofs only[go_sem,bc,Int.toNat_zero];exact Fini.ret rfl
theorem z0b (ok:Bool) (h:σ[p]?=some (rob b q)) (hq:Inb b q) (hb:b.length≤50000) :
  Ans Tryz.prog 120 [.ptr p 0,Bo ok] σ (.tup []) (σ.set p (rob b (took q 0 ok))):=by
 have hq:q.1≤b.length:=hq;refine Ans.of_run t120 ?_;simp -implicitDefEqProofs only[c120,r120,go_sem];refine CO.intro (z18 σ p b q 0 ok h (by omega)) ?_
 simp -implicitDefEqProofs only[go_sem];exact Fini.normal rfl
theorem z2s (h:σ[p]?=some (rob b q)):Ans Tryz.prog 63 [.ptr p 0] σ (.tup [I (if q.2 then 0 else q.1:Nat),Bo !q.2]) σ:=by
 obtain⟨a,bad⟩:=q;refine Ans.of_run t63 ?_
 cases bad with
 |true =>
  simp -implicitDefEqProofs only[c63,r63,go_sem,h];exact Fini.ret rfl
 |false =>
  simp -implicitDefEqProofs only[c63,r63,go_sem,h];exact Fini.ret rfl
end
end Go.Proofs.YteakobbdgehlgaaGreatDoor
namespace Go.Proofs.YteakobbdgehlgaaGreatDoor
open Go Go.Ab
set_option maxRecDepth 100000
abbrev U (n:Int):AV:=.pl (.int .u64 n)
inductive Rex where
 |mk (op a b c d:Int) (ks:List Rex)
namespace Rex
def op:Rex→Int|.mk op _ _ _ _ _=>op
def a:Rex→Int|.mk _ a _ _ _ _=>a
def b:Rex→Int|.mk _ _ b _ _ _=>b
def c:Rex→Int|.mk _ _ _ c _ _=>c
def d:Rex→Int|.mk _ _ _ _ d _=>d
def ks:Rex→List Rex|.mk _ _ _ _ _ ks=>ks
mutual
def av:Rex→AV
 |.mk op a b c d ks=>.agg [I op,U a,U b,U c,U d,.sl 6 (avL ks)]
def avL:List Rex→List AV
 |[]=>[]
 |x::xs=>av x::avL xs
end
theorem zdU:∀l:List Rex,avL l=l.map av
 |[]=>rfl
 |x::xs=>by rw[avL,zdU xs];rfl
theorem av_eq (x:Rex):x.av=.agg [I x.op,U x.a,U x.b,U x.c,U x.d,.sl 6 (x.ks.map av)]:=by
 cases x;simp only[av,op,a,b,c,d,ks,zdU]
theorem zaX {x y:Rex} (h:y∈x.ks):SizeOf.sizeOf y<SizeOf.sizeOf x:=by
 cases x;have:=List.sizeOf_lt_of_mem h;simp only[ks]at this;simp;omega
mutual
def cut:Rex→Int→Int
 |.mk _ _ _ _ _ ks,most=>cutL ks most 1
def cutL:List Rex→Int→Int→Int
 |[],_,n=>n
 |x::xs,most,n=>if n≤most then cutL xs most (n+cut x (most-n)) else n
end
def run (ks:List Rex) (most:Int):Nat→Int
 |0=>1
 |i+1=>match ks[i]? with
  |some x=>run ks most i+x.cut (most-run ks most i)
  |none=>run ks most i
end Rex
open Rex
section
variable (σ:St)
end
end Go.Proofs.YteakobbdgehlgaaGreatDoor
namespace Go.Proofs.YteakobbdgehlgaaGreatDoor
open Go Go.Ab
set_option maxRecDepth 100000
namespace Rex
mutual
def size:Rex→Int
 |.mk op _ _ _ _ ks=>if op==1 then 1 else if op==3 then sizeL ks+2*((ks.length:Int)-1) else if op==4 then sizeL ks+2 else if op==5 then sizeL ks+1 else if op==6 then sizeL ks+1 else sizeL ks
def sizeL:List Rex→Int
 |[]=>0
 |x::xs=>size x+sizeL xs
end
def plain (x:Rex):Bool:=x.a==0&&(x.b==0&&(x.c==0&&(x.d==0&&true)))
end Rex
open Rex
section
variable (σ:St)
end
end Go.Proofs.YteakobbdgehlgaaGreatDoor
namespace Go.Proofs.YteakobbdgehlgaaGreatDoor
open Go Go.Ab
set_option maxRecDepth 100000
structure Stp where
 op:Int
 a:Int
 b:Int
 c:Int
 d:Int
 x:Int
 y:Int
def Stp.av (s:Stp):AV:=.agg [I s.op,U s.a,U s.b,U s.c,U s.d,I s.x,I s.y]
def inR (n at_:Int):Bool:=decide (0≤at_)&&decide (at_<n)
def Stp.none (s:Stp):Bool:=s.a==0&&(s.b==0&&(s.c==0&&(s.d==0&&true)))
def zdV (s:Stp) (n:Int) (last:Bool):Bool :=
 if(s.op != 1)&& !s.none then false
 else if s.op==1 then(s.x==0&&s.y==0)&& !last
 else if s.op==2 then inR n s.x&&inR n s.y
 else if s.op==3 then inR n s.x&&s.y==0
 else(s.op==4&&s.x==0)&&s.y==0
section
variable (σ:St)
def zfA (ys:List Stp):Bool :=
 if decide ((ys.length:Int)<1) then false else if decide ((40:Int)<ys.length) then false
 else !((ys.take (ys.length-1)).any fun s=>!zdV s ys.length false)&&(match ys[ys.length-1]? with|some s=>zdV s ys.length true|none=>false)
end
abbrev W (b:BitVec 64):AV:=U (b.toNat:Int)
end Go.Proofs.YteakobbdgehlgaaGreatDoor
namespace Go.Proofs.YteakobbdgehlgaaGreatDoor
open Go Go.Ab
set_option maxRecDepth 100000
namespace Rex
mutual
def lay:Nat→Rex→List Stp
 |n,.mk op a b c d ks =>
  if op==1 then[⟨1,a,b,c,d,0,0⟩]
  else if op==2 then layL n ks
  else if op==3 then layW n ((n+(layW n 0 ks).length:Nat):Int) ks
  else if op==4 then⟨2,0,0,0,0,(n:Int)+1,((n+2+(layH (n+1) ks).length:Nat):Int)⟩::(layH (n+1) ks++[⟨3,0,0,0,0,(n:Int),0⟩])
  else if op==5 then layH n ks++[⟨2,0,0,0,0,(n:Int),((n+(layH n ks).length:Nat):Int)+1⟩]
  else if op==6 then⟨2,0,0,0,0,(n:Int)+1,((n+1+(layH (n+1) ks).length:Nat):Int)⟩::layH (n+1) ks
  else[]
def layL:Nat→List Rex→List Stp
 |_,[]=>[]
 |n,x::xs=>lay n x++layL (n+(lay n x).length) xs
def layH:Nat→List Rex→List Stp
 |_,[]=>[]
 |n,x::_=>lay n x
def layW:Nat→Int→List Rex→List Stp
 |_,_,[]=>[]
 |n,fin,x::xs=>if xs.isEmpty then lay n x else
  ⟨2,0,0,0,0,(n:Int)+1,((n+2+(lay (n+1) x).length:Nat):Int)⟩::(lay (n+1) x++(⟨3,0,0,0,0,fin,0⟩::layW (n+2+(lay (n+1) x).length) fin xs))
end
end Rex
end Go.Proofs.YteakobbdgehlgaaGreatDoor
namespace Go.Proofs.YteakobbdgehlgaaGreatDoor
open Go Go.Ab
set_option maxRecDepth 100000
open Rex
def rowV (k:Nat) (L:List AV):AV:=if L.isEmpty then .nils else .osl k L.length
def rowS (sz:Nat) (A:St) (L:List AV) (E:St):St:=if L.isEmpty then A++E else A++.row sz L::E
theorem zaY {k:Nat} {L:List AV} (h:L≠[]):rowV k L=.osl k L.length:=by simp[rowV,h]
theorem zaZ {sz:Nat} {A E:St} {L:List AV} (h:L≠[]):rowS sz A L E=A++.row sz L::E:=by simp[rowS,h]
abbrev sv (l:List Stp):List AV:=l.map Stp.av
theorem sv_ne {l:List Stp} (h:l≠[]):sv l≠[]:=by simpa[sv] using h
def Lays (x:Rex):Prop:=∀(ls:List Stp) (A E:St),(ls=[]→E=[])→(ls.length:Int)+x.size≤1000 →
 Ans Tryz.prog 1095 [rowV A.length (sv ls),x.av] (rowS 7 A (sv ls) E) (rowV A.length (sv (ls++lay ls.length x))) (rowS 7 A (sv (ls++lay ls.length x)) E)
theorem Lays.own {x:Rex} (h:Lays x) (ls:List Stp) (A E:St) (hne:ls≠[]) (hb:(ls.length:Int)+x.size≤1000) :
  Ans Tryz.prog 1095 [.osl A.length ls.length,x.av] (A++.row 7 (sv ls)::E) (.osl A.length (ls.length+(lay ls.length x).length)) (A++.row 7 (sv (ls++lay ls.length x))::E):=by
 have:=h ls A E (fun e=>absurd e hne) hb
 rw[zaY (sv_ne hne),zaZ (sv_ne hne),zaY (sv_ne (by simp[hne])),zaZ (sv_ne (by simp[hne]))]at this
 simpa[sv] using this
theorem p32:(1≤2^32)=True:=by simp
theorem w1:IntKind.i64.wrap 1=1:=by decide
end Go.Proofs.YteakobbdgehlgaaGreatDoor
namespace Go.Proofs.YteakobbdgehlgaaGreatDoor
open Go Go.Ab
theorem zb0 (f : FuncId) (fn : Func) (hf : Tryz.prog.funcs[f]? = some fn) (hname : (fn.name == "runtime.NumGoroutine") = false) (hb : fn.body.isNone = true) (hn : Extern.findNext fn = none)
  (e:Array Value→Sem Value) (he:Extern.find fn=some e) (g:Value→Option Value) (hg:∀v r w,g v=some r→(e #[v]).run Tryz.prog w=.ok r w)
  (args:List AV) (σ:St) (r:AV) (σ':St) (h:(match args with|[.pl v]=>(g v).map fun r=>(AV.pl r,σ)|_=>none)=some (r,σ')):Ans Tryz.prog f args σ r σ':=by
 split at h
 · rename_i v;obtain⟨q,hq,h⟩:=z03 h;simp only[Prod.mk.injEq]at h;obtain⟨rfl,rfl⟩:=h;intro M ν w vs gd hvs;refine .inr ⟨q,w,?_,M,ν,gd,.refl,.pl _⟩;obtain⟨hl,hr⟩:=hvs
   match vs,hl with
   |[a],_ =>
    have h0:=hr 0 (by simp) (by simp)
    simp only[List.getElem_cons_zero]at h0;cases h0;rw[run_callFunc_extern hf hname hb hn he];rw[show([v].toArray)=#[v] from rfl,hg v q w hq]
    rfl
 · simp at h
def bitsG:Value→Option Value
 |.float .f64 b=>some (.int .u64 b)
 |_=>none
theorem zcA (v r:Value) (w:World) (h:bitsG v=some r):(Extern.MathFloatBits.float64bits #[v]).run Tryz.prog w=.ok r w:=by
 unfold bitsG at h;split at h<;>simp at h
 subst h;rfl
def ext_bits:Ext Tryz.prog:=⟨111,fun args σ=>match args with|[.pl v]=>(bitsG v).map fun r=>(AV.pl r,σ)|_=>none,
 zb0 111 Tryz.f111 (by kernel_rfl) (by kernel_rfl) (by kernel_rfl) (by kernel_rfl) Extern.MathFloatBits.float64bits (by kernel_rfl) bitsG zcA⟩
def z3V:Value→Option Value
 |.int .u64 n=>some (.float .f64 n.toNat)
 |_=>none
theorem z7i (v r:Value) (w:World) (h:z3V v=some r):(Extern.MathFloatBits.float64frombits #[v]).run Tryz.prog w=.ok r w:=by
 unfold z3V at h;split at h<;>simp at h
 subst h;rfl
def ext_frombits:Ext Tryz.prog:=⟨148,fun args σ=>match args with|[.pl v]=>(z3V v).map fun r=>(AV.pl r,σ)|_=>none,
 zb0 148 Tryz.f148 (by kernel_rfl) (by kernel_rfl) (by kernel_rfl) (by kernel_rfl) Extern.MathFloatBits.float64frombits (by kernel_rfl) z3V z7i⟩
theorem zfB (args:List AV) (σ:St) (r:AV) (σ':St) (h:(match args with
 |[.pl (.string a),.pl (.string b)]=>some (AV.pl (.int .i64 (Extern.BytealgCompare.cmp a b)),σ)
 |_=>none)=some (r,σ')):Ans Tryz.prog 179 args σ r σ':=by
 split at h
 · rename_i s c;simp only[Option.some.injEq,Prod.mk.injEq]at h;obtain⟨rfl,rfl⟩:=h;intro M ν w vs g hvs;refine .inr ⟨_,w,?_,M,ν,g,.refl,.pl _⟩;obtain⟨hl,hr⟩:=hvs
   match vs,hl with
   |[a,b],_ =>
    have h0:=hr 0 (by simp) (by simp)
    have h1:=hr 1 (by simp) (by simp)
    simp only[List.getElem_cons_zero,List.getElem_cons_succ]at h0 h1;cases h0;cases h1;rw[run_callFunc_extern (e:=Extern.BytealgCompare.compare) (P:=Tryz.prog) (f:=179) (fn:=Tryz.f179) (by kernel_rfl) (by kernel_rfl) (by kernel_rfl) (by kernel_rfl) (by kernel_rfl)]
    rfl
 · simp at h
theorem zfC (args:List AV) (σ:St) (r:AV) (σ':St) (h:(match args with
 |[.pl (.string s),.pl (.int .u8 c)]=>some (AV.pl (.int .i64 (firstIdx s c.toNat.toUInt8)),σ)
 |_=>none)=some (r,σ')):Ans Tryz.prog 199 args σ r σ':=by
 split at h
 · rename_i s c;simp only[Option.some.injEq,Prod.mk.injEq]at h;obtain⟨rfl,rfl⟩:=h;intro M ν w vs g hvs;refine .inr ⟨_,w,?_,M,ν,g,.refl,.pl _⟩;obtain⟨hl,hr⟩:=hvs
   match vs,hl with
   |[a,b],_ =>
    have h0:=hr 0 (by simp) (by simp)
    have h1:=hr 1 (by simp) (by simp)
    simp only[List.getElem_cons_zero,List.getElem_cons_succ]at h0 h1;cases h0;cases h1;rw[run_callFunc_extern (e:=Extern.BytealgIndexByte.indexByte) (P:=Tryz.prog) (f:=199) (fn:=Tryz.f199) (by kernel_rfl) (by kernel_rfl) (by kernel_rfl) (by kernel_rfl) (by kernel_rfl)]
    have:=run_indexByte_string (P:=Tryz.prog) s c w;rw[this];rfl
 · simp at h
end Go.Proofs.YteakobbdgehlgaaGreatDoor
