/- The words of a block's rounds, by the program. No condition. -/
import Derived.Test.YteakobbdgehlgaaGreatDoorKShA1E3
import Derived.Test.YteakobbdgehlgaaGreatDoorAbArgE3
set_option linter.unusedSimpArgs false
set_option linter.unusedVariables false
set_option linter.unusedSectionVars false
set_option maxRecDepth 100000
namespace Go.Proofs.YteakobbdgehlgaaGreatDoor.Sha
open Go Go.Ab
def sg0 (a:BitVec 32):BitVec 32:=ror a 7 ^^^ ror a 18 ^^^ a >>> 3
def sg1 (a:BitVec 32):BitVec 32:=ror a 17 ^^^ ror a 19 ^^^ a >>> 10
def word4 (a b c d:UInt8):BitVec 32:=b32 a <<< 24 ||| b32 b <<< 16 ||| b32 c <<< 8 ||| b32 d
abbrev gB (b:List UInt8) (i:Nat):UInt8:=b.getD i 0
abbrev gW (w:List (BitVec 32)) (i:Nat):BitVec 32:=w.getD i 0
def nextW (b:List UInt8) (w:List (BitVec 32)) (i:Nat):BitVec 32 :=
 if i<16 then word4 (gB b (4*i)) (gB b (4*i+1)) (gB b (4*i+2)) (gB b (4*i+3))
 else gW w (i-16)+sg0 (gW w (i-15))+gW w (i-7)+sg1 (gW w (i-2))
def z0B (b:List UInt8):Nat→List (BitVec 32)
 |0=>List.replicate 64 0
 |i+1=>(z0B b i).set i (nextW b (z0B b i) i)
theorem z20 (b:List UInt8):∀i,(z0B b i).length=64
 |0=>List.length_replicate
 |i+1=>by rw[z0B,List.length_set,z20 b i]
def wv (w:List (BitVec 32)):List AV:=w.map V32
def bv (b:List UInt8):List AV:=b.map fun c=>.pl (.int .u8 ((c.toNat:Nat):Int))
theorem z37 (w:List (BitVec 32)):(wv w).length=w.length:=List.length_map ..
theorem z1c (b:List UInt8):(bv b).length=b.length:=List.length_map ..
theorem zgs {b:List UInt8} {i:Nat} (h:i<b.length):(bv b)[i]?=some (.pl (.int .u8 (((gB b i).toNat:Nat):Int))):=by
 unfold bv gB;rw[List.getElem?_map,List.getElem?_eq_getElem h,List.getD_eq_getElem?_getD,List.getElem?_eq_getElem h];rfl
theorem z8h {w:List (BitVec 32)} {i:Nat} (h:i<w.length):(wv w)[i]?=some (V32 (gW w i)):=by
 unfold wv gW;rw[List.getElem?_map,List.getElem?_eq_getElem h,List.getD_eq_getElem?_getD,List.getElem?_eq_getElem h];rfl
theorem zgt (w:List (BitVec 32)) (i:Nat) (x:BitVec 32):(wv w).set i (V32 x)=wv (w.set i x):=by unfold wv;rw[List.map_set]
section
variable (σ:St)
theorem bv_all (b:List UInt8):(bv b).all AV.one=true:=by
 unfold bv;rw[List.all_eq_true];intro x hx;obtain⟨c,_,rfl⟩:=List.mem_map.1 hx;rfl
theorem zcB (w:List (BitVec 32)):(wv w).all AV.one=true:=by
 unfold wv;rw[List.all_eq_true];intro x hx;obtain⟨c,_,rfl⟩:=List.mem_map.1 hx;rfl
theorem zcC {w:List (BitVec 32)} {n:Nat} (h:w.length=n):List.take n (wv w)=wv w:=List.take_of_length_le (by rw[z37];omega)
theorem zeU {w:List (BitVec 32)} {n:Nat} (h:w.length=n):List.drop n (wv w)=[]:=List.drop_of_length_le (by rw[z37];omega)
theorem zgu (n:Nat) (w:List (BitVec 32)):Bel n (.agg (wv w)):=.agg _ fun i hi=>by
 have e:(wv w)[i]'hi=V32 (w[i]'(by rw[z37]at hi;exact hi)):=by simp[wv]
 rw[e];exact .pl _
theorem zhk {b:List UInt8} {i:Nat} (h:i<b.length):(List.drop (i*1) (bv b)).head?=some (.pl (.int .u8 (((gB b i).toNat:Nat):Int))):=by
 rw[Nat.mul_one,List.head?_drop,zgs h]
theorem z1V {n:Nat} (h:n<1000):IntKind.i64.wrap (n:Int)=(n:Int):=by
 simp only[IntKind.wrap,IntKind.bits,IntKind.signed];simp;omega
theorem zcD {w:List (BitVec 32)} {i:Nat} (h:i<w.length) (x:BitVec 32):List.take i (wv w)++[V32 x]++List.drop (i+1) (wv w)=wv (w.set i x):=by
 rw[←zgt,List.set_eq_take_append_cons_drop,if_pos (by rw[z37];exact h)]
 simp
theorem G0 (x:Ob) (ex:St):(σ++x::ex)[σ.length]?=some x:=by rw[List.getElem?_append_right (by simp)];simp
theorem S0 (x y:Ob) (ex:St):(σ++x::ex).set σ.length y=σ++y::ex:=by rw[List.set_append_right _ _ (by simp)];simp
theorem G1 (x y:Ob) (ex:St):(σ++x::y::ex)[σ.length+1]?=some y:=by rw[List.getElem?_append_right (by simp)];simp
theorem S1 (x y z:Ob) (ex:St):(σ++x::y::ex).set (σ.length+1) z=σ++x::z::ex:=by rw[List.set_append_right _ _ (by simp)];simp
theorem zbu (b:List UInt8) (hb:b.length=64):Ans Tryz.prog 92 [.agg (bv b)] σ (.agg (wv (z0B b 64))) σ:=by
 have hl:=z1c b;have ha:=bv_all b;have hz:([.pl (.int .u32 0),.pl (.int .u32 0),.pl (.int .u32 0),.pl (.int .u32 0),.pl (.int .u32 0),.pl (.int .u32 0),.pl (.int .u32 0),.pl (.int .u32 0),.pl (.int .u32 0),.pl (.int .u32 0),.pl (.int .u32 0),.pl (.int .u32 0),.pl (.int .u32 0),.pl (.int .u32 0),.pl (.int .u32 0),.pl (.int .u32 0),.pl (.int .u32 0),.pl (.int .u32 0),.pl (.int .u32 0),.pl (.int .u32 0),.pl (.int .u32 0),.pl (.int .u32 0),.pl (.int .u32 0),.pl (.int .u32 0),.pl (.int .u32 0),.pl (.int .u32 0),.pl (.int .u32 0),.pl (.int .u32 0),.pl (.int .u32 0),.pl (.int .u32 0),.pl (.int .u32 0),.pl (.int .u32 0),.pl (.int .u32 0),.pl (.int .u32 0),.pl (.int .u32 0),.pl (.int .u32 0),.pl (.int .u32 0),.pl (.int .u32 0),.pl (.int .u32 0),.pl (.int .u32 0),.pl (.int .u32 0),.pl (.int .u32 0),.pl (.int .u32 0),.pl (.int .u32 0),.pl (.int .u32 0),.pl (.int .u32 0),.pl (.int .u32 0),.pl (.int .u32 0),.pl (.int .u32 0),.pl (.int .u32 0),.pl (.int .u32 0),.pl (.int .u32 0),.pl (.int .u32 0),.pl (.int .u32 0),.pl (.int .u32 0),.pl (.int .u32 0),.pl (.int .u32 0),.pl (.int .u32 0),.pl (.int .u32 0),.pl (.int .u32 0),.pl (.int .u32 0),.pl (.int .u32 0),.pl (.int .u32 0),.pl (.int .u32 0)]:List AV)=wv (z0B b 0):=rfl;refine Ans.of_run' t92 (fun u0 _=>?_)
 simp -implicitDefEqProofs only[c92,r92,go_sem,hl,hb,ha,List.append_assoc,List.cons_append,List.nil_append,List.length_append,List.length_cons,List.length_nil];rw[hz];clear hz;refine Go.Ab.L.count 16 (fun i=>mkE 89 [(1,.rp (bv b)),(2,.ptr σ.length 0),(3,.ptr (σ.length+1) 0),(10,I i)]) (fun i=>σ++[.box (wv (z0B b 0)),.box (wv (z0B b i))]) ?_ ?_ rfl rfl
 · intro i hi J hJ;have e1:IntKind.i64.wrap (4*(i:Int))=((4*i:Nat):Int):=by rw[←z1V (n:=4*i) (by omega)];congr 1
   have e2:∀k:Nat,k<4→IntKind.i64.wrap (((4*i:Nat):Int)+(k:Int))=((4*i+k:Nat):Int):=fun k hk=>by rw[←z1V (n:=4*i+k) (by omega)];congr 1
   have f1:=e2 1 (by decide)
   have f2:=e2 2 (by decide)
   have f3:=e2 3 (by decide)
   have hd:decide ((i:Int)<16)=true:=decide_eq_true (by omega)
   have l0:(((4*i:Nat):Int)<((64:Nat):Int))=True:=eq_true (by omega)
   have l1:(((4*i+1:Nat):Int)<((64:Nat):Int))=True:=eq_true (by omega)
   have l2:(((4*i+2:Nat):Int)<((64:Nat):Int))=True:=eq_true (by omega)
   have l3:(((4*i+3:Nat):Int)<((64:Nat):Int))=True:=eq_true (by omega)
   have p0:∀n:Nat,((0:Int)≤(n:Int))=True:=fun n=>eq_true (Int.natCast_nonneg _)
   have hh:∀k,k<64→(List.drop k (bv b)).head?=some (.pl (.int .u8 (((gB b k).toNat:Nat):Int))):=fun k hk=>by have:=zhk (b:=b) (i:=k) (by omega);rwa [Nat.mul_one]at this
   have h0:=hh (4*i) (by omega)
   have h1:=hh (4*i+1) (by omega)
   have h2:=hh (4*i+2) (by omega)
   have h3:=hh (4*i+3) (by omega)
   have k1:((1:Nat):Int)=1:=rfl;have k2:((2:Nat):Int)=2:=rfl;have k3:((3:Nat):Int)=3:=rfl;rw[k1]at f1;rw[k2]at f2;rw[k3]at f3;have l4:((i:Int)<((64:Nat):Int))=True:=eq_true (by omega)
   have w1:=z20 b i;have hs:=zgt (z0B b i) i (nextW b (z0B b i) i);have hn:nextW b (z0B b i) i=word4 (gB b (4*i)) (gB b (4*i+1)) (gB b (4*i+2)) (gB b (4*i+3)):=by unfold nextW;rw[if_pos hi]
   have v1:=V_shl (b32 (gB b (4*i))) 24 (by decide)
   have v2:=V_shl (b32 (gB b (4*i+1))) 16 (by decide)
   have v3:=V_shl (b32 (gB b (4*i+2))) 8 (by decide)
   have l5:(i≤63)=True:=eq_true (by omega)
   have hp:=fun x=>zcD (w:=z0B b i) (i:=i) (by omega) x
   have n0:Int.toNat 24=24:=rfl;have t16:Int.toNat 16=16:=rfl;have t8:Int.toNat 8=8:=rfl;have wi:IntKind.i64.wrap ((i:Int)+1)=((i+1:Nat):Int):=by rw[←z1V (n:=i+1) (by omega)];congr 1
   simp -implicitDefEqProofs only[mkE,go_sem,n0,t16,t8,wi,e1,l5,hp,l4,w1,z37,G1,S1,v1,v2,v3,Nat.mul_one,h0,h1,h2,h3,f1,f2,f3,hd,l0,l1,l2,l3,p0,Int.toNat_natCast,zeQ,V_or];unfold word4 at hn;have hw:z0B b (i+1)=(z0B b i).set i (nextW b (z0B b i) i):=rfl;rw[hw,hn]at hJ;exact hJ
 · intro J;have hd:decide (((16:Nat):Int)<16)=false:=rfl;simp -implicitDefEqProofs only[mkE,go_sem,hd];refine Go.Ab.L.count 48 (fun k=>mkE 89 [(2,.ptr σ.length 0),(3,.ptr (σ.length+1) 0),(5,I ((16+k:Nat):Int))]) (fun k=>σ++[.box (wv (z0B b 0)),.box (wv (z0B b (16+k)))]) ?_ ?_ rfl rfl
   · intro k hk J hJ;have hd:decide ((((16+k:Nat)):Int)<64)=true:=decide_eq_true (by omega)
     generalize hi:16+k=i at hd hJ⊢;have e:∀m:Nat,m≤i→IntKind.i64.wrap ((i:Int)-(m:Int))=((i-m:Nat):Int):=fun m hm=>by rw[←z1V (n:=i-m) (by omega)];congr 1;omega
     have f1:=e 15 (by omega)
     have f2:=e 2 (by omega)
     have f3:=e 16 (by omega)
     have f4:=e 7 (by omega)
     have k1:((15:Nat):Int)=15:=rfl;have k2:((2:Nat):Int)=2:=rfl;have k3:((16:Nat):Int)=16:=rfl;have k4:((7:Nat):Int)=7:=rfl;rw[k1]at f1;rw[k2]at f2;rw[k3]at f3;rw[k4]at f4;have l:∀m:Nat,(((i-m:Nat):Int)<((64:Nat):Int))=True:=fun m=>eq_true (by omega)
     have p0:∀n:Nat,((0:Int)≤(n:Int))=True:=fun n=>eq_true (Int.natCast_nonneg _)
     have w1:=z20 b i;have hh:∀m:Nat,(List.drop (i-m) (wv (z0B b i))).head?=some (V32 (gW (z0B b i) (i-m))):=fun m=>by rw[List.head?_drop,z8h (by omega)]
     have li:(i-15≤63)=True:=eq_true (by omega)
     have li:(i≤63)=True:=eq_true (by omega)
     have l0:((i:Int)<((64:Nat):Int))=True:=eq_true (by omega)
     have hp:=fun x=>zcD (w:=z0B b i) (i:=i) (by omega) x
     have hn:nextW b (z0B b i) i=gW (z0B b i) (i-16)+sg0 (gW (z0B b i) (i-15))+gW (z0B b i) (i-7)+sg1 (gW (z0B b i) (i-2)):=by unfold nextW;rw[if_neg (by omega)]
     have hw:z0B b (i+1)=(z0B b i).set i (nextW b (z0B b i) i):=rfl;have y0:16+(k+1)=i+1:=by omega
     have wi:IntKind.i64.wrap ((i:Int)+1)=((i+1:Nat):Int):=by rw[←z1V (n:=i+1) (by omega)];congr 1
     rw[y0,hw,hn]at hJ;unfold sg0 sg1 at hJ;simp -implicitDefEqProofs only[mkE,go_sem,hd,f1,f2,f3,f4,l,p0,G1,S1,w1,z37,hh,Nat.mul_one,Int.toNat_natCast,l0,li,hp,wi];have r7:∀(A:BitVec 32) s,Ans Tryz.prog 93 [V32 A,.pl (.int .i64 (-7))] s (V32 (ror A 7)) s:=fun A s=>z2U s A 7 (by decide) (by decide)
     have j0:∀(A:BitVec 32) s,Ans Tryz.prog 93 [V32 A,.pl (.int .i64 (-18))] s (V32 (ror A 18)) s:=fun A s=>z2U s A 18 (by decide) (by decide)
     have q0:∀(A:BitVec 32) s,Ans Tryz.prog 93 [V32 A,.pl (.int .i64 (-17))] s (V32 (ror A 17)) s:=fun A s=>z2U s A 17 (by decide) (by decide)
     have m0:∀(A:BitVec 32) s,Ans Tryz.prog 93 [V32 A,.pl (.int .i64 (-19))] s (V32 (ror A 19)) s:=fun A s=>z2U s A 19 (by decide) (by decide)
     have t3:Int.toNat 3=3:=rfl;have k0:Int.toNat 10=10:=rfl;have v3:=fun A=>V_shr A 3 (by decide)
     have v10:=fun A=>V_shr A 10 (by decide)
     refine CO.intro (r7 _ _) ?_;simp -implicitDefEqProofs only[go_sem];refine CO.intro (j0 _ _) ?_;simp -implicitDefEqProofs only[go_sem,V_xor,t3,v3];refine CO.intro (q0 _ _) ?_;simp -implicitDefEqProofs only[go_sem];refine CO.intro (m0 _ _) ?_;simp -implicitDefEqProofs only[go_sem,V_xor,k0,v10,f3,f4,l,p0,G1,S1,w1,z37,hh,Nat.mul_one,Int.toNat_natCast,l0,li,hp,wi,V_add];exact hJ
   · intro J;have hd:decide (((16+48:Nat):Int)<64)=false:=rfl;have w0:=z20 b 0;have w1:=z20 b 64;have z0:((0:Nat)+64≤64)=True:=eq_true (by decide)
     have a1:=zcB (z0B b 64);have k1:=zcC w1;have k2:=zeU w0;have ab:=zgu σ.length (z0B b 64);simp -implicitDefEqProofs only[mkE,go_sem,hd,G0,S0,G1,S1,w0,w1,z37,a1,k1,k2,List.append_nil];exact Fini.trim2 (σ':=σ) (ex:=[_,_]) (by simp -implicitDefEqProofs only[go_sem,resA,z03,rvA,oneOf,G0,w1,z37,k1]<;>rfl) rfl (Nat.le_refl _) ab u0
end
structure S8 where
 a:BitVec 32
 b:BitVec 32
 c:BitVec 32
 d:BitVec 32
 e:BitVec 32
 f:BitVec 32
 g:BitVec 32
 h:BitVec 32
def S8.l (s:S8):List (BitVec 32):=[s.a,s.b,s.c,s.d,s.e,s.f,s.g,s.h]
def s8v (s:S8):List AV:=[V32 s.a,V32 s.b,V32 s.c,V32 s.d,V32 s.e,V32 s.f,V32 s.g,V32 s.h]
def t1W (K W:BitVec 32) (s:S8):BitVec 32:=s.h+(ror s.e 6 ^^^ ror s.e 11 ^^^ ror s.e 25)+((s.e &&& s.f) ^^^ (~~~ s.e &&& s.g))+K+W
def t2W (s:S8):BitVec 32:=(ror s.a 2 ^^^ ror s.a 13 ^^^ ror s.a 22)+((s.a &&& s.b) ^^^ (s.a &&& s.c) ^^^ (s.b &&& s.c))
def rnd (K W:BitVec 32) (s:S8):S8:=⟨t1W K W s+t2W s,s.a,s.b,s.c,s.d+t1W K W s,s.e,s.f,s.g⟩
def shaK:List Nat:=[1116352408,1899447441,3049323471,3921009573,961987163,1508970993,2453635748,2870763221,3624381080,310598401,607225278,1426881987,1925078388,2162078206,2614888103,3248222580,3835390401,4022224774,264347078,604807628,770255983,1249150122,1555081692,1996064986,2554220882,2821834349,2952996808,3210313671,3336571891,3584528711,113926993,338241895,666307205,773529912,1294757372,1396182291,1695183700,1986661051,2177026350,2456956037,2730485921,2820302411,3259730800,3345764771,3516065817,3600352804,4094571909,275423344,430227734,506948616,659060556,883997877,958139571,1322822218,1537002063,1747873779,1955562222,2024104815,2227730452,2361852424,2428436474,2756734187,3204031479,3329325298]
def kW (i:Nat):BitVec 32:=BitVec.ofNat 32 (shaK.getD i 0)
def rounds (w:List (BitVec 32)) (s:S8):Nat→S8
 |0=>s
 |i+1=>rnd (kW i) (gW w i) (rounds w s i)
def addTo (h x:List (BitVec 32)):Nat→List (BitVec 32)
 |0=>x
 |j+1=>(addTo h x j).set j (gW (addTo h x j) j+gW h j)
theorem z4j (h x:List (BitVec 32)) (hx:x.length=8):∀j,(addTo h x j).length=8
 |0=>hx
 |j+1=>by rw[addTo,List.length_set,z4j h x hx j]
def z6L (h:S8) (b:List UInt8):List (BitVec 32):=addTo h.l (rounds (z0B b 64) h 64).l 8
def kV:List Value:=shaK.map fun n:Nat=>Value.int .u32 (n:Int)
theorem zhl:∀n∈shaK,n<4294967296:=by decide +kernel
theorem ziD {i:Nat} (h:i<64):(kW i).toNat=shaK.getD i 0:=by
 have hl:shaK.length=64:=rfl;have:=zhl (shaK[i]'(by omega)) (List.getElem_mem _)
 unfold kW;rw[BitVec.toNat_ofNat,List.getD_eq_getElem?_getD,List.getElem?_eq_getElem (by omega),Option.getD_some]
 exact Nat.mod_eq_of_lt this
theorem zhm {i:Nat} (h:i<64):(List.map AV.pl (List.drop i kV)).head?=some (V32 (kW i)):=by
 have hl:shaK.length=64:=rfl;unfold kV;rw[List.head?_map,List.head?_drop,List.getElem?_map,List.getElem?_eq_getElem (by omega)]
 show some (AV.pl (Value.int .u32 ((shaK[i]'(by omega):Nat):Int)))=_
 unfold V32;rw[ziD h,List.getD_eq_getElem?_getD,List.getElem?_eq_getElem (by omega),Option.getD_some]
section
variable (σ:St)
theorem zcE (h:S8) (b:List UInt8) (hb:b.length=64) (hG:∀ex,gloA (σ++ex) 0=some kV):Ans Tryz.prog 56 [.agg (s8v h),.agg (bv b)] σ (.agg (wv (z6L h b))) σ:=by
 have hl:=z1c b;have ha:=bv_all b;have k0:List.take 64 (bv b)=bv b:=List.take_of_length_le (by rw[hl];omega)
 have q0:=fun s=>zbu s b hb
 have wl:=z20 b 64;generalize o0:z0B b 64=w at q0 wl;have wa:=zcB w;refine Ans.of_run' t56 (fun u0 _=>?_)
 unfold s8v;simp -implicitDefEqProofs only[c56,r56,go_sem,hl,hb,ha,k0];refine CO.intro (q0 _) ?_;simp -implicitDefEqProofs only[go_sem,z37,wl,wa,List.append_assoc,List.cons_append,List.nil_append,List.length_append,List.length_cons,List.length_nil,G0,S0,G1,S1];have hs8:([V32 h.a,V32 h.b,V32 h.c,V32 h.d,V32 h.e,V32 h.f,V32 h.g,V32 h.h]:List AV)=s8v (rounds w h 0):=rfl;refine Go.Ab.L.count 64 (fun i=>mkE 114 [(2,.rp (s8v h)),(4,.ptr σ.length 0),(5,.rp (wv w)),(6,.ptr (σ.length+1) 0),(21,I i)]) (fun i=>σ++[.box [.pl (.int .u32 0),.pl (.int .u32 0),.pl (.int .u32 0),.pl (.int .u32 0),.pl (.int .u32 0),.pl (.int .u32 0),.pl (.int .u32 0),.pl (.int .u32 0)],.box (s8v (rounds w h i))]) ?_ ?_ ?_ ?_
 · intro i hi J hJ;have hd:decide ((i:Int)<64)=true:=decide_eq_true (by omega)
   generalize hs:rounds w h i=s;have hw:rounds w h (i+1)=rnd (kW i) (gW w i) (rounds w h i):=rfl;rw[hw,hs]at hJ;have l0:((0:Int)<((8:Nat):Int))=True:=eq_true (by decide)
   have n0:Int.toNat 0=0:=rfl;have l1:((1:Int)<((8:Nat):Int))=True:=eq_true (by decide)
   have n1:Int.toNat 1=1:=rfl;have l2:((2:Int)<((8:Nat):Int))=True:=eq_true (by decide)
   have n2:Int.toNat 2=2:=rfl;have l3:((3:Int)<((8:Nat):Int))=True:=eq_true (by decide)
   have n3:Int.toNat 3=3:=rfl;have l4:((4:Int)<((8:Nat):Int))=True:=eq_true (by decide)
   have n4:Int.toNat 4=4:=rfl;have l5:((5:Int)<((8:Nat):Int))=True:=eq_true (by decide)
   have n5:Int.toNat 5=5:=rfl;have l6:((6:Int)<((8:Nat):Int))=True:=eq_true (by decide)
   have n6:Int.toNat 6=6:=rfl;have l7:((7:Int)<((8:Nat):Int))=True:=eq_true (by decide)
   have n7:Int.toNat 7=7:=rfl;have q6:∀(A:BitVec 32) s,Ans Tryz.prog 93 [V32 A,.pl (.int .i64 (-6))] s (V32 (ror A 6)) s:=fun A s=>z2U s A 6 (by decide) (by decide)
   have e0:∀(A:BitVec 32) s,Ans Tryz.prog 93 [V32 A,.pl (.int .i64 (-11))] s (V32 (ror A 11)) s:=fun A s=>z2U s A 11 (by decide) (by decide)
   have f0:∀(A:BitVec 32) s,Ans Tryz.prog 93 [V32 A,.pl (.int .i64 (-25))] s (V32 (ror A 25)) s:=fun A s=>z2U s A 25 (by decide) (by decide)
   have q2:∀(A:BitVec 32) s,Ans Tryz.prog 93 [V32 A,.pl (.int .i64 (-2))] s (V32 (ror A 2)) s:=fun A s=>z2U s A 2 (by decide) (by decide)
   have r0:∀(A:BitVec 32) s,Ans Tryz.prog 93 [V32 A,.pl (.int .i64 (-13))] s (V32 (ror A 13)) s:=fun A s=>z2U s A 13 (by decide) (by decide)
   have t0:∀(A:BitVec 32) s,Ans Tryz.prog 93 [V32 A,.pl (.int .i64 (-22))] s (V32 (ror A 22)) s:=fun A s=>z2U s A 22 (by decide) (by decide)
   have hm:(if IntKind.u32.signed=true then(-1:Int) else IntKind.u32.max)=4294967295:=rfl
   have hK:=fun ex=>hG ex
   have d0:=zhm hi;have y0:((i:Int)<((64:Nat):Int))=True:=eq_true (by omega)
   have p0:((0:Int)≤(i:Int))=True:=eq_true (Int.natCast_nonneg _);have j0:(List.drop i (wv w)).head?=some (V32 (gW w i)):=by rw[List.head?_drop,z8h (by omega)]
   have wi:IntKind.i64.wrap ((i:Int)+1)=((i+1:Nat):Int):=by rw[←z1V (n:=i+1) (by omega)];congr 1
   unfold s8v;simp -implicitDefEqProofs only[mkE,go_sem,hd,G1,S1,l0,l1,l2,l3,l4,l5,l6,l7,n0,n1,n2,n3,n4,n5,n6,n7,Nat.mul_one,List.drop_succ_cons,List.drop_zero,List.head?_cons];refine CO.intro (q6 _ _) ?_;simp -implicitDefEqProofs only[go_sem];refine CO.intro (e0 _ _) ?_;simp -implicitDefEqProofs only[go_sem,V_xor];refine CO.intro (f0 _ _) ?_;simp -implicitDefEqProofs only[go_sem,V_xor,V_and,hm,V_not,V_add,G1,S1,l0,l1,l2,l3,l4,l5,l6,l7,n0,n1,n2,n3,n4,n5,n6,n7,Nat.mul_one,List.drop_succ_cons,List.drop_zero,List.head?_cons,y0,p0,j0,hK,d0,Int.toNat_natCast];refine CO.intro (q2 _ _) ?_;simp -implicitDefEqProofs only[go_sem];refine CO.intro (r0 _ _) ?_;simp -implicitDefEqProofs only[go_sem,V_xor];refine CO.intro (t0 _ _) ?_;simp -implicitDefEqProofs only[go_sem,V_xor,V_and,hm,V_not,V_add,G1,S1,l0,l1,l2,l3,l4,l5,l6,l7,n0,n1,n2,n3,n4,n5,n6,n7,Nat.mul_one,List.drop_succ_cons,List.drop_zero,List.head?_cons,y0,p0,wi,Int.toNat_natCast];unfold rnd t1W t2W s8v at hJ;exact hJ
 · intro J0;have u1:decide (((64:Nat):Int)<64)=false:=rfl;have hr:z6L h b=addTo h.l (rounds w h 64).l 8:=by unfold z6L;rw[←o0]
   rw[hr];generalize rounds w h 64=x;have h0:s8v x=wv (addTo h.l x.l 0):=rfl;have m0:s8v h=wv h.l:=rfl;simp -implicitDefEqProofs only[mkE,go_sem,u1];rw[h0];refine Go.Ab.L.count 8 (fun j=>mkE 114 [(2,.rp (s8v h)),(4,.ptr σ.length 0),(6,.ptr (σ.length+1) 0),(101,I j)]) (fun j=>σ++[.box [.pl (.int .u32 0),.pl (.int .u32 0),.pl (.int .u32 0),.pl (.int .u32 0),.pl (.int .u32 0),.pl (.int .u32 0),.pl (.int .u32 0),.pl (.int .u32 0)],.box (wv (addTo h.l x.l j))]) ?_ ?_ rfl rfl
   · intro j hj J hJ;have hd:decide ((j:Int)<8)=true:=decide_eq_true (by omega)
     have l8:((j:Int)<((8:Nat):Int))=True:=eq_true (by omega)
     have p0:((0:Int)≤(j:Int))=True:=eq_true (Int.natCast_nonneg _);have w1:=z4j h.l x.l rfl j;have h1:(List.drop j (wv (addTo h.l x.l j))).head?=some (V32 (gW (addTo h.l x.l j) j)):=by rw[List.head?_drop,z8h (by omega)]
     have h2:(List.drop j (wv h.l)).head?=some (V32 (gW h.l j)):=by rw[List.head?_drop,z8h (by show j<8;exact hj)]
     have li:(j≤7)=True:=eq_true (by omega)
     have hp:=fun y=>zcD (w:=addTo h.l x.l j) (i:=j) (by omega) y
     have wi:IntKind.i64.wrap ((j:Int)+1)=((j+1:Nat):Int):=by rw[←z1V (n:=j+1) (by omega)];congr 1
     have hw:addTo h.l x.l (j+1)=(addTo h.l x.l j).set j (gW (addTo h.l x.l j) j+gW h.l j):=rfl;rw[hw]at hJ;rw[m0]at hJ⊢;simp -implicitDefEqProofs only[mkE,go_sem,hd,l8,p0,G1,S1,w1,z37,h1,h2,Nat.mul_one,Int.toNat_natCast,V_add,li,hp,wi];exact hJ
   · intro J;have hd:decide (((8:Nat):Int)<8)=false:=rfl;have w1:=z4j h.l x.l rfl 8;have a1:=zcB (addTo h.l x.l 8);have k1:=zcC w1;have ab:=zgu σ.length (addTo h.l x.l 8);simp -implicitDefEqProofs only[mkE,go_sem,hd,G0,S0,G1,S1,w1,z37,a1,k1,List.append_nil,List.drop_succ_cons,List.drop_zero,List.drop_nil];exact Fini.trim2 (σ':=σ) (ex:=[_,_]) (by simp -implicitDefEqProofs only[go_sem,resA,z03,rvA,oneOf,G0,w1,z37,k1]<;>rfl) rfl (Nat.le_refl _) ab u0
 · rfl
 · rfl
end
open Go.Cod
theorem z8i (v:AV):∀n:Nat,chunks 1 false n (z0b [v] n)=List.replicate n v
 |0=>rfl
 |n+1=>by
  rw[chunks,z0b,List.replicate_succ];show v::chunks 1 false n (z0b [v] n)=_;rw[z8i v n]
theorem wrdB_len (w:Nat):(wrdB w).length=8:=rfl
theorem z5I (b:List UInt8) (f:AV→Bool) (h:∀c:UInt8,f (.pl (.int .u8 ((c.toNat:Nat):Int)))=true):(bv b).all f=true:=by
 unfold bv;rw[List.all_eq_true];intro x hx;obtain⟨c,_,rfl⟩:=List.mem_map.1 hx;exact h c
theorem z4M (n:Nat) (b:List UInt8):Bel n (.sl 1 (bv b)):=.sl 1 _ fun i hi=>by
 have e:(bv b)[i]'hi=.pl (.int .u8 (((b[i]'(by rw[z1c]at hi;exact hi)).toNat:Nat):Int)):=by simp[bv]
 rw[e];exact .pl _
theorem bel_bva (n:Nat) (b:List UInt8):Bel n (.agg (bv b)):=.agg _ fun i hi=>by
 have e:(bv b)[i]'hi=.pl (.int .u8 (((b[i]'(by rw[z1c]at hi;exact hi)).toNat:Nat):Int)):=by simp[bv]
 rw[e];exact .pl _
theorem zgv (a b:List UInt8):bv (a++b)=bv a++bv b:=List.map_append ..
abbrev Z8:AV:=.pl (.int .u8 0)
theorem ziE (n:Nat):bv (List.replicate n 0)=List.replicate n Z8:=by unfold bv;rw[List.map_replicate];rfl
def padZ (n:Nat):Nat:=(119-n%64)%64
def padB (b:List UInt8):List UInt8:=b++(128::(List.replicate (padZ b.length) 0++wrdB (8*b.length)))
theorem zcG (n:Nat):padZ n<64:=Nat.mod_lt _ (by decide)
theorem zcH (n:Nat):(n+1+padZ n)%64=56:=by unfold padZ;omega
theorem zeX (n i:Nat) (h:i<padZ n):(n+1+i)%64≠56:=by unfold padZ at h;omega
theorem zeY (b:List UInt8):(padB b).length%64=0:=by
 have:=zcH b.length;unfold padB;simp only[List.length_append,List.length_cons,List.length_replicate,wrdB_len];omega
def rowP (b:List UInt8) (j:Nat):List UInt8:=b++(128::(List.replicate (padZ b.length) 0++((wrdB (8*b.length)).take j++List.replicate (8-j) 0)))
theorem zeZ (b:List UInt8):rowP b 8=padB b:=by unfold rowP padB;rw[List.take_of_length_le (by rw[wrdB_len];decide)];simp
theorem zai (b:List UInt8) (j:Nat) (hj:j≤8):(rowP b j).length=b.length+1+padZ b.length+8:=by
 unfold rowP;simp only[List.length_append,List.length_cons,List.length_replicate,List.length_take,wrdB_len];omega
theorem zf0 (b:List UInt8) (j:Nat) (hj:j<8):(rowP b j).set (b.length+1+padZ b.length+j) ((wrdB (8*b.length)).getD j 0)=rowP b (j+1):=by
 unfold rowP;have hw:=wrdB_len (8*b.length);generalize wrdB (8*b.length)=w at hw;have e:b.length+1+padZ b.length+j=b.length+(1+(padZ b.length+j)):=by omega
 rw[e,List.set_append_right _ _ (by omega),Nat.add_sub_cancel_left,Nat.add_comm 1,List.set_cons_succ,List.set_append_right _ _ (by simp)]
 have e2:padZ b.length+j-(List.replicate (padZ b.length) (0:UInt8)).length=j:=by simp
 rw[e2,List.set_append_right _ _ (by rw[List.length_take];omega)]
 have e3:j-(w.take j).length=0:=by rw[List.length_take];omega
 have e4:List.replicate (8-j) (0:UInt8)=0::List.replicate (8-(j+1)) 0:=by rw[show 8-j=(8-(j+1))+1 by omega,List.replicate_succ]
 rw[e3,e4,List.set_cons_zero,List.take_succ_eq_append_getElem (by omega),List.getD_eq_getElem?_getD,List.getElem?_eq_getElem (by omega),Option.getD_some,List.append_assoc]
 rfl
theorem zcI (b:List UInt8):(bv b++List.replicate (padZ b.length+9) Z8).set b.length (.pl (.int .u8 128))=bv (rowP b 0):=by
 rw[List.set_append_right _ _ (by rw[z1c];omega),z1c,Nat.sub_self,show padZ b.length+9=(padZ b.length+8)+1 by omega,List.replicate_succ,List.set_cons_zero]
 unfold rowP;rw[zgv,List.take_zero,List.nil_append,List.replicate_append_replicate];show _=bv b++(_::bv _);rw[ziE];rfl
theorem zhn (D j:Nat) (hj:j<8):((((wrdB D).getD j 0).toNat:Nat):Int)=((D/2^(56-8*j)%256:Nat):Int):=by
 match j,hj with
 |0,_|1,_|2,_|3,_|4,_|5,_|6,_=>rfl
 |7,_ =>
  show((D.toUInt8.toNat:Nat):Int)=_;simp[Nat.toUInt8]
theorem ziF (n:Nat):IntKind.u8.wrap (n:Int)=((n%256:Nat):Int):=by
 simp only[IntKind.wrap,IntKind.bits,IntKind.signed];simp
theorem shr64 (D k:Nat) (h:k≤64):((D:Nat):Int).fdiv (2^(min k 64))=((D/2^k:Nat):Int):=by
 rw[Nat.min_eq_left h,Int.fdiv_eq_ediv_of_nonneg _ (Int.pow_nonneg (by omega))]
 simp
theorem zcJ (b:List UInt8) (i:Nat) (c:UInt8):(bv b).set i (.pl (.int .u8 ((c.toNat:Nat):Int)))=bv (b.set i c):=by unfold bv;rw[List.map_set]
section
variable (σ:St)
theorem zho (b:List UInt8) (hb:b.length≤100000):Ans Tryz.prog 55 [.sl 1 (bv b)] σ (.sl 1 (bv (padB b))) σ:=by
 have hl:=z1c b;have w1:IntKind.i64.wrap (((b.length:Nat):Int)+1)=((b.length+1:Nat):Int):=by simp only[IntKind.wrap,IntKind.bits,IntKind.signed];simp;omega
 refine Ans.of_run' t55 (fun y0 _=>?_)
 simp -implicitDefEqProofs only[c55,r55,go_sem,hl,w1];refine Go.Ab.L.count (padZ b.length) (fun i=>mkE 45 [(0,.sl 1 (bv b)),(3,I ((b.length+1+i:Nat):Int))]) (fun _=>σ) ?_ ?_ rfl rfl
 · intro i hi J hJ;have hm:(((b.length+1+i:Nat):Int)).tmod 64=(((b.length+1+i)%64:Nat):Int):=rfl
   have hn:((((b.length+1+i)%64:Nat):Int) != 56)=true:=by
    have:=zeX b.length i hi;simp;omega
   have w2:IntKind.i64.wrap (((b.length+1+i:Nat):Int)+1)=((b.length+1+(i+1):Nat):Int):=by simp only[IntKind.wrap,IntKind.bits,IntKind.signed];have:=zcG b.length;simp;omega
   simp -implicitDefEqProofs only[mkE,go_sem,hm,hn,w2];exact hJ
 · intro J;have hm:(((b.length+1+padZ b.length:Nat):Int)).tmod 64=(((b.length+1+padZ b.length)%64:Nat):Int):=rfl;rw[zcH]at hm;have hn:(((56:Nat):Int) != 56)=false:=rfl;have hz:=zcG b.length;generalize hN:b.length+1+padZ b.length=N at hm;have w2:IntKind.i64.wrap ((N:Int)+8)=((N+8:Nat):Int):=by simp only[IntKind.wrap,IntKind.bits,IntKind.signed];simp;omega
   generalize hM:N+8=M at w2;have cm:(((M:Nat):Int)≤(M:Nat)∧((M:Nat):Int)≤4294967296)=True:=eq_true ⟨Int.le_refl _,by omega⟩
   have hr:List.take M (chunks 1 false M (z0b [AV.pl (.int .u8 0)] M))=List.replicate M (AV.pl (.int .u8 0)):=by rw[z8i,List.take_of_length_le (by simp)]
   have f0:(((M:Nat):Int)≤4294967296)=True:=eq_true (by omega)
   have u0:b.length.min M=b.length:=Nat.min_eq_left (by omega)
   have tk:List.take b.length (bv b)=bv b:=List.take_of_length_le (by rw[hl];exact Nat.le_refl _)
   have dr:List.drop b.length (List.replicate M (AV.pl (.int .u8 0)))=List.replicate (padZ b.length+9) Z8:=by rw[List.drop_replicate];congr 1;omega
   have k0:(List.replicate M (AV.pl (.int .u8 0))).length=M:=List.length_replicate;have n0:(bv b++List.replicate (padZ b.length+9) Z8).length=M:=by rw[List.length_append,hl,List.length_replicate];omega
   have t0:(((b.length:Nat):Int)<((M:Nat):Int))=True:=eq_true (by omega)
   have m0:(bv b++List.replicate (padZ b.length+9) Z8)[b.length]?=some Z8:=by rw[List.getElem?_append_right (by omega),hl,Nat.sub_self,List.getElem?_replicate,if_pos (by omega)]
   have hr0:=zcI b;simp -implicitDefEqProofs only[mkE,go_sem,hm,hn,w2,cm,n0,t0,m0,hr0,f0,hr,hl,u0,tk,dr,k0,z5I,G0,S0,Int.toNat_natCast,Int.le_refl]
   have wd:IntKind.u64.wrap (IntKind.u64.wrap ((b.length:Nat):Int)*8)=((8*b.length:Nat):Int):=by
    have e:IntKind.u64.wrap ((b.length:Nat):Int)=((b.length:Nat):Int):=by simp only[IntKind.wrap,IntKind.bits,IntKind.signed];simp;omega
    rw[e];simp only[IntKind.wrap,IntKind.bits,IntKind.signed];simp;omega
   rw[wd];refine Go.Ab.L.count 8 (fun j=>mkE 45 [(3,I N),(4,.osl σ.length M),(5,.pl (.int .u64 ((8*b.length:Nat):Int))),(29,I j)]) (fun j=>σ++[.row 1 (bv (rowP b j))]) ?_ ?_ rfl rfl
   · intro j hj J hJ;have hd:decide ((j:Int)<8)=true:=decide_eq_true (by omega)
     have x1:IntKind.i64.wrap ((N:Int)+(j:Int))=((N+j:Nat):Int):=by simp only[IntKind.wrap,IntKind.bits,IntKind.signed];simp;omega
     have x2:IntKind.i64.wrap (8*(j:Int))=((8*j:Nat):Int):=by rw[←z1V (n:=8*j) (by omega)];congr 1
     have x3:IntKind.i64.wrap (56-((8*j:Nat):Int))=((56-8*j:Nat):Int):=by rw[←z1V (n:=56-8*j) (by omega)];congr 1;omega
     have p0:∀n:Nat,((0:Int)≤(n:Int))=True:=fun n=>eq_true (Int.natCast_nonneg _)
     have x4:=shr64 (8*b.length) (56-8*j) (by omega)
     have x5:=zhn (8*b.length) j hj;have x6:=ziF (8*b.length/2^(56-8*j));rw[←x5]at x6;have wi:IntKind.i64.wrap ((j:Int)+1)=((j+1:Nat):Int):=by rw[←z1V (n:=j+1) (by omega)];congr 1
     have h0:(rowP b j).length=M:=by rw[zai b j (by omega)];omega
     have q0:=z1c (rowP b j);have r0:(((N+j:Nat):Int)<((M:Nat):Int))=True:=eq_true (by omega)
     have e0:(bv (rowP b j))[N+j]?=some (.pl (.int .u8 (((gB (rowP b j) (N+j)).toNat:Nat):Int))):=zgs (by omega)
     have st:=zcJ (rowP b j) (N+j) ((wrdB (8*b.length)).getD j 0);have st2:=zf0 b j hj;rw[hN]at st2;rw[st2]at st;simp -implicitDefEqProofs only[mkE,go_sem,hd,x1,x2,x3,p0,x4,x6,wi,h0,q0,r0,e0,st,G0,S0,Int.toNat_natCast];exact hJ
   · intro J;have hd:decide (((8:Nat):Int)<8)=false:=rfl;have e8:=zeZ b;have j0:(rowP b 8).length=M:=by rw[zai b 8 (by decide)];omega
     have d0:=z1c (rowP b 8);simp -implicitDefEqProofs only[mkE,go_sem,hd,G0,S0,j0,d0];rw[←e8];exact Fini.trim2 (σ':=σ) (ex:=[_]) rfl rfl (Nat.le_refl _) (z4M _ _) y0
end
def zer32:List UInt8:=List.replicate 32 0
theorem zcK (s:S8):(s8v s).length=8:=rfl
theorem zaj (s:S8):List.take 8 (s8v s)=s8v s:=rfl
theorem zhp (s:S8):(s8v s).all AV.one=true:=rfl
theorem zf1 (s:S8):List.drop 8 (s8v s)=[]:=rfl
def toS (l:List (BitVec 32)):S8:=⟨gW l 0,gW l 1,gW l 2,gW l 3,gW l 4,gW l 5,gW l 6,gW l 7⟩
theorem toS_l {l:List (BitVec 32)} (h:l.length=8):wv l=s8v (toS l):=by
 match l,h with
 |[a,b,c,d,e,f,g,i],_=>rfl
theorem zbv (h:S8) (b:List UInt8):(z6L h b).length=8:=z4j _ _ rfl 8
def ziG:S8:=⟨1779033703,3144134277,1013904242,2773480762,1359893119,2600822924,528734635,1541459225⟩
def z4W (p:List UInt8):Nat→S8
 |0=>ziG
 |i+1=>toS (z6L (z4W p i) ((p.drop (64*i)).take 64))
def byteS (h:S8) (i:Nat):UInt8:=lo8 (gW h.l (i/4) >>> (24-8*(i%4)))
def outTo (h:S8):Nat→List UInt8
 |0=>List.replicate 32 0
 |i+1=>(outTo h i).set i (byteS h i)
theorem z4k (h:S8):∀i,(outTo h i).length=32
 |0=>List.length_replicate
 |i+1=>by rw[outTo,List.length_set,z4k h i]
def shaB (b:List UInt8):List UInt8:=outTo (z4W (padB b) ((padB b).length/64)) 32
theorem z0D (b:List UInt8):(shaB b).length=32:=z4k _ _
theorem zhq (b:List UInt8) (k:Nat):(bv b).take k=bv (b.take k):=by unfold bv;rw[List.map_take]
theorem zhr (b:List UInt8) (k:Nat):(bv b).drop k=bv (b.drop k):=by unfold bv;rw[List.map_drop]
section
variable (σ:St)
theorem G2 (x y z:Ob) (ex:St):(σ++x::y::z::ex)[σ.length+2]?=some z:=by rw[List.getElem?_append_right (by simp)];simp
theorem S2 (x y z u:Ob) (ex:St):(σ++x::y::z::ex).set (σ.length+2) u=σ++x::y::u::ex:=by rw[List.set_append_right _ _ (by simp)];simp
theorem ziH {b:List UInt8} {i:Nat} (h:i<b.length) (x:UInt8):List.take i (bv b)++[.pl (.int .u8 ((x.toNat:Nat):Int))]++List.drop (i+1) (bv b)=bv (b.set i x):=by
 rw[←zcJ,List.set_eq_take_append_cons_drop,if_pos (by rw[z1c];exact h)]
 simp
theorem sha_ans (b:List UInt8) (hb:b.length≤100000) (hG:∀ex,gloA (σ++ex) 0=some kV):Ans Tryz.prog 27 [.sl 1 (bv b)] σ (.agg (bv (shaB b))) σ:=by
 have hp:=fun s=>zho s b hb
 have u1:=zeY b;unfold shaB;have r0:(padB b).length=64*((padB b).length/64):=by omega
 generalize padB b=p at hp u1 r0;generalize hn:p.length/64=n at r0;have hr:=fun ex h bl (hbl:bl.length=64)=>zcE (σ++ex) h bl hbl (fun ex2=>by rw[List.append_assoc];exact hG _)
 refine Ans.of_run' t27 (fun k0 _=>?_)
 simp -implicitDefEqProofs only[c27,r27,go_sem,List.append_assoc,List.cons_append,List.nil_append,List.length_append,List.length_cons,List.length_nil,G0,S0,G1,S1];refine CO.intro (hp _) ?_;simp -implicitDefEqProofs only[go_sem];refine Go.Ab.L.count n (fun i=>mkE 38 [(2,.ptr σ.length 0),(3,.ptr (σ.length+1) 0),(4,.sl 1 (bv (p.drop (64*i))))]) (fun i=>σ++[.box (bv zer32),.box (s8v (z4W p i))]) ?_ ?_ ?_ ?_
 · intro i hi J hJ;have hd:decide ((0:Int)<((p.drop (64*i)).length:Nat))=true:=decide_eq_true (by rw[List.length_drop];omega)
   have y0:=z1c (p.drop (64*i));have m0:(p.drop (64*i)).length=p.length-64*i:=List.length_drop;have d0:((64:Int)≤((p.drop (64*i)).length:Nat))=True:=eq_true (by rw[m0];omega)
   have tk:=zhq (p.drop (64*i)) 64;have dk:=zhr (p.drop (64*i)) 64;have q0:((p.drop (64*i)).take 64).length=64:=by rw[List.length_take,m0];omega
   have l0:z4W p (i+1)=toS (z6L (z4W p i) ((p.drop (64*i)).take 64)):=rfl;have e0:=fun ex=>hr ex (z4W p i) _ q0
   rw[l0]at hJ;have t8:=toS_l (zbv (z4W p i) ((p.drop (64*i)).take 64));rw[t8]at e0;have n64:Int.toNat 64=64:=rfl;have n0:Int.toNat 0=0:=rfl;have x1:List.take (p.drop (64*i)).length (bv (p.drop (64*i)))=bv (p.drop (64*i)):=List.take_of_length_le (by rw[y0];exact Nat.le_refl _)
   have f0:List.drop 64 (List.drop (64*i) p)=List.drop (64*(i+1)) p:=by rw[List.drop_drop];congr 1
   have j0:=z1c ((p.drop (64*i)).take 64);have u0:=bv_all ((p.drop (64*i)).take 64);have t0:List.take 64 (bv ((p.drop (64*i)).take 64))=bv ((p.drop (64*i)).take 64):=List.take_of_length_le (by rw[j0,q0];exact Nat.le_refl _)
   simp -implicitDefEqProofs only[mkE,go_sem,hd,y0,d0,tk,dk,q0,G1,S1,n64,n0,List.drop_zero,zcK,zaj,j0,u0,t0];refine CD.intro (e0 _) ?_;simp -implicitDefEqProofs only[mkE,go_sem,hd,y0,d0,tk,dk,q0,G1,S1,n64,n0,List.drop_zero,zcK,zaj,zhp,zf1,List.append_nil,j0,u0,t0,f0,x1,Int.le_refl];exact hJ
 · intro J0;have o0:decide ((0:Int)<((p.drop (64*n)).length:Nat))=false:=decide_eq_false (by rw[List.length_drop];omega)
   have y0:=z1c (p.drop (64*n));have hzz:([.pl (.int .u8 0),.pl (.int .u8 0),.pl (.int .u8 0),.pl (.int .u8 0),.pl (.int .u8 0),.pl (.int .u8 0),.pl (.int .u8 0),.pl (.int .u8 0),.pl (.int .u8 0),.pl (.int .u8 0),.pl (.int .u8 0),.pl (.int .u8 0),.pl (.int .u8 0),.pl (.int .u8 0),.pl (.int .u8 0),.pl (.int .u8 0),.pl (.int .u8 0),.pl (.int .u8 0),.pl (.int .u8 0),.pl (.int .u8 0),.pl (.int .u8 0),.pl (.int .u8 0),.pl (.int .u8 0),.pl (.int .u8 0),.pl (.int .u8 0),.pl (.int .u8 0),.pl (.int .u8 0),.pl (.int .u8 0),.pl (.int .u8 0),.pl (.int .u8 0),.pl (.int .u8 0),.pl (.int .u8 0)]:List AV)=bv zer32:=rfl;generalize z4W p n=H;simp -implicitDefEqProofs only[mkE,go_sem,o0,y0,List.append_assoc,List.cons_append,List.nil_append,List.length_append,List.length_cons,List.length_nil];refine Go.Ab.L.count 32 (fun i=>mkE 38 [(2,.ptr σ.length 0),(3,.ptr (σ.length+1) 0),(5,.ptr (σ.length+2) 0),(21,I i)]) (fun i=>σ++[.box (bv zer32),.box (s8v H),.box (bv (outTo H i))]) ?_ ?_ rfl rfl
   · intro i hi J hJ;have hd:decide ((i:Int)<32)=true:=decide_eq_true (by omega)
     have q1:((i:Int)).tdiv 4=((i/4:Nat):Int):=rfl;have q2:((i:Int)).tmod 4=((i%4:Nat):Int):=rfl;have q3:IntKind.i64.wrap (8*((i%4:Nat):Int))=((8*(i%4):Nat):Int):=by rw[←z1V (n:=8*(i%4)) (by omega)];congr 1
     have q4:IntKind.i64.wrap (24-((8*(i%4):Nat):Int))=((24-8*(i%4):Nat):Int):=by rw[←z1V (n:=24-8*(i%4)) (by omega)];congr 1;omega
     have q5:IntKind.i64.wrap ((i/4:Nat):Int)=((i/4:Nat):Int):=z1V (by omega)
     have p0:∀n:Nat,((0:Int)≤(n:Int))=True:=fun n=>eq_true (Int.natCast_nonneg _)
     have l8:(((i/4:Nat):Int)<((8:Nat):Int))=True:=eq_true (by omega)
     have h0:((i:Int)<((32:Nat):Int))=True:=eq_true (by omega)
     have hh:(List.drop (i/4) (s8v H)).head?=some (V32 (gW H.l (i/4))):=by rw[show s8v H=wv H.l from rfl,List.head?_drop,z8h (by show i/4<8;omega)]
     have v1:=V_shr (gW H.l (i/4)) (24-8*(i%4)) (by omega)
     have v2:=zeR (gW H.l (i/4) >>> (24-8*(i%4)));have wi:IntKind.i64.wrap ((i:Int)+1)=((i+1:Nat):Int):=by rw[←z1V (n:=i+1) (by omega)];congr 1
     have w1:=z4k H i;have w2:=z1c (outTo H i);have li:(i≤31)=True:=eq_true (by omega)
     have hp:=ziH (b:=outTo H i) (i:=i) (by omega)
     have hw:outTo H (i+1)=(outTo H i).set i (byteS H i):=rfl;rw[hw]at hJ;unfold byteS at hJ;simp -implicitDefEqProofs only[mkE,go_sem,hd,q1,q2,q3,q4,q5,p0,l8,h0,hh,v1,v2,wi,w1,w2,li,hp,G1,S1,G2,S2,Nat.mul_one,Int.toNat_natCast];exact hJ
   · intro J;have hd:decide (((32:Nat):Int)<32)=false:=rfl;have w1:=z4k H 32;have w2:=z1c (outTo H 32);have w3:(bv zer32).length=32:=rfl;have a1:=bv_all (outTo H 32);have k1:List.take 32 (bv (outTo H 32))=bv (outTo H 32):=List.take_of_length_le (by rw[w2,w1];exact Nat.le_refl _)
     have k2:List.drop 32 (bv zer32)=[]:=rfl;simp -implicitDefEqProofs only[mkE,go_sem,hd,G0,S0,G1,S1,G2,S2,w1,w2,w3,a1,k1,k2,List.append_nil];exact Fini.trim2 (σ':=σ) (ex:=[_,_,_]) (by simp -implicitDefEqProofs only[go_sem,resA,z03,rvA,oneOf,G0,w1,w2,k1]<;>rfl) rfl (Nat.le_refl _) (bel_bva _ _) k0
 · rfl
 · rfl
end
end Go.Proofs.YteakobbdgehlgaaGreatDoor.Sha
namespace Go.Proofs.YteakobbdgehlgaaGreatDoor
open Go Go.Ab
abbrev Lab:=ByteArray×ByteArray
abbrev lv (x:Lab):AV:=.agg [Sx x.1,Sx x.2]
def lvs (L:List Lab):List AV:=L.map lv
theorem z0j (L:List Lab):(lvs L).length=L.length:=List.length_map ..
theorem z4N (L:List Lab) (i:Nat) (h:i<L.length):(lvs L)[i]?=some (lv L[i]):=by simp[lvs,h]
def getL:List Lab→ByteArray→ByteArray
 |[],_=>⟨#[]⟩
 |x::xs,nm=>if x.1.toList==nm.toList then x.2 else getL xs nm
section
variable (σ:St)
theorem z0e {i n:Nat} (h:i<n):((i:Int)<(n:Nat))=True:=by simp;omega
theorem z3g {i n:Nat} (h:¬i<n):((i:Int)<(n:Nat))=False:=by simp;omega
theorem dec_lt {i n:Nat} (h:i<n):decide ((i:Int)<(n:Nat))=true:=by simp;omega
theorem z3h {i n:Nat} (h:¬i<n):decide ((i:Int)<(n:Nat))=false:=by simp;omega
theorem wrap_succ {i:Nat} (h:i≤100000):IntKind.i64.wrap ((i:Int)+1)=((i+1:Nat):Int):=by rw[wrapN (by omega) (by omega)];rfl
theorem z8j (l:Nat) (L:List Lab) (nm:ByteArray) (h:σ[l]?=some (.row 2 (lvs L))) (hl:L.length≤1000):Ans Tryz.prog 116 [.osl l L.length,Sx nm] σ (Sx (getL L nm)) σ:=by
 refine Ans.of_run t116 ?_;simp -implicitDefEqProofs only[c116,r116,go_sem];generalize u0:getL L nm=res
 refine Go.Ab.L.intro (α:={ i:Nat // i≤L.length∧getL (L.drop i) nm=res }) (fun x=>L.length-x.1)
  (fun x=>mkE 24 [(0,.osl l L.length),(1,Sx nm),(5,I x.1)]) (fun _=>σ) (fun x J hJ=>?_) ⟨0,Nat.zero_le _,u0⟩ rfl rfl
 obtain⟨i,hi,hg⟩:=x;simp only at hJ⊢;by_cases hlt:i<L.length
 · rw[List.drop_eq_getElem_cons hlt,getL]at hg;have hx:=z4N L i hlt;cases he:L[i].1.toList==nm.toList
   · rw[he,if_neg Bool.false_ne_true]at hg;have y0:=hJ ⟨i+1,hlt,hg⟩ (by simp only;omega)
     simp only at y0;simp -implicitDefEqProofs only[mkE,go_sem,z0e hlt,dec_lt hlt,h,hx,z0j,he,wrap_succ (show i≤100000 by omega)]
     exact y0
   · rw[he,if_pos rfl]at hg;simp -implicitDefEqProofs only[mkE,go_sem,z0e hlt,dec_lt hlt,h,hx,z0j,he];rw[hg];exact Fini.ret rfl
 · have:i=L.length:=by omega
   subst this;rw[List.drop_length,getL]at hg;simp -implicitDefEqProofs only[mkE,go_sem,z3g hlt,z3h hlt,h,z0j];rw[←hg];exact Fini.ret rfl
def z2m (L:List Lab):Prop:=∀x∈L,x.1∈names∧x.2∈values
def leS (a b:ByteArray):Bool:=Op.bytesLess a.toList b.toList||a.toList==b.toList
def badAt (L:List Lab) (i:Nat):Bool:=decide (0<i)&&leS (L.getD i (⟨#[]⟩,⟨#[]⟩)).1 (L.getD (i-1) (⟨#[]⟩,⟨#[]⟩)).1
def isGo (L:List Lab):Nat→Nat→Bool
 |0,_=>true
 |k+1,i=>if badAt L i then false else isGo L k (i+1)
def z3A (L:List Lab):Bool:=if decide (L.length<1)||decide (6<L.length) then false else isGo L L.length 0
theorem z8k (n:ByteArray) (h:n∈names):Ans Tryz.prog 134 [Sx n] σ (Bo true) σ:=by
 simp only[names,List.mem_cons,List.not_mem_nil,or_false]at h;rcases h with rfl|rfl|rfl|rfl|rfl
 · exact rn0_ok.frame (z5F rfl) σ
 · exact rn1_ok.frame (z5F rfl) σ
 · exact rn2_ok.frame (z5F rfl) σ
 · exact rn3_ok.frame (z5F rfl) σ
 · exact rn4_ok.frame (z5F rfl) σ
theorem z5J (v:ByteArray) (h:v∈values):1≤v.size∧v.size≤24:=by
 simp only[values,List.mem_cons,List.not_mem_nil,or_false]at h;rcases h with rfl|rfl|rfl|rfl|rfl|rfl|rfl<;>exact⟨by decide,by decide⟩
theorem z6M (v:ByteArray) (h:v∈values):Ans Tryz.prog 135 [Sx v] σ (Bo true) σ:=by
 obtain⟨h1,h2⟩:=z5J v h;have d1:decide ((1:Int)≤(v.size:Nat))=true:=by simp;omega
 have d2:decide (((v.size:Nat):Int)≤24)=true:=by simp;omega
 refine Ans.of_run t135 ?_;simp -implicitDefEqProofs only[c135,r135,go_sem,d1,d2];exact Fini.ret rfl
theorem zcL (L:List Lab) (hd:z2m L) (hl:L.length≤1000):Ans Tryz.prog 110 [.sl 2 (lvs L)] σ (Bo (z3A L)) σ:=by
 refine Ans.of_run t110 ?_;unfold z3A;have e1:decide ((((lvs L).length:Nat):Int)<1)=decide (L.length<1):=by rw[z0j,Bool.eq_iff_iff];simp only[decide_eq_true_eq];omega
 have e2:decide ((6:Int)<(((lvs L).length:Nat):Int))=decide (6<L.length):=by rw[z0j,Bool.eq_iff_iff];simp only[decide_eq_true_eq];omega
 simp -implicitDefEqProofs only[c110,r110,go_sem,e1];cases h1:decide (L.length<1)
 case true =>
  simp -implicitDefEqProofs only[go_sem,Bool.true_or];exact Fini.ret rfl
 simp -implicitDefEqProofs only[go_sem,e2,Bool.false_or];cases h2:decide (6<L.length)
 case true =>
  simp -implicitDefEqProofs only[go_sem];exact Fini.ret rfl
 simp -implicitDefEqProofs only[go_sem];generalize k0:isGo L L.length 0=res
 refine Go.Ab.L.intro (α:={ x:Nat×Nat // x.2+x.1=L.length∧isGo L x.1 x.2=res }) (fun x=>x.1.1)
  (fun x=>mkE 52 [(0,.sl 2 (lvs L)),(3,I x.1.2)]) (fun _=>σ) (fun x J hJ=>?_) ⟨(L.length,0),by simp,k0⟩ rfl rfl
 obtain⟨⟨k,i⟩,hi,hg⟩:=x;simp only at hi hg hJ⊢
 cases k with
 |zero =>
  have u0:¬i<L.length:=by omega
  rw[isGo]at hg;simp -implicitDefEqProofs only[mkE,go_sem,z0j,z3g u0,z3h u0];rw[←hg];exact Fini.ret rfl
 |succ k =>
  have u0:i<L.length:=by omega
  have hx:=z4N L i u0;obtain⟨d1,d2⟩:=hd L[i] (List.getElem_mem u0);have r0:L.getD i (⟨#[]⟩,⟨#[]⟩)=L[i]:=by rw[List.getD_eq_getElem?_getD,List.getElem?_eq_getElem u0];rfl
  rw[isGo]at hg;simp -implicitDefEqProofs only[mkE,go_sem,z0j,z0e u0,dec_lt u0,hx,z01]
  first
  |refine CD.intro (z8k _ _ d1) ?_
  |refine CS.intro (fun s=>z8k s _ d1) ?_
  simp -implicitDefEqProofs only[go_sem,z0j,z0e u0,dec_lt u0,hx,z01]
  first
  |refine CD.intro (z6M _ _ d2) ?_
  |refine CS.intro (fun s=>z6M s _ d2) ?_
  have e0:decide ((0:Int)<(i:Nat))=decide (0<i):=by rw[Bool.eq_iff_iff];simp
  unfold badAt at hg;rw[r0]at hg;simp -implicitDefEqProofs only[go_sem,e0];cases h0:decide (0<i)
  · rw[h0,Bool.false_and,if_neg Bool.false_ne_true]at hg;have q0:=hJ ⟨(k,i+1),by simp only;omega,hg⟩ (Nat.lt_succ_self k)
    simp only at q0;simp -implicitDefEqProofs only[go_sem,wrap_succ (show i≤100000 by omega)]
    exact q0
  · have hi0:0<i:=by simpa using h0
    have y0:i-1<L.length:=by omega
    have n0:=z4N L (i-1) y0;have j0:L.getD (i-1) (⟨#[]⟩,⟨#[]⟩)=L[i-1]:=by rw[List.getD_eq_getElem?_getD,List.getElem?_eq_getElem y0];rfl
    have e3:IntKind.i64.wrap ((i:Int)-1)=((i-1:Nat):Int):=by rw[wrapN (by omega) (by omega)];omega
    rw[h0,Bool.true_and,j0]at hg;cases hb:leS L[i].1 L[i-1].1
    · rw[hb,if_neg Bool.false_ne_true]at hg;have m0:(Op.bytesLess L[i].1.toList L[i-1].1.toList||L[i].1.toList==L[i-1].1.toList)=false:=hb;have q0:=hJ ⟨(k,i+1),by simp only;omega,hg⟩ (Nat.lt_succ_self k)
      simp only at q0;simp -implicitDefEqProofs only[go_sem,e3,hx,n0,z0j,z0e y0,z0e u0,m0,wrap_succ (show i≤100000 by omega)]
      exact q0
    · rw[hb,if_pos rfl]at hg;have m0:(Op.bytesLess L[i].1.toList L[i-1].1.toList||L[i].1.toList==L[i-1].1.toList)=true:=hb;simp -implicitDefEqProofs only[go_sem,e3,hx,n0,z0j,z0e y0,z0e u0,m0];rw[←hg];exact Fini.ret rfl
end
abbrev noL:Lab:=(⟨#[]⟩,⟨#[]⟩)
def pos (out:List Lab) (x:Lab):Nat→Nat
 |0=>0
 |n+1=>if Op.bytesLess x.1.toList (out.getD n noL).1.toList then pos out x n else n+1
def insL (out:List Lab) (x:Lab):List Lab:=out.take (pos out x out.length)++[x]++out.drop (pos out x out.length)
def setL (L:List Lab):List Lab:=L.foldl insL []
theorem zcM (out:List Lab) (x:Lab):∀n,pos out x n≤n
 |0=>Nat.le_refl _
 |n+1=>by
  rw[pos];split
  · exact Nat.le_succ_of_le (zcM out x n)
  · exact Nat.le_refl _
theorem zf2 (out:List Lab) (x:Lab):(insL out x).length=out.length+1:=by
 have:=zcM out x out.length;simp only[insL,List.length_append,List.length_take,List.length_drop,List.length_cons,List.length_nil];omega
theorem zcN (L:List Lab) (x:Lab):setL (L++[x])=insL (setL L) x:=by simp[setL]
theorem zcO (L:List Lab):∀acc:List Lab,(L.foldl insL acc).length=acc.length+L.length:=by
 induction L with
 |nil=>intro acc;rfl
 |cons x L ih=>intro acc;rw[List.foldl_cons,ih,zf2];simp;omega
theorem z7n (L:List Lab):(setL L).length=L.length:=by rw[setL,zcO];simp
theorem z7o {out:List Lab} {x y:Lab} (h:y∈insL out x):y=x∨y∈out:=by
 simp only[insL,List.mem_append,List.mem_cons,List.not_mem_nil,or_false]at h;rcases h with(h|h)|h
 · exact .inr (List.mem_of_mem_take h)
 · exact .inl h
 · exact .inr (List.mem_of_mem_drop h)
theorem zcP (L:List Lab):∀(acc:List Lab),∀y∈L.foldl insL acc,y∈acc∨y∈L:=by
 induction L with
 |nil=>intro acc y hy;exact .inl hy
 |cons x L ih =>
  intro acc y hy;rcases ih _ y hy with h|h
  · rcases z7o h with rfl|h
    · exact .inr List.mem_cons_self
    · exact .inl h
  · exact .inr (List.mem_cons_of_mem _ h)
theorem zak (L:List Lab):∀y∈setL L,y∈L:=fun y hy=>by
 rcases zcP L [] y hy with h|h
 · cases h
 · exact h
theorem zal (L:List Lab) (k:Nat):(lvs L).take k=lvs (L.take k):=by simp[lvs]
theorem zam (L:List Lab) (k:Nat):(lvs L).drop k=lvs (L.drop k):=by simp[lvs]
theorem zcQ (L:List Lab) (f:AV→Bool) (h:∀x:Lab,f (lv x)=true):(lvs L).all f=true:=by
 simp only[lvs,List.all_map,List.all_eq_true];exact fun x _=>h x
theorem z7p:lvs []=[]:=rfl
theorem z8l (L:List Lab):(lvs L).isEmpty=L.isEmpty:=by simp[lvs]
theorem zan (n:Nat) (x:Lab):Bel n (lv x):=by
 refine .agg _ fun i hi=>?_
 have:∀y∈[Sx x.1,Sx x.2],Bel n y:=by
  intro y hy;simp only[List.mem_cons,List.not_mem_nil,or_false]at hy;rcases hy with rfl|rfl<;>exact .pl _
 exact this _ (List.getElem_mem hi)
theorem z4O (n:Nat) (L:List Lab):Bel n (.sl 2 (lvs L)):=by
 refine .sl 2 _ fun i hi=>?_
 have:∀y∈lvs L,Bel n y:=by
  intro y hy;simp only[lvs,List.mem_map]at hy;obtain⟨x,_,rfl⟩:=hy;exact zan n x
 exact this _ (List.getElem_mem hi)
theorem B_pl (n:Nat) (v:Value):Bel n (.pl v)=True:=eq_true (.pl v)
theorem B_any (n:Nat):Bel n .any=True:=eq_true .any
theorem z2y (n:Nat):Bel n .nils=True:=eq_true .nils
theorem B_tup (n:Nat):Bel n (.tup [])=True:=eq_true (.tup _ fun i hi=>absurd hi (Nat.not_lt_zero _))
theorem B_lv (n:Nat) (x:Lab):Bel n (lv x)=True:=eq_true (zan n x)
theorem B_lvs (n:Nat) (L:List Lab):Bel n (.sl 2 (lvs L))=True:=eq_true (z4O n L)
theorem B_sl1 (n:Nat) (x:Lab):Bel n (.sl 2 [lv x])=True:=eq_true (z4O n [x])
theorem z9u (A B:List Lab) (x:Lab):lvs (A++[x]++B)=lvs A++lv x::lvs B:=by simp[lvs]
theorem B_mid (n:Nat) (A B:List Lab) (a b:ByteArray):Bel n (.sl 2 (lvs A++.agg [Sx a,Sx b]::lvs B))=True:=eq_true (by have:=z4O n (A++[(a,b)]++B);rwa [z9u]at this)
theorem zgw (n:Nat) (B:List Lab) (a b:ByteArray):Bel n (.sl 2 (.agg [Sx a,Sx b]::lvs B))=True:=eq_true (z4O n ((a,b)::B))
theorem B_rp2 (n:Nat) (a b:ByteArray):Bel n (.rp [Sx a,Sx b])=True:=eq_true (.rp _ fun i hi=>by
 have:∀y∈[Sx a,Sx b],Bel n y:=by
  intro y hy;simp only[List.mem_cons,List.not_mem_nil,or_false]at hy;rcases hy with rfl|rfl<;>exact .pl _
 exact this _ (List.getElem_mem hi))
theorem B_sl0 (n k:Nat):Bel n (.sl k [])=True:=eq_true (.sl k [] fun i hi=>absurd hi (Nat.not_lt_zero _))
theorem B_osl (n l k:Nat):Bel n (.osl l k)=(l<n):=by
 apply propext;constructor
 · intro h;cases h;assumption
 · intro h;exact .osl l k h
theorem B_ptr (n l k:Nat):Bel n (.ptr l k)=(l<n):=by
 apply propext;constructor
 · intro h;cases h;assumption
 · intro h;exact .ptr l k h
theorem z8m (n:Nat) (a b:ByteArray):Bel n (.agg [Sx a,Sx b])=True:=eq_true (zan n (a,b))
section
variable (σ:St)
theorem g0 (x:Ob) (ex:St):(σ++x::ex)[σ.length]?=some x:=by rw[List.getElem?_append_right (by simp)];simp
theorem s0 (x y:Ob) (ex:St):(σ++x::ex).set σ.length y=σ++y::ex:=by rw[List.set_append_right _ _ (by simp)];simp
theorem tr_ {rvs:List RV} {r:AV} {σ σ' ex:St} {env:Env} (he:σ=σ'++ex) (hb:Bel σ'.length r) (ho:∀o∈σ',BelO σ'.length o) (h:resA env σ rvs=some r:=by simp -implicitDefEqProofs only[go_sem,resA,z03,rvA,oneOf,g0]<;>rfl):Fini σ'.length rvs r σ' .ret env σ:=Fini.trim2 h he (Nat.le_refl _) hb ho
def setV (L:List Lab):AV:=if z3A (setL L) then .sl 2 (lvs (setL L)) else .nils
theorem z9v (L:List Lab) (hd:z2m L) (hl:L.length≤100):Ans Tryz.prog 117 [.sl 2 (lvs L)] σ (.tup [setV L,Bo (z3A (setL L))]) σ:=by
 refine Ans.of_run' t117 (fun q0 _=>?_)
 have u0:(∀o∈σ,BelO σ.length o)=True:=eq_true q0;simp -implicitDefEqProofs only[c117,r117,go_sem,B_pl,B_any,z2y,B_tup,B_lv,B_lvs,B_sl1,B_osl,B_ptr,z8m,B_sl0,List.take_left,u0,g0,s0,List.length_append,Nat.le_add_right];refine Go.Ab.L.count L.length (fun i=>mkE 51 [(0,.sl 2 (lvs L)),(4,.sl 2 (lvs (setL (L.take i)))),(5,I i)]) (fun _=>σ) ?_ ?_ rfl rfl
 · intro i hi Q hQ;have hx:=z4N L i hi;have t0:(setL (L.take i)).length=i:=by rw[z7n];simp;omega
   rw[List.take_succ_eq_append_getElem hi,zcN]at hQ;generalize setL (L.take i)=out at t0 hQ⊢;simp -implicitDefEqProofs only[mkE,go_sem,z0j,z0e hi,dec_lt hi];unfold insL at hQ;generalize hp:pos out L[i] out.length=p at hQ
   refine Go.Ab.L.intro (α:={ n:Nat // n≤out.length∧pos out L[i] n=p }) (fun x=>x.1) (fun x=>mkE 51 [(0,.sl 2 (lvs L)),(4,.sl 2 (lvs out)),(5,I i),(6,I x.1)]) (fun _=>σ)
    (fun x J hJ=>?_) ⟨out.length,Nat.le_refl _,hp⟩ rfl rfl
   obtain⟨n,hn,y0⟩:=x;simp only at hJ⊢
   cases n with
   |zero =>
    rw[pos]at y0;subst y0;have e0:decide ((0:Int)<((0:Nat):Int))=false:=by decide
    have h1:(1≤2^32)=True:=by simp
    have j0:(1+out.length≤2^32)=True:=by simp;omega
    have q1:(1+out.length=out.length+1)=True:=by simp;omega
    rw[z9u]at hQ;simp -implicitDefEqProofs only[mkE,go_sem,q1,e0,z0j,z0e hi,hx,Int.natCast_zero,Int.le_refl,Int.toNat_zero,List.take_length,List.drop_zero,List.drop_nil,z7p,zal,zam,zcQ,z8l,z0j,g0,s0,B_pl,B_any,z2y,B_tup,B_lv,B_lvs,B_sl1,B_osl,B_ptr,z8m,B_sl0,j0,h1,zgw,B_mid,B_rp2,List.take_left,u0,List.length_append,List.append_assoc,Nat.le_add_right,wrap_succ (show i≤100000 by omega)]
    exact hQ
   |succ n =>
    have m0:=z4N out n hn;have r0:out.getD n noL=out[n]:=by rw[List.getD_eq_getElem?_getD,List.getElem?_eq_getElem hn];rfl
    have d0:decide ((0:Int)<((n+1:Nat):Int))=true:=by simp
    have e1:IntKind.i64.wrap (((n+1:Nat):Int)-1)=(n:Int):=by rw[wrapN (by omega) (by omega)];omega
    rw[pos,r0]at y0;cases hb:Op.bytesLess L[i].1.toList out[n].1.toList
    · rw[hb,if_neg Bool.false_ne_true]at y0;subst y0;have p1:(((n+1:Nat):Int)≤(out.length:Nat))=True:=by simp;omega
      have p2:(out.take (n+1)).isEmpty=false:=by
       cases h:out.take (n+1) with
       |nil =>
        have:(out.take (n+1)).length=0:=by rw[h];rfl
        rw[List.length_take]at this;omega
       |cons _ _=>rfl
      have p3:(out.take (n+1)).length=n+1:=by simp;omega
      have p4:(out.drop (n+1)).length=out.length-(n+1):=by simp
      have p5:(n+1≤2^32)=True:=by simp;omega
      have p6:(n+1+1≤2^32)=True:=by simp;omega
      have p7:(n+1+1+(out.length-(n+1))≤2^32)=True:=by simp;omega
      have q2:(n+1+1+(out.length-(n+1))=n+1+(out.length-(n+1)+1))=True:=by simp;omega
      rw[z9u]at hQ;simp -implicitDefEqProofs only[mkE,go_sem,q2,d0,e1,z0j,z0e hi,z0e hn,hx,m0,hb,Int.natCast_zero,Int.le_refl,Int.toNat_zero,List.take_length,List.drop_zero,List.drop_nil,z7p,zal,zam,zcQ,z8l,z0j,g0,s0,B_pl,B_any,z2y,B_tup,B_lv,B_lvs,B_sl1,B_osl,B_ptr,z8m,B_sl0,zgw,B_mid,B_rp2,List.take_left,u0,List.length_append,List.append_assoc,Nat.le_add_right,wrap_succ (show i≤100000 by omega),p1,p2,p3,p4,p5,p6,p7]
      exact hQ
    · rw[hb,if_pos rfl]at y0;have n0:=hJ ⟨n,by omega,y0⟩ (Nat.lt_succ_self n)
      simp only at n0;simp -implicitDefEqProofs only[mkE,go_sem,d0,e1,z0j,z0e hi,z0e hn,hx,m0,hb];exact n0
 · intro Q;have k0:¬L.length<L.length:=Nat.lt_irrefl _;have hdr:z2m (setL L):=fun x hx=>hd x (zak L x hx)
   rw[List.take_length];simp -implicitDefEqProofs only[mkE,go_sem,z0j,z3g k0,z3h k0];refine CO.intro (zcL σ (setL L) hdr (by rw[z7n];omega)) ?_
   unfold setV;cases hs:z3A (setL L)
   · simp -implicitDefEqProofs only[go_sem];exact Fini.ret rfl
   · simp -implicitDefEqProofs only[go_sem];exact Fini.ret rfl
end
theorem zao {n m:Nat} {x:AV} (h:Bel n x) (hle:n≤m):Bel m x:=by
 induction h with
 |any=>exact .any
 |pl v=>exact .pl v
 |nils=>exact .nils
 |sl sz xs _ ih=>exact .sl sz xs ih
 |rp cs _ ih=>exact .rp cs ih
 |ptr l off h=>exact .ptr l off (by omega)
 |osl l k h=>exact .osl l k (by omega)
 |ep l k i off h=>exact .ep l k i off (by omega)
 |psl l off k h=>exact .psl l off k (by omega)
 |zsl=>exact .zsl
 |win sz l k lo h=>exact .win sz l k lo (by omega)
 |agg cs _ ih=>exact .agg cs ih
 |tup cs _ ih=>exact .tup cs ih
 |fn f fs cs _ _ ih ih'=>exact .fn f fs cs ih ih'
theorem z8n {n m:Nat} {o:Ob} (h:BelO n o) (hle:n≤m):BelO m o:=by
 cases o with
 |dead=>trivial
 |glo=>trivial
 |box cs=>exact fun c hc=>zao (h c hc) hle
 |row sz xs=>exact fun c hc=>zao (h c hc) hle
def labOf (n:Int):Lab:=(nameOf (emodW n 0 4),valueOf (emodW (IntKind.i64.wrap (n.tdiv 5)) 0 6))
def z1F (out:List Lab) (n:Int):List Lab:=if(getL out (labOf n).1).toList==(⟨#[]⟩:ByteArray).toList then out++[labOf n] else out
def labs0 (ns:List Int):List Lab:=(ns.take 5).foldl z1F []
def labs (ns:List Int):List Lab:=if(labs0 ns).length=0 then[(⟨#[115,101,118]⟩,⟨#[97]⟩)] else labs0 ns
theorem z9w (out:List Lab) (n:Int):(z1F out n).length≤out.length+1:=by
 unfold z1F;split<;>simp
theorem z5K (l:List Int):∀acc:List Lab,(l.foldl z1F acc).length≤acc.length+l.length:=by
 induction l with
 |nil=>intro acc;exact Nat.le_refl _
 |cons n l ih =>
  intro acc;have h1:=ih (z1F acc n);have h2:=z9w acc n;rw[List.foldl_cons,List.length_cons];omega
theorem z9x (n:Int):(labOf n).1∈names∧(labOf n).2∈values:=⟨z6K _,z5G _⟩
theorem z44 (l:List Int):∀acc:List Lab,z2m acc→z2m (l.foldl z1F acc):=by
 induction l with
 |nil=>intro acc h;exact h
 |cons n l ih =>
  intro acc h;refine ih _ ?_;unfold z1F;split
  · intro x hx;rcases List.mem_append.1 hx with hx|hx
    · exact h x hx
    · simp only[List.mem_cons,List.not_mem_nil,or_false]at hx;subst hx;exact z9x n
  · exact h
theorem z8o (ns:List Int):(labs0 ns).length≤5:=by
 have:=z5K (ns.take 5) [];simp at this;unfold labs0;omega
theorem zf3 (ns:List Int):(labs ns).length≤5:=by
 unfold labs;split
 · decide
 · exact z8o ns
theorem zbw (ns:List Int):z2m (labs ns):=by
 unfold labs;split
 · intro x hx;simp only[List.mem_cons,List.not_mem_nil,or_false]at hx;subst hx;exact⟨by simp[names],by simp[values]⟩
 · exact z44 _ [] (fun x hx=>by cases hx)
theorem zgx (n:Nat) (ns:List Int):Bel n (.sl 1 (ns.map I))=True:=eq_true (.sl 1 _ fun i hi=>by
 have:∀y∈ns.map I,Bel n y:=by
  intro y hy;simp only[List.mem_map]at hy;obtain⟨x,_,rfl⟩:=hy;exact .pl _
 exact this _ (List.getElem_mem hi))
theorem B_rp1 (n:Nat) (v:Value):Bel n (.rp [.pl v])=True:=eq_true (.rp _ fun i hi=>by
 have:∀y∈[AV.pl v],Bel n y:=by
  intro y hy;simp only[List.mem_cons,List.not_mem_nil,or_false]at hy;subst hy;exact .pl _
 exact this _ (List.getElem_mem hi))
section
variable (σ:St)
theorem g1 (x y:Ob) (ex:St):(σ++x::y::ex)[σ.length+1]?=some y:=by rw[List.getElem?_append_right (by simp)];simp
theorem s1 (x y z:Ob) (ex:St):(σ++x::y::ex).set (σ.length+1) z=σ++x::z::ex:=by rw[List.set_append_right _ _ (by simp)];simp
theorem take_one (x:Ob) (ex:St):(σ++x::ex).take (σ.length+1)=σ++[x]:=by
 have e:σ++x::ex=(σ++[x])++ex:=by simp
 have h:=List.take_left (l₁:=σ++[x]) (l₂:=ex);rw[e];simpa using h
theorem CO.intro' {P:Program} {n0:Nat} {k:List Fr} {B:Bs} {env:Env} {σ σ₀ σ':St} {f:FuncId} {args args₀:List AV} {d:Option Tmp} {l:List AOper} {r:AV} (h:Ans P f args₀ σ₀ r σ') (ha:args=args₀) (hs:σ=σ₀)
  (h':O P n0 l k B (putA env d r) σ'):CO P n0 f args d l k B env σ:=by subst ha;subst hs;exact CO.intro h h'
theorem z4l (n:Nat):((n:Int)==0)=(n==0):=by rw[Bool.eq_iff_iff];simp
theorem zf4 (L:List Lab) (a b:ByteArray):lvs L++[.agg [Sx a,Sx b]]=lvs (L++[(a,b)]):=by simp[lvs]
theorem zbx (ns:List Int):Ans Tryz.prog 90 [.sl 1 (ns.map I)] σ (setV (labs ns)) σ:=by
 refine Ans.of_run' t90 (fun j0 _=>?_)
 have e0:∀L:List Lab,(∀o∈σ++[.row 2 (lvs L)],BelO (σ.length+1) o)=True:=fun L=>eq_true (by
  intro o ho;rcases List.mem_append.1 ho with ho|ho
  · exact z8n (j0 o ho) (Nat.le_succ _)
  · simp only[List.mem_cons,List.not_mem_nil,or_false]at ho;subst ho;intro y hy;simp only[lvs,List.mem_map]at hy;obtain⟨x,_,rfl⟩:=hy
    exact zan _ x)
 simp -implicitDefEqProofs only[c90,r90,go_sem,List.append_assoc,List.length_append];have hm:∀i,i<(ns.take 5).length→i<ns.length∧i<5:=fun i hi=>by simp at hi;omega
 refine Go.Ab.L.count (ns.take 5).length (fun i=>mkE 54 [(0,.sl 1 (ns.map I)),(3,.osl σ.length (((ns.take 5).take i).foldl z1F []).length),(4,I i)])
  (fun i=>σ++[.row 2 (lvs (((ns.take 5).take i).foldl z1F []))]) ?_ ?_ rfl rfl
 · intro i hi Q hQ;obtain⟨f0,hi2⟩:=hm i hi;have l0:(ns.take 5)[i]=ns[i]:=by simp
   rw[List.take_succ_eq_append_getElem hi,List.foldl_append,List.foldl_cons,List.foldl_nil,l0]at hQ
   have d0:(((ns.take 5).take i).foldl z1F []).length≤5:=by
    have:=z5K ((ns.take 5).take i) [];simp at this;omega
   generalize ((ns.take 5).take i).foldl z1F []=out at hQ d0⊢;have q0:(ns.map I)[i]?=some (I ns[i]):=by simp[f0]
   generalize ns[i]=n at q0 hQ;have d5:decide ((i:Int)<5)=true:=by simp;omega
   have dl:decide ((i:Int)<(((ns.map I).length:Nat):Int))=true:=by simp;omega
   have m0:((i:Int)<(((ns.map I).length:Nat):Int))=True:=by simp;omega
   have AA:True:=trivial;simp -implicitDefEqProofs only[mkE,go_sem,z01,dl,m0,d5,q0,List.append_assoc,List.length_append];refine CS.intro (fun s=>z34 s n 0 4 (by omega) (by omega) (by omega)) ?_
   simp -implicitDefEqProofs only[go_sem,z01,m0,q0,List.append_assoc,List.length_append];refine CS.intro (fun s=>z5c s _) ?_
   simp -implicitDefEqProofs only[go_sem,z01,m0,q0,List.append_assoc,List.length_append];refine CS.intro (fun s=>z34 s _ 0 6 (by omega) (by omega) (by omega)) ?_
   simp -implicitDefEqProofs only[go_sem,z01,m0,q0,List.append_assoc,List.length_append];refine CS.intro (fun s=>z8g s _) ?_
   simp -implicitDefEqProofs only[go_sem,z01,m0,q0,List.append_assoc,List.length_append,g0,g1,s0,s1];refine CO.intro (z8j _ σ.length out (nameOf (emodW n 0 4)) (g0 σ _ _) (by omega)) ?_
   simp -implicitDefEqProofs only[go_sem];unfold z1F at hQ;have t0:(labOf n).1=nameOf (emodW n 0 4):=rfl;rw[t0]at hQ;cases hc:(getL out (nameOf (emodW n 0 4))).toList==(⟨#[]⟩:ByteArray).toList
   · rw[hc,if_neg Bool.false_ne_true]at hQ;simp -implicitDefEqProofs only[go_sem,g0,g1,s0,s1,B_pl,B_any,z2y,B_tup,B_lv,B_lvs,B_sl1,B_osl,B_ptr,z8m,B_sl0,zgx,B_rp1,take_one,e0,List.length_append,wrap_succ (show i≤100000 by omega)]
     exact⟨⟨by omega,by omega⟩,by omega,hQ⟩
   · rw[hc,if_pos rfl]at hQ;have p1:(out.length+1≤2^32)=True:=by simp;omega
     simp -implicitDefEqProofs only[go_sem,g0,g1,s0,s1,B_pl,B_any,z2y,B_tup,B_lv,B_lvs,B_sl1,B_osl,B_ptr,z8m,B_sl0,zgx,B_rp1,take_one,e0,List.length_append,z0j,p1,zf4,wrap_succ (show i≤100000 by omega)]
     rw[List.length_append]at hQ;exact⟨⟨by omega,by omega,by omega,z4O _ [labOf n],by omega⟩,by omega,hQ⟩
 · intro Q;have hlt:¬((ns.take 5).length<ns.length∧(ns.take 5).length<5):=by simp;omega
   rw[List.take_length];have d0:=z8o ns;have u1:labs0 ns=(ns.take 5).foldl z1F []:=rfl;rw[←u1];have u0:=z9v (σ++[.dead]) (labs ns) (zbw ns) (by have:=zf3 ns;omega)
   have y0:Bel σ.length (setV (labs ns)):=by
    unfold setV;split
    · exact z4O _ _
    · exact .nils
   have hex:(¬(ns.take 5).length<ns.length)∨((ns.take 5).length<ns.length∧(ns.take 5).length=5):=by simp;omega
   have n0:(((ns.map I).length:Nat):Int)=(ns.length:Nat):=by simp
   have o0:decide (((5:Nat):Int)<5)=false:=by decide
   rcases hex with hx|⟨hx,hx5⟩
   · simp -implicitDefEqProofs only[mkE,go_sem,n0,z3g hx,z3h hx];cases h0:((labs0 ns).length==0)
     · have k0:((((labs0 ns).length:Nat):Int)==0)=false:=by rw[←h0];exact z4l _
       have hl:labs ns=labs0 ns:=by unfold labs;rw[if_neg (by simpa using h0)]
       rw[hl]at u0 y0;simp -implicitDefEqProofs only[go_sem,k0,g0,s0,z0j];refine CO.intro u0 ?_;unfold setV at y0⊢;rw[hl];cases hs:z3A (setL (labs0 ns))
       all_goals rw[hs]at y0
       all_goals simp -implicitDefEqProofs only[go_sem]
       all_goals exact Fini.trim2 (σ':=σ) (ex:=[.dead]) rfl rfl (Nat.le_refl _) y0 j0
     · have k0:((((labs0 ns).length:Nat):Int)==0)=true:=by rw[←h0];exact z4l _
       have r0:labs0 ns=[]:=by simpa using h0
       have hl:labs ns=[(⟨#[115,101,118]⟩,⟨#[97]⟩)]:=by unfold labs;rw[if_pos (by simpa using h0)]
       have p1:(0+1≤2^32)=True:=by simp
       have p2:(1≤2^32)=True:=by simp
       rw[r0]at k0⊢;rw[hl]at u0 y0;have z0:(((0:Nat):Int)==0)=true:=rfl;simp -implicitDefEqProofs only[go_sem,z0,k0,g0,s0,z0j,p1,p2,z7p];refine CO.intro' u0 rfl rfl ?_;unfold setV at y0⊢;rw[hl];cases hs:z3A (setL [(⟨#[115,101,118]⟩,⟨#[97]⟩)])
       all_goals rw[hs]at y0
       all_goals simp -implicitDefEqProofs only[go_sem]
       all_goals exact Fini.trim2 (σ':=σ) (ex:=[.dead]) rfl rfl (Nat.le_refl _) y0 j0
   · rw[hx5]at hx⊢;simp -implicitDefEqProofs only[mkE,go_sem,n0,z0e hx,dec_lt hx,o0];cases h0:((labs0 ns).length==0)
     · have k0:((((labs0 ns).length:Nat):Int)==0)=false:=by rw[←h0];exact z4l _
       have hl:labs ns=labs0 ns:=by unfold labs;rw[if_neg (by simpa using h0)]
       rw[hl]at u0 y0;simp -implicitDefEqProofs only[go_sem,k0,g0,s0,z0j];refine CO.intro u0 ?_;unfold setV at y0⊢;rw[hl];cases hs:z3A (setL (labs0 ns))
       all_goals rw[hs]at y0
       all_goals simp -implicitDefEqProofs only[go_sem]
       all_goals exact Fini.trim2 (σ':=σ) (ex:=[.dead]) rfl rfl (Nat.le_refl _) y0 j0
     · have k0:((((labs0 ns).length:Nat):Int)==0)=true:=by rw[←h0];exact z4l _
       have r0:labs0 ns=[]:=by simpa using h0
       have hl:labs ns=[(⟨#[115,101,118]⟩,⟨#[97]⟩)]:=by unfold labs;rw[if_pos (by simpa using h0)]
       have p1:(0+1≤2^32)=True:=by simp
       have p2:(1≤2^32)=True:=by simp
       rw[r0]at k0⊢;rw[hl]at u0 y0;have z0:(((0:Nat):Int)==0)=true:=rfl;simp -implicitDefEqProofs only[go_sem,z0,k0,g0,s0,z0j,p1,p2,z7p];refine CO.intro' u0 rfl rfl ?_;unfold setV at y0⊢;rw[hl];cases hs:z3A (setL [(⟨#[115,101,118]⟩,⟨#[97]⟩)])
       all_goals rw[hs]at y0
       all_goals simp -implicitDefEqProofs only[go_sem]
       all_goals exact Fini.trim2 (σ':=σ) (ex:=[.dead]) rfl rfl (Nat.le_refl _) y0 j0
end
open Go.Cod
abbrev UN (n:Nat):AV:=.pl (.int .u64 n)
def bc (c:UInt8):AV:=.pl (.int .u8 c.toNat)
def byv (b:Byt):List AV:=b.map bc
theorem z05 (b:Byt):(byv b).length=b.length:=List.length_map ..
theorem zhs:byv []=[]:=rfl
theorem z5d (c:UInt8) (b:Byt):byv (c::b)=bc c::byv b:=rfl
theorem z0t (a b:Byt):byv (a++b)=byv a++byv b:=List.map_append ..
theorem z4m (b:Byt) (k:Nat):(byv b).take k=byv (b.take k):=by simp[byv]
theorem z5e (b:Byt) (k:Nat):(byv b).drop k=byv (b.drop k):=by simp[byv]
theorem z0q (b:Byt) (f:AV→Bool) (h:∀c:UInt8,f (bc c)=true):(byv b).all f=true:=by
 simp only[byv,List.all_map,List.all_eq_true];intro c _;exact h c
theorem zcR (b:Byt) (i:Nat) (h:i<b.length):(byv b)[i]?=some (bc b[i]):=by simp[byv,h]
theorem ziI (n:Nat) (c:UInt8):Bel n (bc c):=.pl _
theorem z1j (n:Nat) (b:Byt):Bel n (.sl 1 (byv b)):=.sl 1 _ fun i hi=>by
 have:(byv b)[i]=bc (b[i]'(by rw[←z05];exact hi)):=by simp[byv]
 rw[this];exact ziI n _
theorem z6N (s:ByteArray):z3C s=byv s.data.toList:=rfl
theorem zap (s:ByteArray):(s.data.toList.map fun b=>(AV.pl (.int .u8 b.toNat)))=byv s.data.toList:=rfl
theorem z1L:∀b:Byt,byteL (byv b)=some (b.map fun c=>(c.toNat:Int))
 |[]=>rfl
 |c::b=>by simp only[z5d,bc,byteL,z1L b,Option.map_some,List.map_cons]
theorem z1A (b:Byt):textOf (b.map fun c=>(c.toNat:Int))=⟨b.toArray⟩:=by
 unfold textOf;congr 2
 rw[List.map_map]
 conv=>rhs;rw[←List.map_id b]
 apply List.map_congr_left;intro c _;simp
theorem z1q {n:Nat} (h:n<18446744073709551616):IntKind.u64.wrap (n:Int)=(n:Int):=by
 simp only[IntKind.wrap,IntKind.bits,IntKind.signed];simp;omega
theorem z5L {n:Nat}:IntKind.u8.wrap (n:Int)=((n%256:Nat):Int):=by
 simp only[IntKind.wrap,IntKind.bits,IntKind.signed];simp
theorem or128:∀m:Fin 256,IntKind.u8.wrap ((BitVec.ofInt 8 (m.val:Int) ||| BitVec.ofInt 8 128).toNat:Int)=((m.val%128+128:Nat):Int):=by decide +kernel
theorem bc_of {n:Nat} (h:n<256):AV.pl (.int .u8 n)=bc n.toUInt8:=by
 rw[bc,toNat_toUInt8 h]
theorem row1 (σ:St) (x:Ob):(σ++[x])[σ.length]?=some x:=by simp
theorem shr7 (n:Nat):((n:Int).fdiv (2^min (7:Int).toNat 64))=((n/128:Nat):Int):=by
 have:(min (7:Int).toNat 64)=7:=rfl;rw[this];rw[Int.fdiv_eq_ediv_of_nonneg _ (by decide)]
 rfl
theorem zaq:∀(k n:Nat),n<128^(k+1)→(putN n).length≤k+1
 |0,n,h=>by rw[z2w (by simpa using h)];simp
 |k+1,n,h=>by
  by_cases h1:n<128
  · rw[z2w h1];simp
  · rw[z4L h1,List.length_cons];have:=zaq k (n/128) (Nat.div_lt_of_lt_mul (by rw[Nat.pow_succ,Nat.mul_comm]at h;exact h))
    omega
theorem z0n {n:Nat} (h:n<18446744073709551616):(putN n).length≤10:=zaq 9 n (Nat.lt_of_lt_of_le h (by decide))
theorem zcS (n:Nat):IntKind.u8.wrap ((BitVec.ofInt 8 (((n%256:Nat):Int)) ||| BitVec.ofInt 8 128).toNat:Int)=((n%128+128:Nat):Int):=by
 have:=or128 ⟨n%256,Nat.mod_lt _ (by decide)⟩
 simp only[show(n%256)%128=n%128 by omega]at this
 exact this
theorem u8_or (n:Nat):IntKind.u8.wrap ((BitVec.ofInt IntKind.u8.bits (((n%256:Nat):Int)) ||| BitVec.ofInt IntKind.u8.bits 128).toNat:Int)=((n%128+128:Nat):Int):=zcS n
theorem intle (a b:Nat):decide ((a:Int)≤(b:Int))=decide (a≤b):=by rw[Bool.eq_iff_iff];simp
theorem Fini.ret3 {n m:Nat} {rvs:List RV} {r r':AV} {σ σ':St} {env:Env} (h:resA env σ rvs=some r') (e:r'=r) (e':σ=σ'):Fini m rvs r σ' .ret env σ:=by
 subst e;subst e';exact Fini.ret h
section
variable (σ:St)
theorem z9y (n:Nat) (hn:n<18446744073709551616):Ans Tryz.prog 50 [UN n] σ (.osl σ.length (putN n).length) (σ++[.row 1 (byv (putN n))]):=by
 have y0:=z0n hn;refine Ans.of_run t50 ?_;simp -implicitDefEqProofs only[c50,r50,go_sem];refine Go.Ab.L.intro (α:={ p:Nat×Byt // p.1<18446744073709551616∧p.2++putN p.1=putN n }) (fun p=>p.1.1) (fun p=>mkE 19 [(0,UN p.1.1),(3,.osl σ.length p.1.2.length)]) (fun p=>σ++[.row 1 (byv p.1.2)]) ?_ ⟨(n,[]),hn,rfl⟩ rfl rfl
 rintro⟨⟨m,pre⟩,hm,hp⟩ J hJ;have hl:pre.length+(putN m).length≤10:=by rw[←List.length_append,hp];exact y0
 have hx:∀c:Int,(byv pre++[AV.pl (.int .u8 c)]).length=pre.length+1:=fun c=>by simp[z05]
 have d0:=intle 128 m;simp only[Int.cast_ofNat_Int]at d0;have hw:=z1q hm;have hle:pre.length+1≤2^32:=by omega
 by_cases h:m<128
 · have d1:decide ((128:Int)≤m)=false:=by simp;omega
   have d2:IntKind.u8.wrap (m:Int)=m:=by rw[z5L];congr 1;omega
   simp -implicitDefEqProofs only[mkE,go_sem,d1,row1,z05,List.length_singleton,hle,d2];refine Fini.ret3 (n:=0) rfl ?_ ?_
   · show AV.osl σ.length (pre.length+1)=AV.osl σ.length (putN n).length;rw[←hp,z2w h];simp
   · rw[List.set_append_right _ _ (Nat.le_refl _)];simp only[Nat.sub_self,List.set_cons_zero];rw[←hp,z0t,z2w h,bc_of (show m<256 by omega)]
     rfl
 · have d1:decide ((128:Int)≤m)=true:=by simp;omega
   simp -implicitDefEqProofs only[mkE,go_sem,d1,row1,z05,List.length_singleton,hle,z5L (n:=m),u8_or,zcS,shr7,z1q (show m/128<18446744073709551616 by omega)]
   rw[List.set_append_right _ _ (Nat.le_refl _)];simp only[Nat.sub_self,List.set_cons_zero]
   have u0:=hJ ⟨(m/128,pre++[(m%128+128).toUInt8]),by simp only;omega,by
    rw[←hp];simp only[List.append_assoc,List.singleton_append];rw[z4L h]⟩ (by simp only;omega)
   simp only[z0t,List.length_append,List.length_singleton]at u0
   have key:∀v:Int,v=((m%128+128:Nat):Int)→J (mkE 19 [(0,UN (m/128)),(3,.osl σ.length (pre.length+1))]) (σ++[Ob.row 1 (byv pre++[AV.pl (.int .u8 v)])]):=by
    rintro _ rfl;rw[bc_of (show m%128+128<256 by omega)]
    exact u0
   exact key _ (zcS m)
theorem z5M (s:ByteArray) (hs:s.size≤4294967280):Ans Tryz.prog 51 [Sx s] σ (.sl 1 (byv (txtB s))) σ:=by
 have h10:=z0n (n:=s.size) (by omega)
 have hsz:=z1k s;have hw:=z1q (n:=s.size) (by omega)
 have hle:(putN s.size).length+s.size≤2^32:=by omega
 refine Ans.of_run' t51 (fun u0 _=>?_)
 simp -implicitDefEqProofs only[c51,r51,go_sem,hw];refine CO.intro (z9y σ s.size (by omega)) ?_
 simp -implicitDefEqProofs only[go_sem,zap,row1,z05,hsz,hle];simp -implicitDefEqProofs only[go_sem,g0,s0,z05,hsz,←z0t,List.length_append];exact Fini.trim2 (σ':=σ) (by show _=some (AV.sl 1 (byv (txtB s)));rfl) rfl (Nat.le_refl _) (z1j _ _) u0
end
def getV (b:Byt):AV:=match getN 0 b with
 |some p=>.tup [UN p.1,I (b.length-p.2.length:Nat),Bo true]
 |none=>.tup [UN 0,I 0,Bo false]
theorem z4n {b:Byt} (h:getN 0 b=none):getV b=.tup [UN 0,I 0,Bo false]:=by unfold getV;rw[h]
theorem z5N {b:Byt} {n:Nat} {t:Byt} (h:getN 0 b=some (n,t)):getV b=.tup [UN n,I (b.length-t.length:Nat),Bo true]:=by unfold getV;rw[h]
theorem ziJ:∀m:Fin 256,IntKind.u8.wrap ((BitVec.ofInt 8 (m.val:Int) &&& BitVec.ofInt 8 127).toNat:Int)=((m.val%128:Nat):Int):=by decide +kernel
theorem u8_and (c:UInt8):IntKind.u8.wrap ((BitVec.ofInt IntKind.u8.bits (c.toNat:Int) &&& BitVec.ofInt IntKind.u8.bits 127).toNat:Int)=((c.toNat%128:Nat):Int):=ziJ ⟨c.toNat,c.toNat_lt⟩
theorem zgy (a d s:Nat) (ha:a<2^s) (hs:s<64) (hd:d*2^s<18446744073709551616) :
  IntKind.u64.wrap ((BitVec.ofInt IntKind.u64.bits (a:Int) ||| BitVec.ofInt IntKind.u64.bits (IntKind.u64.wrap ((d:Int)*2^min (((s:Nat):Int).toNat) IntKind.u64.bits))).toNat:Int)=((a+2^s*d:Nat):Int):=by
 have hm:min (((s:Nat):Int).toNat) IntKind.u64.bits=s:=by
  show min s 64=s;omega
 have u0:a<18446744073709551616:=Nat.lt_of_lt_of_le ha (by
  calc 2^s≤2^63:=Nat.pow_le_pow_right (by decide) (by omega)
   _≤18446744073709551616:=by decide)
 rw[hm];have e1:((d:Int)*2^s)=((d*2^s:Nat):Int):=by push_cast;rfl
 rw[e1,z1q hd]
 have e2:(BitVec.ofInt IntKind.u64.bits (a:Int) ||| BitVec.ofInt IntKind.u64.bits ((d*2^s:Nat):Int)).toNat=a+2^s*d:=by
  rw[BitVec.toNat_or]
  have f:∀n:Nat,n<18446744073709551616→(BitVec.ofInt IntKind.u64.bits (n:Int)).toNat=n:=fun n hn=>by
   rw[BitVec.ofInt_natCast,BitVec.toNat_ofNat];exact Nat.mod_eq_of_lt hn
  rw[f a u0,f _ hd,←Nat.shiftLeft_eq,Nat.or_comm,←Nat.shiftLeft_add_eq_or_of_lt ha,Nat.shiftLeft_eq,Nat.mul_comm,Nat.add_comm]
 rw[e2]
 have q0:a+2^s*d<18446744073709551616:=by
  by_cases h0:d=0
  · subst h0;simpa using u0
  · have j0:(18446744073709551616:Nat)=2^s*2^(64-s):=by rw[←Nat.pow_add,show s+(64-s)=64 by omega]
    have y0:d<2^(64-s):=by
     rw[j0,Nat.mul_comm]at hd;exact Nat.lt_of_mul_lt_mul_left hd
    have:2^s*(d+1)≤2^s*2^(64-s):=Nat.mul_le_mul_left _ y0;rw[Nat.mul_add,Nat.mul_one]at this;omega
 exact z1q q0
def orT (a:Nat) (c:UInt8) (s:Nat):Int:=IntKind.u64.wrap ((BitVec.ofInt 64 (a:Int) ||| BitVec.ofInt 64 (IntKind.u64.wrap (IntKind.u64.wrap (IntKind.u8.wrap ((BitVec.ofInt 8 (c.toNat:Int) &&& BitVec.ofInt 8 127).toNat:Int))*2^min s 64))).toNat:Int)
theorem ziK (a:Nat) (c:UInt8) (s:Nat) (ha:a<2^s) (hs:s<64) (hd:c.toNat%128*2^s<18446744073709551616):orT a c s=((a+2^s*(c.toNat%128):Nat):Int):=by
 have h1:=zgy a (c.toNat%128) s ha hs hd
 have h2:IntKind.u64.wrap (IntKind.u8.wrap ((BitVec.ofInt 8 (c.toNat:Int) &&& BitVec.ofInt 8 127).toNat:Int))=((c.toNat%128:Nat):Int):=by
  have:IntKind.u8.wrap ((BitVec.ofInt 8 (c.toNat:Int) &&& BitVec.ofInt 8 127).toNat:Int)=((c.toNat%128:Nat):Int):=u8_and c;rw[this];exact z1q (by omega)
 unfold orT;rw[h2];exact h1
theorem zcT {i:Nat} (h:i≤100):IntKind.i64.wrap (7*(i:Int))=((7*i:Nat):Int):=by rw[wrapN (by omega) (by omega)];push_cast;rfl
section
variable (σ:St)
theorem zar (b:Byt) (hb:b.length≤100000):Ans Tryz.prog 95 [.sl 1 (byv b)] σ (getV b) σ:=by
 refine Ans.of_run t95 ?_;simp -implicitDefEqProofs only[c95,r95,go_sem,z05]
 refine Go.Ab.L.intro (α:={ p:Nat×Nat // p.1≤b.length∧p.1≤9∧p.2<2^(7*p.1)∧getN 0 b=(getN p.1 (b.drop p.1)).map fun q=>(p.2+2^(7*p.1)*q.1,q.2) }) (fun p=>b.length-p.1.1)
  (fun p=>mkE 43 [(5,UN p.1.2),(8,.sl 1 (byv b)),(9,I b.length),(10,I p.1.1)]) (fun _=>σ) ?_ ⟨(0,0),Nat.zero_le _,Nat.zero_le _,by simp,by cases h:getN 0 b<;>simp[h]⟩ rfl rfl
 rintro⟨⟨i,a⟩,hi,h9,ha,hg⟩ J hJ;simp only at hi h9 ha hg hJ;by_cases hlt:i<b.length
 · have hx:=zcR b i hlt;have hdr:b.drop i=b[i]::b.drop (i+1):=List.drop_eq_getElem_cons hlt;rw[hdr]at hg;have h0:=(b[i]).toNat_lt;generalize hc:b[i]=c at hx hg h0;have u0:((i:Int)==9)=decide (i=9):=by rw[Bool.eq_iff_iff];simp;omega
   have q0:decide ((1:Int)<c.toNat)=decide (1<c.toNat):=by rw[Bool.eq_iff_iff];simp;omega
   have j0:decide ((0:Int)<i)=decide (0<i):=by rw[Bool.eq_iff_iff];simp
   have y0:((c.toNat:Int)==0)=decide (c.toNat=0):=by rw[Bool.eq_iff_iff];simp
   have m0:decide ((c.toNat:Int)<128)=decide (c.toNat<128):=by rw[Bool.eq_iff_iff];simp;omega
   simp only[getN]at hg;by_cases hbad:(i=9∧1<c.toNat)∨(0<i∧c.toNat=0)
   · rw[if_pos hbad]at hg;simp only[Option.map_none]at hg;rw[z4n hg];rcases hbad with⟨h1,h2⟩|⟨h1,h2⟩
     · simp -implicitDefEqProofs only[mkE,go_sem,z05,z0e hlt,dec_lt hlt,hx,bc,u0,q0,decide_eq_true h1,decide_eq_true h2];exact Fini.ret rfl
     · by_cases h3:i=9
       · have h4:decide (1<c.toNat)=false:=decide_eq_false (by omega)
         simp -implicitDefEqProofs only[mkE,go_sem,z05,z0e hlt,dec_lt hlt,hx,bc,u0,q0,j0,y0,decide_eq_true h1,decide_eq_true h2,decide_eq_true h3,h4];exact Fini.ret rfl
       · simp -implicitDefEqProofs only[mkE,go_sem,z05,z0e hlt,dec_lt hlt,hx,bc,u0,q0,j0,y0,decide_eq_true h1,decide_eq_true h2,decide_eq_false h3];exact Fini.ret rfl
   · rw[if_neg hbad]at hg;have hs:7*i<64:=by omega
     have hd:c.toNat%128*2^(7*i)<18446744073709551616:=by
      by_cases h3:i=9
      · subst h3;have:c.toNat≤1:=by omega
        have:c.toNat%128≤1:=by omega
        calc c.toNat%128*2^(7*9)≤1*2^63:=Nat.mul_le_mul_right _ this
         _<18446744073709551616:=by decide
      · have h4:c.toNat%128<2^7:=Nat.mod_lt _ (by decide)
        calc c.toNat%128*2^(7*i)<2^7*2^(7*i):=Nat.mul_lt_mul_of_pos_right h4 (Nat.two_pow_pos _)
         _=2^(7+7*i):=by rw[Nat.pow_add]
         _≤2^63:=Nat.pow_le_pow_right (by decide) (by omega)
         _<18446744073709551616:=by decide
     have t0:=ziK a c (7*i) ha hs hd;have r0:=wrap_succ (i:=i) (by omega)
     have h7:=zcT (i:=i) (by omega)
     have go:∀(P:Prop),(decide (i=9)=true→decide (1<c.toNat)=false→P)→(decide (i=9)=false→P)→P:=fun P p q=>by
      by_cases h3:i=9
      · exact p (decide_eq_true h3) (decide_eq_false (by omega))
      · exact q (decide_eq_false h3)
     have d0:∀(P:Prop),(decide (0<i)=true→decide (c.toNat=0)=false→P)→(decide (0<i)=false→P)→P:=fun P p q=>by
      by_cases h3:0<i
      · exact p (decide_eq_true h3) (decide_eq_false (by omega))
      · exact q (decide_eq_false h3)
     by_cases hend:c.toNat<128
     · have k0:=decide_eq_true hend;rw[if_pos hend]at hg;simp only[Option.map_some]at hg;rw[z5N hg];have e0:c.toNat%128=c.toNat:=Nat.mod_eq_of_lt hend
       have n0:∀v:Int,v=((a+2^(7*i)*(c.toNat%128):Nat):Int)→(.tup [.pl (.int .u64 v),I ((i+1:Nat):Int),Bo true]:AV)=.tup [UN (a+2^(7*i)*c.toNat),I (b.length-(b.drop (i+1)).length:Nat),Bo true]:=by
        rintro _ rfl;rw[e0,List.length_drop,show b.length-(b.length-(i+1))=i+1 by omega]
       refine go _ (fun x1 x2=>d0 _ (fun y1 y2=>?_) fun y1=>?_) fun x1=>d0 _ (fun y1 y2=>?_) fun y1=>?_
       · simp -implicitDefEqProofs only[mkE,go_sem,z05,z0e hlt,dec_lt hlt,hx,bc,u0,q0,j0,y0,x1,x2,y1,y2,h7,m0,k0,r0];exact Fini.ret' rfl (n0 _ t0)
       · simp -implicitDefEqProofs only[mkE,go_sem,z05,z0e hlt,dec_lt hlt,hx,bc,u0,q0,j0,y0,x1,x2,y1,h7,m0,k0,r0];exact Fini.ret' rfl (n0 _ t0)
       · simp -implicitDefEqProofs only[mkE,go_sem,z05,z0e hlt,dec_lt hlt,hx,bc,u0,q0,j0,y0,x1,y1,y2,h7,m0,k0,r0];exact Fini.ret' rfl (n0 _ t0)
       · simp -implicitDefEqProofs only[mkE,go_sem,z05,z0e hlt,dec_lt hlt,hx,bc,u0,q0,j0,y0,x1,y1,h7,m0,k0,r0];exact Fini.ret' rfl (n0 _ t0)
     · have k0:=decide_eq_false hend;rw[if_neg hend]at hg
       have hi9:i<9:=by
        rcases Nat.lt_or_eq_of_le h9 with h|h
        · exact h
        · omega
       have f0:=hJ ⟨(i+1,a+2^(7*i)*(c.toNat%128)),by simp only;omega,by simp only;omega,(by
        simp only;have e1:2^(7*(i+1))=2^(7*i)*128:=by rw[Nat.mul_add,Nat.pow_add]
        have:c.toNat%128<128:=Nat.mod_lt _ (by decide)
        have:2^(7*i)*(c.toNat%128+1)≤2^(7*i)*128:=Nat.mul_le_mul_left _ this;rw[Nat.mul_add,Nat.mul_one]at this
        omega),(by
        simp only;rw[hg];have hm:c.toNat%128=c.toNat-128:=by omega
        cases getN (i+1) (b.drop (i+1)) with
        |none=>rfl
        |some q =>
         simp only[Option.map_some,Option.some.injEq,Prod.mk.injEq,and_true]
         rw[hm,show 7*(i+1)=7*i+7 by omega,Nat.pow_add,Nat.mul_add,Nat.add_assoc,←Nat.mul_assoc])⟩ (by simp only;omega)
       have key:∀v:Int,v=((a+2^(7*i)*(c.toNat%128):Nat):Int)→J (mkE 43 [(5,.pl (.int .u64 v)),(8,.sl 1 (byv b)),(9,I b.length),(10,I ((i+1:Nat):Int))]) σ:=by
        rintro _ rfl;exact f0
       refine go _ (fun x1 x2=>d0 _ (fun y1 y2=>?_) fun y1=>?_) fun x1=>d0 _ (fun y1 y2=>?_) fun y1=>?_
       · simp -implicitDefEqProofs only[mkE,go_sem,z05,z0e hlt,dec_lt hlt,hx,bc,u0,q0,j0,y0,x1,x2,y1,y2,h7,m0,k0,r0];exact key _ t0
       · simp -implicitDefEqProofs only[mkE,go_sem,z05,z0e hlt,dec_lt hlt,hx,bc,u0,q0,j0,y0,x1,x2,y1,h7,m0,k0,r0];exact key _ t0
       · simp -implicitDefEqProofs only[mkE,go_sem,z05,z0e hlt,dec_lt hlt,hx,bc,u0,q0,j0,y0,x1,y1,y2,h7,m0,k0,r0];exact key _ t0
       · simp -implicitDefEqProofs only[mkE,go_sem,z05,z0e hlt,dec_lt hlt,hx,bc,u0,q0,j0,y0,x1,y1,h7,m0,k0,r0];exact key _ t0
 · have hn:b.drop i=[]:=List.drop_eq_nil_of_le (by omega)
   rw[hn]at hg;simp only[getN,Option.map_none]at hg;rw[z4n hg];simp -implicitDefEqProofs only[mkE,go_sem,z05,z3g hlt,z3h hlt];exact Fini.ret rfl
end
def textV (most:Nat) (b:Byt):AV:=match textR most b with
 |some p=>.tup [Sx p.1,I (b.length-p.2.length:Nat),Bo true]
 |none=>.tup [Sx ⟨#[]⟩,I 0,Bo false]
theorem z3O {most:Nat} {b:Byt} (h:textR most b=none):textV most b=.tup [Sx ⟨#[]⟩,I 0,Bo false]:=by unfold textV;rw[h]
theorem z6O {most:Nat} {b:Byt} {s:ByteArray} {t:Byt} (h:textR most b=some (s,t)):textV most b=.tup [Sx s,I (b.length-t.length:Nat),Bo true]:=by unfold textV;rw[h]
theorem zby {most:Nat} {b:Byt} (h:getN 0 b=none):textR most b=none:=by simp only[textR,numR,h,Option.bind_none]
theorem zf6 {most:Nat} {b:Byt} {n:Nat} {t:Byt} (h:getN 0 b=some (n,t)):textR most b=if n≤most∧n≤t.length then some (⟨(t.take n).toArray⟩,t.drop n) else none:=by
 simp only[textR,numR,h,Option.bind_some];by_cases h1:n≤most
 · simp only[h1,if_true,Option.bind_some,true_and]
 · simp only[h1,if_false,Option.bind_none,false_and]
theorem decNN (a b:Nat):decide ((a:Int)<(b:Int))=decide (a<b):=by rw[Bool.eq_iff_iff];simp
theorem subN {a b:Nat} (h:b≤a) (ha:a≤100000):IntKind.i64.wrap ((a:Int)-(b:Int))=((a-b:Nat):Int):=by rw[wrapN (by omega) (by omega)];omega
theorem addN {a b:Nat} (h:a+b≤100000):IntKind.i64.wrap ((a:Int)+(b:Int))=((a+b:Nat):Int):=by rw[wrapN (by omega) (by omega)];omega
theorem wrapI {a:Nat} (h:a<9223372036854775808):IntKind.i64.wrap (a:Int)=(a:Int):=wrapN (by omega) (by omega)
section
variable (σ:St)
theorem z9z (b:Byt) (most:Nat) (hb:b.length≤100000) (hm:most<9223372036854775808):Ans Tryz.prog 99 [.sl 1 (byv b),I most] σ (textV most b) σ:=by
 refine Ans.of_run t99 ?_;simp -implicitDefEqProofs only[c99,r99,go_sem];refine CO.intro (zar σ b hb) ?_;have y0:decide ((most:Int)<0)=false:=by simp
 have k0:=z1q (n:=most) (by omega)
 cases hg:getN 0 b with
 |none =>
  rw[z4n hg,z3O (zby hg)];simp -implicitDefEqProofs only[go_sem];exact Fini.ret rfl
 |some p =>
  obtain⟨n,t⟩:=p;obtain⟨n0,hn,_⟩:=z7l b 0 n t (by omega) hg
  have hn:n<18446744073709551616:=hn;have hlen:b.length=(putN n).length+t.length:=by rw[n0,List.length_append]
  have hk:b.length-t.length=(putN n).length:=by omega
  have q0:=subN (a:=b.length) (b:=(putN n).length) (by omega) hb
  have u0:b.length-(putN n).length=t.length:=by omega
  have r0:=z1q (n:=t.length) (by omega)
  have e1:decide ((most:Int)<n)=decide (most<n):=decNN most n;have e2:decide ((t.length:Int)<n)=decide (t.length<n):=decNN _ n;rw[z5N hg,hk];have hR:=zf6 (most:=most) hg;by_cases h1:n≤most
  · have x1:decide (most<n)=false:=decide_eq_false (by omega)
    by_cases h2:n≤t.length
    · have x2:decide (t.length<n)=false:=decide_eq_false (by omega)
      rw[if_pos ⟨h1,h2⟩]at hR;have t0:=wrapI (a:=n) (by omega)
      have j0:=addN (a:=(putN n).length) (b:=n) (by omega)
      have e0:((putN n).length:Int)≤((putN n).length+n:Nat):=by omega
      have d0:(((putN n).length+n:Nat):Int)≤(b.length:Nat):=by omega
      have m0:(b.take ((putN n).length+n)).drop (putN n).length=t.take n:=by
       rw[n0,List.take_append,List.take_of_length_le (by omega),Nat.add_sub_cancel_left,List.drop_left]
      rw[z6O hR];simp -implicitDefEqProofs only[go_sem,y0,k0,e1,x1,q0,u0,r0,e2,x2,t0,j0,z05,e0,d0,AV.isStr,z4m,z5e,m0,z0q,bc,z1L,z1A];refine Fini.ret' rfl ?_;rw[List.length_drop];have:b.length-(t.length-n)=(putN n).length+n:=by omega
      rw[this];rfl
    · have x2:decide (t.length<n)=true:=decide_eq_true (by omega)
      rw[if_neg (by omega)]at hR
      rw[z3O hR];simp -implicitDefEqProofs only[go_sem,y0,k0,e1,x1,z05,q0,u0,r0,e2,x2];exact Fini.ret rfl
  · have x1:decide (most<n)=true:=decide_eq_true (by omega)
    rw[if_neg (by omega)]at hR
    rw[z3O hR];simp -implicitDefEqProofs only[go_sem,y0,k0,e1,x1];exact Fini.ret rfl
end
abbrev rob (b:Byt) (q:Nat×Bool):Ob:=.box [.sl 1 (byv b),I q.1,Bo q.2]
theorem z5Q {σ:St} {p:Nat} {o:Ob} (h:σ[p]?=some o) (x:Ob):(σ.set p x)[p]?=some x:=by
 have:=(List.getElem?_eq_some_iff.1 h).1;simp[this]
section
variable (σ:St) (p:Nat) (b:Byt) (q:Nat×Bool)
theorem new_ans:Ans Tryz.prog 59 [.sl 1 (byv b)] σ (.ptr σ.length 0) (σ++[rob b (0,false)]):=by
 refine Ans.of_run t59 ?_;simp -implicitDefEqProofs only[c59,r59,go_sem];exact Fini.ret rfl
theorem z18 (h:σ[p]?=some (rob b q)) (hq:q.1≤b.length):Ans Tryz.prog 96 [.ptr p 0] σ (.sl 1 (byv (b.drop q.1))) σ:=by
 have h1:(q.1:Int)≤(b.length:Nat):=by omega
 refine Ans.of_run t96 ?_;simp -implicitDefEqProofs only[c96,r96,go_sem,h,z05,h1,z4m,z5e,List.take_length,Int.le_refl];exact Fini.ret rfl
theorem z19 (n:Nat) (ok:Bool) (h:σ[p]?=some (rob b q)) (hn:q.1+n≤100000):Ans Tryz.prog 97 [.ptr p 0,I n,Bo ok] σ (Bo !(took q n ok).2) (σ.set p (rob b (took q n ok))):=by
 obtain⟨a,bad⟩:=q;have h9:∀x,(σ.set p x)[p]?=some x:=z5Q h;have u0:=addN (a:=a) (b:=n) hn;unfold took;refine Ans.of_run t97 ?_
 cases bad with
 |true =>
  simp -implicitDefEqProofs only[c97,r97,go_sem,h,h9];exact Fini.ret rfl
 |false =>
  cases ok with
  |true =>
   simp -implicitDefEqProofs only[c97,r97,go_sem,h,h9,u0,List.set_set];exact Fini.ret rfl
  |false =>
   simp -implicitDefEqProofs only[c97,r97,go_sem,h,h9];exact Fini.ret rfl
end
end Go.Proofs.YteakobbdgehlgaaGreatDoor
