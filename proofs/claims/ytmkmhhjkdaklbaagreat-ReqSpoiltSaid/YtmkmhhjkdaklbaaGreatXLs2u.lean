/- What stands in brackets, as the document reads it. No condition. -/
import Derived.Test.YtmkmhhjkdaklbaaGreatXPDoc1u
import Derived.Test.YtmkmhhjkdaklbaaGreatXPPar4u
import Derived.Test.YtmkmhhjkdaklbaaGreatXMDr1u
set_option linter.unusedSimpArgs false
set_option linter.unusedVariables false
set_option linter.unusedSectionVars false
namespace Go.Proofs.YtmkmhhjkdaklbaaGreat
open Go Go.Ab
set_option maxRecDepth 100000
open Rex
def dTo (s:ByteArray) (a:Nat):Nat×Nat×Bool :=
 if sees s (z0p s a).2.1 (z0p s a).2.2 45 then z0p s ((z0p s a).2.1+1) else z0p s a
def dBad (s:ByteArray) (a:Nat):Bool:=(dTo s a).2.2||decide ((dTo s a).1<(z0p s a).1)
def dGo (s:ByteArray) (a:Nat) (b:Bool):Bool:=!over s a b&& !sees s a b 93
def z0W (s:ByteArray):Nat→List Int→Nat→Bool→Nat→List Int×Nat×Bool×Nat
 |0,S,a,b,n=>(S,a,b,n)
 |k+1,S,a,b,n=>if dGo s a b then
   z0W s k (addR S (z0p s a).1 ((dTo s a).1+1-(z0p s a).1)) (dTo s a).2.1 (dBad s a) (n+1)
  else(S,a,b,n)
def zeroR:Rex:=.mk 0 0 0 0 0 []
def dOut (s:ByteArray) (neg:Bool) (l:List Int×Nat×Bool×Nat):Rex×Nat×Bool :=
 if over s l.2.1 l.2.2.1||l.2.2.2==0 then(zeroR,l.2.1,true)
 else(ofSet (if neg then turnS l.1 else l.1),l.2.1+1,false)
def z1S (s:ByteArray) (a:Nat):Rex×Nat×Bool :=
 dOut s (sees s a false 94) (z0W s (s.size+3) z4 (nextA s a false 94) false 0)
def c55c:List Tmp:=[1,6,7,8,9,10,11,12,13,14,15,16,17,18,19,20,21,22,23,24,25,26,27,28,29,30,31,32,33,34,35,36,37,38,39,40,41,42,43,44,45,46,47,48,49,50,51,52,53,54,55,56,57,58,59,60,61,62,63,64,65,66,67,68,69,70,71,72,73,74,75,76,77,78,79,80,81,82,83,84,85,86,87,88,89,90,91,92,93,94,95,96,97,98,99,100,101,102,103,104,105,106,107,108,109,110,111,112,113,114,115,116,117,118,119,120,121,122,123,124,125,126,127,128]
def c55x:ACode :=
 (.seq (.seq (.draw [⟨⟨some 32,none,.prim (.mov (.tmp 0))⟩,[],false,0,0⟩,
   ⟨⟨some 33,none,.call (.func 190) [(.tmp 32)]⟩,[0],true,0,0⟩,
   ⟨⟨some 34,none,.prim (.mov (.tmp 33))⟩,[0,1],false,1,1⟩,
   ⟨⟨some 35,(some (34,true)),.prim (.mov (.tmp 0))⟩,[0,1,2],false,1,1⟩,
   ⟨⟨some 36,(some (34,true)),.prim (.nilc (.tmp 35))⟩,[0,1,2,3],false,1,1⟩,
   ⟨⟨some 37,(some (34,true)),.prim (.fadr 0 (.tmp 36))⟩,[0,1,2,3,4],false,1,1⟩,
   ⟨⟨some 38,(some (34,true)),.prim (.load 1 false (.tmp 37))⟩,(List.range 6),false,1,1⟩,
   ⟨⟨some 39,(some (34,true)),.prim (.mov (.tmp 0))⟩,[0,1,2],false,1,1⟩,
   ⟨⟨some 40,(some (34,true)),.prim (.nilc (.tmp 39))⟩,[0,1,2,7],false,1,1⟩,
   ⟨⟨some 41,(some (34,true)),.prim (.fadr 1 (.tmp 40))⟩,[0,1,2,7,8],false,1,1⟩,
   ⟨⟨some 42,(some (34,true)),.prim (.load 1 false (.tmp 41))⟩,[0,1,2,7,8,9],false,1,1⟩,
   ⟨⟨some 43,(some (34,true)),.prim (.idxs (.tmp 38) (.tmp 42))⟩,(List.range 11),false,1,1⟩,
   ⟨⟨some 44,(some (34,true)),.prim (.bin false .neq (.tmp 43) (.const (Go.Value.int Go.IntKind.u8 93)))⟩,(List.range 12),false,1,1⟩,
   ⟨⟨some 45,none,.prim (.pick (.tmp 34) (.tmp 44) (.const (Go.Value.bool Bool.false)))⟩,(List.range 13),false,1,1⟩])
  (.cond (.tmp 45)
  .skip
  (.exit 0)))
  (.block 1 (.seq (.ops [⟨some 46,none,.prim (.mov (.tmp 0))⟩,
   ⟨some 47,none,.call (.func 224) [(.tmp 46)]⟩,
   ⟨some 6,none,.prim (.mov (.tmp 47))⟩])
  (.seq (.ops [⟨some 48,none,.prim (.mov (.tmp 6))⟩,
   ⟨some 7,none,.prim (.mov (.tmp 48))⟩])
  (.seq (.seq (.draw [⟨⟨some 49,none,.prim (.mov (.tmp 0))⟩,[],false,0,0⟩,
   ⟨⟨some 50,none,.call (.func 190) [(.tmp 49)]⟩,[0],true,0,0⟩,
   ⟨⟨some 51,none,.prim (.mov (.tmp 50))⟩,[0,1],false,1,1⟩,
   ⟨⟨some 52,(some (51,true)),.prim (.mov (.tmp 0))⟩,[0,1,2],false,1,1⟩,
   ⟨⟨some 53,(some (51,true)),.prim (.nilc (.tmp 52))⟩,[0,1,2,3],false,1,1⟩,
   ⟨⟨some 54,(some (51,true)),.prim (.fadr 0 (.tmp 53))⟩,[0,1,2,3,4],false,1,1⟩,
   ⟨⟨some 55,(some (51,true)),.prim (.load 1 false (.tmp 54))⟩,(List.range 6),false,1,1⟩,
   ⟨⟨some 56,(some (51,true)),.prim (.mov (.tmp 0))⟩,[0,1,2],false,1,1⟩,
   ⟨⟨some 57,(some (51,true)),.prim (.nilc (.tmp 56))⟩,[0,1,2,7],false,1,1⟩,
   ⟨⟨some 58,(some (51,true)),.prim (.fadr 1 (.tmp 57))⟩,[0,1,2,7,8],false,1,1⟩,
   ⟨⟨some 59,(some (51,true)),.prim (.load 1 false (.tmp 58))⟩,[0,1,2,7,8,9],false,1,1⟩,
   ⟨⟨some 60,(some (51,true)),.prim (.idxs (.tmp 55) (.tmp 59))⟩,(List.range 11),false,1,1⟩,
   ⟨⟨some 61,(some (51,true)),.prim (.bin false .eql (.tmp 60) (.const (Go.Value.int Go.IntKind.u8 45)))⟩,(List.range 12),false,1,1⟩,
   ⟨⟨some 62,none,.prim (.pick (.tmp 51) (.tmp 61) (.const (Go.Value.bool Bool.false)))⟩,(List.range 13),false,1,1⟩])
  (.cond (.tmp 62)
  (.seq (.ops [⟨some 63,none,.prim (.mov (.tmp 0))⟩,
   ⟨some 64,none,.prim (.nilc (.tmp 63))⟩,
   ⟨some 65,none,.prim (.fadr 1 (.tmp 64))⟩,
   ⟨some 66,none,.prim (.load 1 false (.tmp 65))⟩,
   ⟨some 67,none,.prim (.bin false .add (.tmp 66) (.const (Go.Value.int Go.IntKind.i64 1)))⟩,
   ⟨some 68,none,.prim (.nilc (.tmp 63))⟩,
   ⟨some 69,none,.prim (.fadr 1 (.tmp 68))⟩,
   ⟨none,none,.prim (.store 1 (.tmp 69) (.tmp 67))⟩])
  (.ops [⟨some 70,none,.prim (.mov (.tmp 0))⟩,
   ⟨some 71,none,.call (.func 224) [(.tmp 70)]⟩,
   ⟨some 7,none,.prim (.mov (.tmp 71))⟩]))
  .skip))
  (.seq (.seq (.ops [⟨some 72,none,.prim (.mov (.tmp 7))⟩,
   ⟨some 73,none,.prim (.mov (.tmp 6))⟩,
   ⟨some 74,none,.prim (.bin false .lss (.tmp 72) (.tmp 73))⟩])
  (.cond (.tmp 74)
  (.ops [⟨some 75,none,.prim (.mov (.tmp 0))⟩,
   ⟨some 76,none,.call (.func 217) [(.tmp 75)]⟩])
  .skip))
  (.seq (.seq (.ops [⟨some 77,none,.prim (.mov (.tmp 6))⟩,
   ⟨some 78,none,.prim (.convi .i64 (.tmp 77))⟩,
   ⟨some 8,none,.prim (.mov (.tmp 78))⟩])
  (.block 2 (.loop [1,6,9,10,11,12,13,14,15,16,17,18,19,20,21,22,23,24,25,26,27,28,29,30,31,32,33,34,35,36,37,38,39,40,41,42,43,44,45,46,47,48,49,50,51,52,53,54,55,56,57,58,59,60,61,62,63,64,65,66,67,68,69,70,71,72,73,74,75,76,77,78,79,80,81,82,83,84,85,86,87,88,89,90,91,92,93,94,95,96,97,98,99,100,101,102,103,104,105,106,107,108,109,110,111,112,113,114,115,116,117,118,119,120,121,122,123,124,125,126,127,128] (.seq (.seq (.ops [⟨some 79,none,.prim (.mov (.tmp 8))⟩,
   ⟨some 80,none,.prim (.mov (.tmp 7))⟩,
   ⟨some 81,none,.prim (.convi .i64 (.tmp 80))⟩,
   ⟨some 82,none,.prim (.bin false .leq (.tmp 79) (.tmp 81))⟩])
  (.cond (.tmp 82)
  .skip
  (.exit 2)))
  (.seq (.block 3 (.ops [⟨some 85,none,.prim (.mov (.tmp 8))⟩,
   ⟨some 86,none,.prim (.bin false .quo (.tmp 85) (.const (Go.Value.int Go.IntKind.i64 64)))⟩,
   ⟨some 87,none,.prim (.mov (.tmp 8))⟩,
   ⟨some 88,none,.prim (.bin false .quo (.tmp 87) (.const (Go.Value.int Go.IntKind.i64 64)))⟩,
   ⟨some 89,none,.prim (.iadra 1 4 (.tmp 4) (.tmp 88))⟩,
   ⟨some 90,none,.prim (.load 1 false (.tmp 89))⟩,
   ⟨some 91,none,.prim (.mov (.tmp 8))⟩,
   ⟨some 92,none,.prim (.bin false .rem (.tmp 91) (.const (Go.Value.int Go.IntKind.i64 64)))⟩,
   ⟨some 93,none,.prim (.convi .u64 (.tmp 92))⟩,
   ⟨some 94,none,.prim (.bin false .shl (.const (Go.Value.int Go.IntKind.u64 1)) (.tmp 93))⟩,
   ⟨some 95,none,.prim (.bin false .or (.tmp 90) (.tmp 94))⟩,
   ⟨some 96,none,.prim (.iadra 1 4 (.tmp 4) (.tmp 86))⟩,
   ⟨none,none,.prim (.store 1 (.tmp 96) (.tmp 95))⟩]))
  (.ops [⟨some 83,none,.prim (.mov (.tmp 8))⟩,
   ⟨some 84,none,.prim (.bin false .add (.tmp 83) (.const (Go.Value.int Go.IntKind.i64 1)))⟩,
   ⟨some 8,none,.prim (.mov (.tmp 84))⟩]))))))
  (.ops [⟨some 97,none,.prim (.mov (.tmp 5))⟩,
   ⟨some 98,none,.prim (.bin false .add (.tmp 97) (.const (Go.Value.int Go.IntKind.i64 1)))⟩,
   ⟨some 5,none,.prim (.mov (.tmp 98))⟩]))))))))
def c55k:ACode :=
 (.seq (.seq (.ops [⟨some 99,none,.prim (.mov (.tmp 0))⟩,
   ⟨some 100,none,.call (.func 190) [(.tmp 99)]⟩,
   ⟨some 101,none,.prim (.un .not (.tmp 100))⟩,
   ⟨some 102,none,.prim (.mov (.tmp 101))⟩,
   ⟨some 103,(some (102,false)),.prim (.mov (.tmp 5))⟩,
   ⟨some 104,(some (102,false)),.prim (.bin false .eql (.tmp 103) (.const (Go.Value.int Go.IntKind.i64 0)))⟩,
   ⟨some 105,none,.prim (.pick (.tmp 102) (.const (Go.Value.bool Bool.true)) (.tmp 104))⟩])
  (.cond (.tmp 105)
  (.seq (.ops [⟨some 106,none,.prim (.mov (.tmp 0))⟩,
   ⟨some 107,none,.call (.func 217) [(.tmp 106)]⟩])
  (.seq (.ops [⟨some 108,none,.prim (.build [.pl (.int .i64 0),.pl (.int .u64 0),.pl (.int .u64 0),.pl (.int .u64 0),.pl (.int .u64 0),.nils] [])⟩,
   ⟨none,none,.prim (.store 6 (.tmp 2) (.tmp 108))⟩])
  .ret))
  .skip))
  (.seq (.ops [⟨some 109,none,.prim (.mov (.tmp 0))⟩,
   ⟨some 110,none,.prim (.nilc (.tmp 109))⟩,
   ⟨some 111,none,.prim (.fadr 1 (.tmp 110))⟩,
   ⟨some 112,none,.prim (.load 1 false (.tmp 111))⟩,
   ⟨some 113,none,.prim (.bin false .add (.tmp 112) (.const (Go.Value.int Go.IntKind.i64 1)))⟩,
   ⟨some 114,none,.prim (.nilc (.tmp 109))⟩,
   ⟨some 115,none,.prim (.fadr 1 (.tmp 114))⟩,
   ⟨none,none,.prim (.store 1 (.tmp 115) (.tmp 113))⟩])
  (.seq (.seq (.ops [⟨some 116,none,.prim (.mov (.tmp 3))⟩])
  (.cond (.tmp 116)
  (.seq (.ops [⟨some 9,none,.prim (.mov (.const (Go.Value.int Go.IntKind.i64 0)))⟩])
  (.block 4 (.loop [0,1,3,5,6,7,8,10,11,12,13,14,15,16,17,18,19,20,21,22,23,24,25,26,27,28,29,30,31,32,33,34,35,36,37,38,39,40,41,42,43,44,45,46,47,48,49,50,51,52,53,54,55,56,57,58,59,60,61,62,63,64,65,66,67,68,69,70,71,72,73,74,75,76,77,78,79,80,81,82,83,84,85,86,87,88,89,90,91,92,93,94,95,96,97,98,99,100,101,102,103,104,105,106,107,108,109,110,111,112,113,114,115,116,117,118,119,120,121,122,123,124,125,126,127,128] (.seq (.seq (.ops [⟨some 117,none,.prim (.mov (.tmp 9))⟩,
   ⟨some 118,none,.prim (.bin false .lss (.tmp 117) (.const (Go.Value.int Go.IntKind.i64 4)))⟩])
  (.cond (.tmp 118)
  .skip
  (.exit 4)))
  (.seq (.block 5 (.ops [⟨some 121,none,.prim (.mov (.tmp 9))⟩,
   ⟨some 122,none,.prim (.mov (.tmp 9))⟩,
   ⟨some 123,none,.prim (.iadra 1 4 (.tmp 4) (.tmp 122))⟩,
   ⟨some 124,none,.prim (.load 1 false (.tmp 123))⟩,
   ⟨some 125,none,.prim (.un .xor (.tmp 124))⟩,
   ⟨some 126,none,.prim (.iadra 1 4 (.tmp 4) (.tmp 121))⟩,
   ⟨none,none,.prim (.store 1 (.tmp 126) (.tmp 125))⟩]))
  (.ops [⟨some 119,none,.prim (.mov (.tmp 9))⟩,
   ⟨some 120,none,.prim (.bin false .add (.tmp 119) (.const (Go.Value.int Go.IntKind.i64 1)))⟩,
   ⟨some 9,none,.prim (.mov (.tmp 120))⟩]))))))
  .skip))
  (.seq (.ops [⟨some 127,none,.prim (.load 4 true (.tmp 4))⟩,
   ⟨some 128,none,.prim (.build [.pl (.int .i64 0),.pl (.int .u64 0),.pl (.int .u64 0),.pl (.int .u64 0),.pl (.int .u64 0),.nils] [(0,1,(.const (Go.Value.int Go.IntKind.i64 1))),(1,4,(.tmp 127))])⟩,
   ⟨none,none,.prim (.store 6 (.tmp 2) (.tmp 128))⟩])
  .ret))))
def c55d:List Tmp:=[1,6,9,10,11,12,13,14,15,16,17,18,19,20,21,22,23,24,25,26,27,28,29,30,31,32,33,34,35,36,37,38,39,40,41,42,43,44,45,46,47,48,49,50,51,52,53,54,55,56,57,58,59,60,61,62,63,64,65,66,67,68,69,70,71,72,73,74,75,76,77,78,79,80,81,82,83,84,85,86,87,88,89,90,91,92,93,94,95,96,97,98,99,100,101,102,103,104,105,106,107,108,109,110,111,112,113,114,115,116,117,118,119,120,121,122,123,124,125,126,127,128]
def c55y:ACode :=
 (.seq (.seq (.ops [⟨some 79,none,.prim (.mov (.tmp 8))⟩,
   ⟨some 80,none,.prim (.mov (.tmp 7))⟩,
   ⟨some 81,none,.prim (.convi .i64 (.tmp 80))⟩,
   ⟨some 82,none,.prim (.bin false .leq (.tmp 79) (.tmp 81))⟩])
  (.cond (.tmp 82)
  .skip
  (.exit 2)))
  (.seq (.block 3 (.ops [⟨some 85,none,.prim (.mov (.tmp 8))⟩,
   ⟨some 86,none,.prim (.bin false .quo (.tmp 85) (.const (Go.Value.int Go.IntKind.i64 64)))⟩,
   ⟨some 87,none,.prim (.mov (.tmp 8))⟩,
   ⟨some 88,none,.prim (.bin false .quo (.tmp 87) (.const (Go.Value.int Go.IntKind.i64 64)))⟩,
   ⟨some 89,none,.prim (.iadra 1 4 (.tmp 4) (.tmp 88))⟩,
   ⟨some 90,none,.prim (.load 1 false (.tmp 89))⟩,
   ⟨some 91,none,.prim (.mov (.tmp 8))⟩,
   ⟨some 92,none,.prim (.bin false .rem (.tmp 91) (.const (Go.Value.int Go.IntKind.i64 64)))⟩,
   ⟨some 93,none,.prim (.convi .u64 (.tmp 92))⟩,
   ⟨some 94,none,.prim (.bin false .shl (.const (Go.Value.int Go.IntKind.u64 1)) (.tmp 93))⟩,
   ⟨some 95,none,.prim (.bin false .or (.tmp 90) (.tmp 94))⟩,
   ⟨some 96,none,.prim (.iadra 1 4 (.tmp 4) (.tmp 86))⟩,
   ⟨none,none,.prim (.store 1 (.tmp 96) (.tmp 95))⟩]))
  (.ops [⟨some 83,none,.prim (.mov (.tmp 8))⟩,
   ⟨some 84,none,.prim (.bin false .add (.tmp 83) (.const (Go.Value.int Go.IntKind.i64 1)))⟩,
   ⟨some 8,none,.prim (.mov (.tmp 84))⟩])))
theorem z6R (s:ByteArray) (a:Nat):a≤(z0p s a).2.1:=by
 unfold z0p
 repeat' split
 all_goals simp only
 all_goals omega
theorem z6S (s:ByteArray) (a:Nat) (h:over s a false=false):a+1≤(z0p s a).2.1:=by
 unfold z0p;rw[h];simp only[Bool.false_eq_true,if_false]
 repeat' split
 all_goals simp only
 all_goals omega
theorem z6T (s:ByteArray) (a:Nat):(z0p s a).1<256:=by
 unfold z0p
 repeat' split
 all_goals first
 |exact z23 _ _
 |(show 0<256;decide)
theorem zcM (s:ByteArray) (a:Nat):(z0p s a).2.1≤(dTo s a).2.1:=by
 unfold dTo;split
 · exact Nat.le_trans (Nat.le_succ _) (z6R _ _)
 · exact Nat.le_refl _
theorem zi4 (s:ByteArray) (a:Nat):(dTo s a).1<256:=by
 unfold dTo;split<;>exact z6T _ _
section
variable {σ:St} {p:Nat} {s:ByteArray}
theorem z1N (hp:p<σ.length) (a d:Nat) (b:Bool) (ex:St):Ans Tryz.prog 190 [.ptr p 0] (σ.set p (dob s a d b)++ex) (Bo (!over s a b)) (σ.set p (dob s a d b)++ex) :=
 z7q _ p s a d b (gA hp _ _)
theorem z2I (hp:p<σ.length) (a d:Nat) (b:Bool) (ex:St):Ans Tryz.prog 217 [.ptr p 0] (σ.set p (dob s a d b)++ex) (.tup []) (σ.set p (dob s a d true)++ex):=by
 have:=z2S _ p s a d b (gA hp (dob s a d b) ex)
 rwa [sA hp]at this
theorem z6U (hp:p<σ.length) (a d:Nat) (hs:s.size≤40) (ex:St):Ans Tryz.prog 224 [.ptr p 0] (σ.set p (dob s a d false)++ex) (B8 (z0p s a).1) (σ.set p (dob s (z0p s a).2.1 d (z0p s a).2.2)++ex):=by
 have:=z9H _ p s a d hs (gA hp (dob s a d false) ex)
 rwa [sA hp]at this
end
theorem zgP (n:Nat) (s:ByteArray) (a d:Nat) (b:Bool):BelO n (dob s a d b):=by
 intro x hx;simp only[List.mem_cons,List.not_mem_nil,or_false]at hx;rcases hx with rfl|rfl|rfl|rfl<;>exact .pl _
theorem z5V {σ:St} {p:Nat} {s:ByteArray} {a d:Nat} {b:Bool} (h:∀o∈σ.set p (dob s a d b),BelO (σ.set p (dob s a d b)).length o) (a' d':Nat) (b':Bool) :
  ∀o∈σ.set p (dob s a' d' b'),BelO (σ.set p (dob s a' d' b')).length o:=by
 have e:σ.set p (dob s a' d' b')=(σ.set p (dob s a d b)).set p (dob s a' d' b'):=by rw[List.set_set]
 have el:(σ.set p (dob s a' d' b')).length=(σ.set p (dob s a d b)).length:=by simp
 rw[el,e];exact z2c h (zgP _ _ _ _ _)
theorem z0F {s:ByteArray} {a:Nat} (h:over s a false=false) (c:Nat):sees s a false c=(byteAt s a==c):=by simp[sees,h]
section
variable (σ:St) (p:Nat) (s:ByteArray) (a d:Nat)
theorem z3h (hp:p<σ.length) (neg:Bool) (n f t aT:Nat) (bT:Bool) (S:List Int) (h3:S.length=4) (hf:f<256) (ht:t<256) (k:List Fr) (B:Bs)
  (h:N Tryz.prog σ.length k B (mkE 129 [(0,.ptr p 0),(2,.ptr σ.length 0),(3,Bo neg),(4,.ptr (σ.length+1) 0),(5,I n),(7,B8 t),(8,I ((f+(t+1-f):Nat):Int)),(79,I ((f+(t+1-f):Nat):Int)),(80,B8 t),(81,I t),(82,Bo false)])
   (σ.set p (dob s aT d bT)++[box0,.box ((addR S f (t+1-f)).map U)])) :
  L Tryz.prog σ.length c55d c55y (Fr.block 2::k) B (mkE 129 [(0,.ptr p 0),(2,.ptr σ.length 0),(3,Bo neg),(4,.ptr (σ.length+1) 0),(5,I n),(7,B8 t),(8,I f)])
    (σ.set p (dob s aT d bT)++[box0,.box (S.map U)]):=by
 have d3:IntKind.i64.wrap (t:Int)=(t:Int):=wrap64 (by omega)
 refine L.count (t+1-f) (fun i=>mkE 129 [(0,.ptr p 0),(2,.ptr σ.length 0),(3,Bo neg),(4,.ptr (σ.length+1) 0),(5,I n),(7,B8 t),(8,I ((f+i:Nat):Int))])
  (fun i=>σ.set p (dob s aT d bT)++[box0,.box ((addR S f i).map U)]) ?_ ?_ rfl rfl
 · intro i hi Q hQ;have c1:(((f+i:Nat):Int)≤(t:Int))=True:=by simp;omega
   have c3:IntKind.i64.wrap (((f+i:Nat):Int)+1)=((f+(i+1):Nat):Int):=by rw[wrapN (by omega) (by omega)];omega
   have e1:IntKind.i64.wrap (((f+i:Nat):Int).tdiv 64)=(((f+i)/64:Nat):Int):=by
    rw[show((f+i:Nat):Int).tdiv 64=(((f+i)/64:Nat):Int) from rfl];exact wrapN (by omega) (by omega)
   have e2:((f+i:Nat):Int).tmod 64=(((f+i)%64:Nat):Int):=rfl;have e3:((64:Int)=0)=False:=by simp
   have e4:((((f+i)/64:Nat):Int)<(4:Nat))=True:=by simp;omega
   have e5:IntKind.u64.wrap (((f+i)%64:Nat):Int)=(((f+i)%64:Nat):Int):=by
    simp only[IntKind.wrap,IntKind.bits,IntKind.signed];simp;omega
   have hT:(addR S f i).length=4:=by rw[z2R];exact h3
   have hv:=z5N hT (c:=f+i) (by omega)
   have hset:=z3f (addR S f i) (f+i);rw[addR]at hQ;rw[←hset]at hQ;clear hset;generalize hw:(addR S f i).getD ((f+i)/64) 0=v at hv hQ;have hl:((addR S f i).map U).length=4:=by simpa using hT
   generalize (addR S f i).map U=cs at hv hQ hl⊢;have hk:(f+i)/64<cs.length:=by rw[hl];omega
   rw[Nat.zero_add]at hv hQ
   have e6:cs.drop ((f+i)/64)=U v::cs.drop ((f+i)/64+1):=by
    rw[List.drop_eq_getElem_cons hk];have:=(List.getElem?_eq_some_iff.1 hv).2;rw[this]
   have e7:((f+i)/64+1≤cs.length)=True:=by simp;omega
   have e8:(1≤(cs.drop ((f+i)/64+1)).length+1)=True:=by simp
   have hsa:∀y:AV,cs.set ((f+i)/64) y=cs.take ((f+i)/64)++[y]++cs.drop ((f+i)/64+1):=fun y=>by rw[List.set_eq_take_append_cons_drop,if_pos hk];simp
   rw[hsa]at hQ;simp -implicitDefEqProofs only[c55y,c55d,mkE,go_sem,d3,c1,e1,e2,e3,e4,e5,Nat.mul_one,gA hp,sA hp,gL0,sL0,gL1,sL1,e6,e7,e8,c3];exact hQ
 · intro Q;have c1:(((f+(t+1-f):Nat):Int)≤(t:Int))=False:=by simp;omega
   have c2:decide (((f+(t+1-f):Nat):Int)≤(t:Int))=false:=by simp;omega
   simp -implicitDefEqProofs only[c55y,c55d,mkE,go_sem,d3,c1,c2];simp -implicitDefEqProofs only[mkE,go_sem]at h;exact h
set_option maxHeartbeats 800000 in
theorem z5W (hp:p<σ.length) (hs:s.size≤40) (neg:Bool) (a0:Nat) (r:List RV) (hr:r=r219)
  (hb2:∀(a' d':Nat) (b':Bool) (o:Ob),o∈σ.set p (dob s a' d' b')→BelO (σ.set p (dob s a' d' b')).length o)
  (res:List Int×Nat×Bool×Nat) (hres:z0W s (s.size+3) z4 a0 false 0=res) :
  L Tryz.prog σ.length c55c c55x [Fr.block 0,Fr.seq c55k] (Fini σ.length r (dOut s neg res).1.rv (σ.set p (dob s (dOut s neg res).2.1 d (dOut s neg res).2.2)))
    (mkE 129 [(0,.ptr p 0),(2,.ptr σ.length 0),(3,Bo neg),(4,.ptr (σ.length+1) 0),(5,I 0)])
    (σ.set p (dob s a0 d false)++[box0,.box (z4.map U)]):=by
 subst hr;have q1:IntKind.i64.wrap (0+1)=1:=by decide
 have q2:IntKind.i64.wrap (1+1)=2:=by decide
 have q3:IntKind.i64.wrap (2+1)=3:=by decide
 have q4:IntKind.i64.wrap (3+1)=4:=by decide
 have n1:Int.toNat 1=1:=rfl;have n2:Int.toNat 2=2:=rfl;have n3:Int.toNat 3=3:=rfl;have c4:((4:Nat):Int)=4:=rfl;unfold dOut
 refine L.intro (α:={ x:Nat×List Int×Nat×Bool×Nat // z0W s x.1 x.2.1 x.2.2.1 x.2.2.2.1 x.2.2.2.2=res∧s.size-x.2.2.1<x.1∧x.2.1.length=4∧x.2.2.2.2≤x.2.2.1 })
  (fun x=>x.1.1)
  (fun x=>mkE 129 [(0,.ptr p 0),(2,.ptr σ.length 0),(3,Bo neg),(4,.ptr (σ.length+1) 0),(5,I x.1.2.2.2.2)])
  (fun x=>σ.set p (dob s x.1.2.2.1 d x.1.2.2.2.1)++[box0,.box (x.1.2.1.map U)])
  (fun x J hJ=>?_) ⟨(s.size+3,z4,a0,false,0),hres,by simp only;omega,rfl,Nat.zero_le _⟩ rfl rfl
 obtain⟨⟨k,S,a1,b1,n⟩,h1,h2,h3,h4⟩:=x;simp only at h1 h2 h3 h4 hJ⊢;rcases k with _|k
 · omega
 rw[z0W]at h1;have k93:(((byteAt s a1:Nat):Int)==93)=(byteAt s a1==93):=z0m _ 93;have n93:(((byteAt s a1:Nat):Int) != 93)= !(byteAt s a1==93):=by rw[bne,k93]
 cases hgo:dGo s a1 b1
 · rw[hgo,if_neg Bool.false_ne_true]at h1;subst h1;clear hJ h2;obtain⟨x0,x1,x2,x3,rfl⟩:=four h3;cases ho:over s a1 b1
   · have hb1:b1=false:=by cases b1<;>simp[over]at ho⊢
     subst hb1;have hlt:=z1w ho;have hlt':(a1:Int)<s.size:=by omega
     have h93:(byteAt s a1==93)=true:=by rw[←z0F ho];simpa[dGo,ho] using hgo
     have kn:((n:Int)==0)=(n==0):=z0m n 0;simp -implicitDefEqProofs only[c55x,c55c,c55k,mkE,go_sem];refine CD.intro (z1N hp a1 d false _) ?_;simp -implicitDefEqProofs only[go_sem,ho,gA hp,sA hp,gL0,sL0,gL1,sL1,hlt',z08,k93,n93,h93];refine CO.intro (z1N hp a1 d false _) ?_;simp -implicitDefEqProofs only[go_sem,ho,kn];cases hn:n==0
     · simp -implicitDefEqProofs only[go_sem,gA hp,sA hp,gL0,sL0,gL1,sL1,z0V (show a1≤4294967296 by omega),Bool.or_self]
       cases neg
       · simp -implicitDefEqProofs only[go_sem,gA hp,sA hp,gL0,sL0,gL1,sL1];refine Fini.trim2 (ex:=[_,_]) ?_ rfl ?_ (z0h _ _) (hb2 _ _ _)
         · simp -implicitDefEqProofs only[go_sem,r219,resA,z02,rvA,oneOf,gL0];rfl
         · simp
       · simp -implicitDefEqProofs only[go_sem,gA hp,sA hp,gL0,sL0,gL1,sL1]
         refine L.count 4 (fun i=>mkE 129 [(2,.ptr σ.length 0),(4,.ptr (σ.length+1) 0),(9,I i)])
          (fun i=>σ.set p (dob s (a1+1) d false)++[box0,.box (match i with|0=>[U x0,U x1,U x2,U x3]|1=>[U (notU x0),U x1,U x2,U x3]|2=>[U (notU x0),U (notU x1),U x2,U x3]|3=>[U (notU x0),U (notU x1),U (notU x2),U x3]|_=>[U (notU x0),U (notU x1),U (notU x2),U (notU x3)])]) ?_ ?_ rfl rfl
         · intro i hi Q hQ
           match i,hi,hQ with
           |0,_,hQ=>simp -implicitDefEqProofs only[mkE,go_sem,gA hp,sA hp,gL0,sL0,gL1,sL1,q1,q2,q3,q4,n1,n2,n3,c4,Int.toNat_zero,Int.cast_ofNat_Int,Int.natCast_one,Int.natCast_zero];exact hQ
           |1,_,hQ=>simp -implicitDefEqProofs only[mkE,go_sem,gA hp,sA hp,gL0,sL0,gL1,sL1,q1,q2,q3,q4,n1,n2,n3,c4,Int.toNat_zero,Int.cast_ofNat_Int,Int.natCast_one,Int.natCast_zero];exact hQ
           |2,_,hQ=>simp -implicitDefEqProofs only[mkE,go_sem,gA hp,sA hp,gL0,sL0,gL1,sL1,q1,q2,q3,q4,n1,n2,n3,c4,Int.toNat_zero,Int.cast_ofNat_Int,Int.natCast_one,Int.natCast_zero];exact hQ
           |3,_,hQ=>simp -implicitDefEqProofs only[mkE,go_sem,gA hp,sA hp,gL0,sL0,gL1,sL1,q1,q2,q3,q4,n1,n2,n3,c4,Int.toNat_zero,Int.cast_ofNat_Int,Int.natCast_one,Int.natCast_zero];exact hQ
         · intro Q;simp -implicitDefEqProofs only[mkE,go_sem,gA hp,sA hp,gL0,sL0,gL1,sL1,q1,q2,q3,q4,n1,n2,n3,c4,Int.toNat_zero,Int.cast_ofNat_Int,Int.natCast_one,Int.natCast_zero];refine Fini.trim2 (ex:=[_,_]) ?_ rfl ?_ (z0h _ _) (hb2 _ _ _)
           · simp -implicitDefEqProofs only[go_sem,r219,resA,z02,rvA,oneOf,gL0];rfl
           · simp
     · simp -implicitDefEqProofs only[go_sem];refine CO.intro (z2I hp a1 d false _) ?_;simp -implicitDefEqProofs only[go_sem,gA hp,sA hp,gL0,sL0,gL1,sL1,Bool.or_true];refine Fini.trim2 (ex:=[_,_]) ?_ rfl ?_ (z0h _ zeroR) (hb2 _ _ _)
       · simp -implicitDefEqProofs only[go_sem,r219,resA,z02,rvA,oneOf,gL0];rfl
       · simp
   · simp -implicitDefEqProofs only[c55x,c55c,c55k,mkE,go_sem];refine CD.intro (z1N hp a1 d b1 _) ?_;simp -implicitDefEqProofs only[go_sem,ho];refine CO.intro (z1N hp a1 d b1 _) ?_;simp -implicitDefEqProofs only[go_sem,ho];refine CO.intro (z2I hp a1 d b1 _) ?_;simp -implicitDefEqProofs only[go_sem,gA hp,sA hp,gL0,sL0,gL1,sL1,Bool.true_or];refine Fini.trim2 (ex:=[_,_]) ?_ rfl ?_ (z0h _ zeroR) (hb2 _ _ _)
     · simp -implicitDefEqProofs only[go_sem,r219,resA,z02,rvA,oneOf,gL0];rfl
     · simp
 · rw[hgo,if_pos rfl]at h1
   have ho:over s a1 b1=false:=by
    cases h:over s a1 b1
    · rfl
    · simp[dGo,h]at hgo
   have hb1:b1=false:=by cases b1<;>simp[over]at ho⊢
   subst hb1;have hlt:=z1w ho;have hlt':(a1:Int)<s.size:=by omega
   have h93:(byteAt s a1==93)=false:=by rw[←z0F ho];simpa[dGo,ho] using hgo
   have hgt:=z6S s a1 ho;have hge:=zcM s a1;have hJ':=hJ ⟨(k,addR S (z0p s a1).1 ((dTo s a1).1+1-(z0p s a1).1),(dTo s a1).2.1,dBad s a1,n+1),h1,by simp only;omega,by rw[z2R];exact h3,by simp only;omega⟩ (Nat.lt_succ_self k)
   simp only at hJ';have hm2:=zi4 s a1;have hm1:=z6T s a1;have hbd:dBad s a1=((dTo s a1).2.2||decide ((dTo s a1).1<(z0p s a1).1)):=rfl;have hto:dTo s a1=if sees s (z0p s a1).2.1 (z0p s a1).2.2 45 then z0p s ((z0p s a1).2.1+1) else z0p s a1:=rfl
   rw[hbd]at hJ';clear hJ h1 hbd hgo;simp -implicitDefEqProofs only[c55x,c55c,c55d,mkE,go_sem];refine CD.intro (z1N hp a1 d false _) ?_;simp -implicitDefEqProofs only[go_sem,ho,gA hp,sA hp,gL0,sL0,gL1,sL1,hlt',z08,k93,n93,h93];refine CO.intro (z6U hp a1 d hs _) ?_;generalize z0p s a1=m at hgt hge hJ' hm1 hto⊢;obtain⟨f,am,bm⟩:=m;simp only at hgt hge hJ' hm1 hto⊢;simp -implicitDefEqProofs only[go_sem];refine CD.intro (z1N hp am d bm _) ?_;cases ho2:over s am bm
   · have hbm:bm=false:=by cases bm<;>simp[over]at ho2⊢
     subst hbm;have hlt2:=z1w ho2;have hlt2':(am:Int)<s.size:=by omega
     have k45:(((byteAt s am:Nat):Int)==45)=(byteAt s am==45):=z0m _ 45;rw[z0F ho2]at hto;simp -implicitDefEqProofs only[go_sem,gA hp,sA hp,gL0,sL0,gL1,sL1,hlt2',z08,k45];cases h45:byteAt s am==45
     · rw[h45,if_neg Bool.false_ne_true]at hto;rw[hto]at hJ' hm2;simp only at hJ' hm2;simp -implicitDefEqProofs only[go_sem];have d1:decide ((f:Int)<(f:Int))=decide (f<f):=by rw[Bool.eq_iff_iff];simp
       have d2:IntKind.i64.wrap (f:Int)=(f:Int):=wrap64 (by omega)
       have c5:IntKind.i64.wrap ((n:Int)+1)=((n+1:Nat):Int):=by rw[wrapN (by omega) (by omega)];rfl
       simp -implicitDefEqProofs only[go_sem,d1];cases hlt:decide (f<f)
       · rw[hlt,Bool.or_false]at hJ';simp -implicitDefEqProofs only[go_sem,d2];refine z3h σ p s d hp neg n f f am false S h3 hm1 hm2 _ _ ?_;simp -implicitDefEqProofs only[mkE,go_sem,c5,c55c,c55d]at hJ'⊢;exact hJ'
       · rw[hlt,Bool.or_true]at hJ';simp -implicitDefEqProofs only[go_sem];refine CO.intro (z2I hp am d false _) ?_;simp -implicitDefEqProofs only[go_sem,d2];refine z3h σ p s d hp neg n f f am true S h3 hm1 hm2 _ _ ?_;simp -implicitDefEqProofs only[mkE,go_sem,c5,c55c,c55d]at hJ'⊢;exact hJ'
     · rw[h45,if_pos rfl]at hto;simp -implicitDefEqProofs only[go_sem,gA hp,sA hp,gL0,sL0,gL1,sL1,z0V (show am≤4294967296 by omega)]
       refine CO.intro (z6U hp (am+1) d hs _) ?_;rw[←hto];clear hto;generalize dTo s a1=q at hJ' hm2 hge⊢;obtain⟨t,aT,bT⟩:=q;simp only at hJ' hm2 hge⊢;simp -implicitDefEqProofs only[go_sem];have d1:decide ((t:Int)<(f:Int))=decide (t<f):=by rw[Bool.eq_iff_iff];simp
       have d2:IntKind.i64.wrap (f:Int)=(f:Int):=wrap64 (by omega)
       have c5:IntKind.i64.wrap ((n:Int)+1)=((n+1:Nat):Int):=by rw[wrapN (by omega) (by omega)];rfl
       simp -implicitDefEqProofs only[go_sem,d1];cases hlt:decide (t<f)
       · rw[hlt,Bool.or_false]at hJ';simp -implicitDefEqProofs only[go_sem,d2];refine z3h σ p s d hp neg n f t aT bT S h3 hm1 hm2 _ _ ?_;simp -implicitDefEqProofs only[mkE,go_sem,c5,c55c,c55d]at hJ'⊢;exact hJ'
       · rw[hlt,Bool.or_true]at hJ';simp -implicitDefEqProofs only[go_sem];refine CO.intro (z2I hp aT d bT _) ?_;simp -implicitDefEqProofs only[go_sem,d2];refine z3h σ p s d hp neg n f t aT true S h3 hm1 hm2 _ _ ?_;simp -implicitDefEqProofs only[mkE,go_sem,c5,c55c,c55d]at hJ'⊢;exact hJ'
   · rw[show sees s am bm 45=false by simp[sees,ho2],if_neg Bool.false_ne_true]at hto
     rw[hto]at hJ' hm2;simp only at hJ' hm2;simp -implicitDefEqProofs only[go_sem];have d1:decide ((f:Int)<(f:Int))=decide (f<f):=by rw[Bool.eq_iff_iff];simp
     have d2:IntKind.i64.wrap (f:Int)=(f:Int):=wrap64 (by omega)
     have c5:IntKind.i64.wrap ((n:Int)+1)=((n+1:Nat):Int):=by rw[wrapN (by omega) (by omega)];rfl
     simp -implicitDefEqProofs only[go_sem,d1];cases hlt:decide (f<f)
     · rw[hlt,Bool.or_false]at hJ';simp -implicitDefEqProofs only[go_sem,d2];refine z3h σ p s d hp neg n f f am bm S h3 hm1 hm2 _ _ ?_;simp -implicitDefEqProofs only[mkE,go_sem,c5,c55c,c55d]at hJ'⊢;exact hJ'
     · rw[hlt,Bool.or_true]at hJ';simp -implicitDefEqProofs only[go_sem];refine CO.intro (z2I hp am d bm _) ?_;simp -implicitDefEqProofs only[go_sem,d2];refine z3h σ p s d hp neg n f f am true S h3 hm1 hm2 _ _ ?_;simp -implicitDefEqProofs only[mkE,go_sem,c5,c55c,c55d]at hJ'⊢;exact hJ'
set_option maxHeartbeats 800000 in
theorem zbu (hp:p<σ.length) (hs:s.size≤40):Ans Tryz.prog 219 [.ptr p 0] (σ.set p (dob s a d false)) (z1S s a).1.rv (σ.set p (dob s (z1S s a).2.1 d (z1S s a).2.2)):=by
 refine Ans.of_run' t219 (fun hbel _=>?_)
 have hb2:=z5V hbel;simp -implicitDefEqProofs only[c219,go_sem,List.append_assoc,List.length_append,List.length_set];refine CD.intro (z1N hp a d false _) ?_;unfold z1S;have k94:(((byteAt s a:Nat):Int)==94)=(byteAt s a==94):=z0m _ 94;cases ho:over s a false
 · have hlt:=z1w ho;have hlt':(a:Int)<s.size:=by omega
   simp -implicitDefEqProofs only[go_sem,gA hp,sA hp,gL0,sL0,gL1,sL1,hlt',z08,k94];cases h94:byteAt s a==94
   · have hneg:sees s a false 94=false:=by rw[z0F ho,h94]
     rw[show nextA s a false 94=a by simp[nextA,hneg],hneg]
     simp -implicitDefEqProofs only[go_sem,List.append_assoc,List.length_append,List.length_set];exact z5W σ p s d hp hs false a _ rfl hb2 _ rfl
   · have hneg:sees s a false 94=true:=by rw[z0F ho,h94]
     rw[show nextA s a false 94=a+1 by simp[nextA,hneg],hneg]
     simp -implicitDefEqProofs only[go_sem,gA hp,sA hp,gL0,sL0,gL1,sL1,z0V (show a≤4294967296 by omega),List.append_assoc,List.length_append,List.length_set]
     exact z5W σ p s d hp hs true (a+1) _ rfl hb2 _ rfl
 · have hneg:sees s a false 94=false:=by simp[sees,ho]
   rw[show nextA s a false 94=a by simp[nextA,hneg],hneg]
   simp -implicitDefEqProofs only[go_sem,List.append_assoc,List.length_append,List.length_set];exact z5W σ p s d hp hs false a _ rfl hb2 _ rfl
end
abbrev DF:=Nat→Rex×Nat×Nat×Bool
def fullS:List Int:=[18446744073709551615,18446744073709551615,18446744073709551615,18446744073709551615]
def datom (s:ByteArray) (F:DF) (d:Nat):DF:=fun a =>
 let c:=byteAt s a
 if c==46 then(ofSet fullS,a+1,d,false)
 else if c==92 then
  if over s (a+1) false|| !signs.contains (byteAt s (a+1)) then(zeroR,a+1,d,true) else(ofSet (oneS (byteAt s (a+1))),a+2,d,false)
 else if c==40 then
  if decide (8<d+1) then(zeroR,a+1,d+1,true)
  else if sees s (F (a+1)).2.1 (F (a+1)).2.2.2 41 then((F (a+1)).1,(F (a+1)).2.1+1,d,false)
  else(zeroR,(F (a+1)).2.1,(F (a+1)).2.2.1,true)
 else if c==91 then((z1S s (a+1)).1,(z1S s (a+1)).2.1,d,(z1S s (a+1)).2.2)
 else if specials.contains c then(zeroR,a+1,d,true)
 else(ofSet (oneS c),a+1,d,false)
def z3r (s:ByteArray) (F:DF):DF:=fun a =>
 let x:=F a
 if sees s x.2.1 x.2.2.2 42 then(.mk 4 0 0 0 0 [x.1],x.2.1+1,x.2.2.1,x.2.2.2)
 else if sees s x.2.1 x.2.2.2 43 then(.mk 5 0 0 0 0 [x.1],x.2.1+1,x.2.2.1,x.2.2.2)
 else if sees s x.2.1 x.2.2.2 63 then(.mk 6 0 0 0 0 [x.1],x.2.1+1,x.2.2.1,x.2.2.2)
 else x
def DAns (f:FuncId) (g:Bool) (s:ByteArray) (d:Nat) (F:DF):Prop :=
 ∀(σ:St) (p a:Nat),p<σ.length→s.size≤40→(g=true→a<s.size) →
  Ans Tryz.prog f [.ptr p 0] (σ.set p (dob s a d false)) (F a).1.rv (σ.set p (dob s (F a).2.1 (F a).2.2.1 (F a).2.2.2))
section
variable {σ:St} {p:Nat} {s:ByteArray}
theorem DAns.ex {f:FuncId} {g:Bool} {d:Nat} {F:DF} (h:DAns f g s d F) (hp:p<σ.length) (a:Nat) (hs:s.size≤40) (hg:g=true→a<s.size) (ex:St) :
  Ans Tryz.prog f [.ptr p 0] (σ.set p (dob s a d false)++ex) (F a).1.rv (σ.set p (dob s (F a).2.1 (F a).2.2.1 (F a).2.2.2)++ex):=by
 have:=h (σ.set p (dob s a d false)++ex) p a (by simp;omega) hs hg
 rwa [sA hp,sA hp]at this
theorem zcN (hp:p<σ.length) (a d:Nat) (hs:s.size≤40) (ex:St):Ans Tryz.prog 219 [.ptr p 0] (σ.set p (dob s a d false)++ex) (z1S s a).1.rv (σ.set p (dob s (z1S s a).2.1 d (z1S s a).2.2)++ex):=by
 have:=zbu (σ.set p (dob s a d false)++ex) p s a d (by simp;omega) hs
 rwa [sA hp,sA hp]at this
end
theorem zas (c:Nat):(oneS c).length=4:=by simp[oneS]
theorem zcO (s:ByteArray) (a:Nat):(z1S s a).1.ks=[]:=by
 unfold z1S dOut;split<;>rfl
section
variable (s:ByteArray)
set_option maxHeartbeats 4000000 in
theorem z8w (F:DF) (d:Nat) (hd:d≤8) (hF:d<8→DAns 180 false s (d+1) F) (hdeep:d<8→∀a,(F a).2.2.2=false→(F a).2.2.1=d+1):DAns 207 true s d (datom s F d):=by
 intro σ p a hp hs hg;have hlt:=hg rfl;have hlt':(a:Int)<s.size:=by omega
 refine Ans.of_run' t207 (fun hbel _=>?_)
 have hb2:=z5V hbel;have k46:(((byteAt s a:Nat):Int)==46)=(byteAt s a==46):=z0m _ 46;have k92:(((byteAt s a:Nat):Int)==92)=(byteAt s a==92):=z0m _ 92;have k40:(((byteAt s a:Nat):Int)==40)=(byteAt s a==40):=z0m _ 40;have k91:(((byteAt s a:Nat):Int)==91)=(byteAt s a==91):=z0m _ 91;simp -implicitDefEqProofs only[c207,r207,go_sem,List.append_assoc,List.length_append,List.length_set,gA hp,sA hp,gL0,sL0,gL1,sL1,hlt',z08,z0V (show a≤4294967296 by omega),k46]
 unfold datom;simp only;cases h46:byteAt s a==46
 case true =>
  simp -implicitDefEqProofs only[go_sem,gA hp,sA hp,gL0,sL0,gL1,sL1]
  (refine Fini.trim2 (ex:=[_]) ?_ rfl ?_ (z0h _ _) (hb2 _ _ _);(simp -implicitDefEqProofs only[go_sem,resA,z02,rvA,oneOf,gL0];first|done|rfl);simp)
 simp -implicitDefEqProofs only[go_sem,k92];cases h92:byteAt s a==92
 case true =>
  simp -implicitDefEqProofs only[go_sem];refine CD.intro (z1N hp (a+1) d false _) ?_
  cases ho2:over s (a+1) false with
  |true =>
   simp -implicitDefEqProofs only[go_sem,gA hp,sA hp,gL0,sL0,gL1,sL1];refine CO.intro (z2I hp (a+1) d false _) ?_;simp -implicitDefEqProofs only[go_sem,gA hp,sA hp,gL0,sL0,gL1,sL1,Bool.true_or]
   (refine Fini.trim2 (ex:=[_]) ?_ rfl ?_ (z0h _ _) (hb2 _ _ _);(simp -implicitDefEqProofs only[go_sem,resA,z02,rvA,oneOf,gL0];first|done|rfl);simp)
  |false =>
   have hlt2:=z1w ho2;have h2:((a+1:Nat):Int)<s.size:=by omega
   simp -implicitDefEqProofs only[go_sem,gA hp,sA hp,gL0,sL0,gL1,sL1,h2,z08];refine CD.intro (z6Q _ (byteAt s (a+1)) (z23 _ _)) ?_
   cases hq:signs.contains (byteAt s (a+1)) with
   |false =>
    simp -implicitDefEqProofs only[go_sem,gA hp,sA hp,gL0,sL0,gL1,sL1];refine CO.intro (z2I hp (a+1) d false _) ?_;simp -implicitDefEqProofs only[go_sem,gA hp,sA hp,gL0,sL0,gL1,sL1,Bool.or_true]
    (refine Fini.trim2 (ex:=[_]) ?_ rfl ?_ (z0h _ _) (hb2 _ _ _);(simp -implicitDefEqProofs only[go_sem,resA,z02,rvA,oneOf,gL0];first|done|rfl);simp)
   |true =>
    have h3:IntKind.i64.wrap (((a+1+1:Nat):Int)-1)=((a+1:Nat):Int):=by
     simp only[IntKind.wrap,IntKind.bits,IntKind.signed];simp;omega
    simp -implicitDefEqProofs only[go_sem,gA hp,sA hp,gL0,sL0,gL1,sL1,z0V (show a+1≤4294967296 by omega),h2,h3,z08,Bool.or_false]
    refine CD.intro (zar _ (byteAt s (a+1)) (z23 _ _)) ?_;obtain⟨x0,x1,x2,x3,hS⟩:=four (zas (byteAt s (a+1)));rw[hS];simp -implicitDefEqProofs only[go_sem,gA hp,sA hp,gL0,sL0,gL1,sL1]
    (refine Fini.trim2 (ex:=[_]) ?_ rfl ?_ (z0h _ _) (hb2 _ _ _);(simp -implicitDefEqProofs only[go_sem,resA,z02,rvA,oneOf,gL0];first|done|rfl);simp)
 simp -implicitDefEqProofs only[go_sem,k40];cases h40:byteAt s a==40
 case true =>
  have e8:decide ((8:Int)<((d+1:Nat):Int))=decide (8<d+1):=by rw[Bool.eq_iff_iff];simp;omega
  simp -implicitDefEqProofs only[go_sem,gA hp,sA hp,gL0,sL0,gL1,sL1,z0V (show d≤4294967296 by omega),e8]
  cases h8:decide (8<d+1) with
  |true =>
   simp -implicitDefEqProofs only[go_sem];refine CO.intro (z2I hp (a+1) (d+1) false _) ?_;simp -implicitDefEqProofs only[go_sem,gA hp,sA hp,gL0,sL0,gL1,sL1]
   (refine Fini.trim2 (ex:=[_]) ?_ rfl ?_ (z0h _ _) (hb2 _ _ _);(simp -implicitDefEqProofs only[go_sem,resA,z02,rvA,oneOf,gL0];first|done|rfl);simp)
  |false =>
   have hd7:d<8:=by
    have:¬(8<d+1):=by simpa using h8
    omega
   simp -implicitDefEqProofs only[go_sem];refine CO.intro ((hF hd7).ex hp (a+1) hs (fun h=>absurd h Bool.false_ne_true) _) ?_
   have hde:=hdeep hd7 (a+1);generalize F (a+1)=w at hde⊢;obtain⟨x,a1,d1,b1⟩:=w;simp only at hde⊢;have hbx:∀n,Bel n x.rv:=fun n=>z0h n x
   have hrx:=rv_eq x;rw[rv_eq x];rcases rvK_cases x.ks with hK|⟨l,hK⟩
   all_goals rw[hK]at hrx⊢
   all_goals simp -implicitDefEqProofs only[go_sem]
   all_goals refine CD.intro (z1N hp a1 d1 b1 _) ?_
   all_goals cases ho3:over s a1 b1
   all_goals first
   |(have hse:sees s a1 b1 41=false:=by simp[sees,ho3]
     simp -implicitDefEqProofs only[go_sem,gA hp,sA hp,gL0,sL0,gL1,sL1,hse];refine CO.intro (z2I hp a1 d1 b1 _) ?_;simp -implicitDefEqProofs only[go_sem,gA hp,sA hp,gL0,sL0,gL1,sL1]
     (refine Fini.trim2 (ex:=[_]) ?_ rfl ?_ (z0h _ _) (hb2 _ _ _);(simp -implicitDefEqProofs only[go_sem,resA,z02,rvA,oneOf,gL0];first|done|rfl);simp))
   |(have hb1:b1=false:=by cases b1<;>simp[over]at ho3⊢
     subst hb1;have hlt3:=z1w ho3;have h3:((a1:Nat):Int)<s.size:=by omega
     have k41:(((byteAt s a1:Nat):Int)==41)=(byteAt s a1==41):=z0m _ 41;have n41:(((byteAt s a1:Nat):Int) != 41)= !(byteAt s a1==41):=by rw[bne,k41]
     have hd1:=hde rfl;subst hd1
     have e9:IntKind.i64.wrap (((d+1:Nat):Int)-1)=(d:Int):=by
      simp only[IntKind.wrap,IntKind.bits,IntKind.signed];simp;omega
     rw[z0F ho3];simp -implicitDefEqProofs only[go_sem,gA hp,sA hp,gL0,sL0,gL1,sL1,h3,z08,k41,n41];cases h41:byteAt s a1==41
     · simp -implicitDefEqProofs only[go_sem];refine CO.intro (z2I hp a1 (d+1) false _) ?_;simp -implicitDefEqProofs only[go_sem,gA hp,sA hp,gL0,sL0,gL1,sL1]
       (refine Fini.trim2 (ex:=[_]) ?_ rfl ?_ (z0h _ _) (hb2 _ _ _);(simp -implicitDefEqProofs only[go_sem,resA,z02,rvA,oneOf,gL0];first|done|rfl);simp)
     · simp -implicitDefEqProofs only[go_sem,gA hp,sA hp,gL0,sL0,gL1,sL1,z0V (show a1≤4294967296 by omega),e9,hrx]
       rw[hrx]at hbx;refine Fini.trim2 (ex:=[_]) ?_ rfl ?_ (hbx _) (hb2 _ _ _)
       · simp -implicitDefEqProofs only[go_sem,resA,z02,rvA,oneOf,gL0]
       · simp)
 simp -implicitDefEqProofs only[go_sem,k91];cases h91:byteAt s a==91
 case true =>
  simp -implicitDefEqProofs only[go_sem];refine CO.intro (zcN hp (a+1) d hs _) ?_;have hK:rvK (z1S s (a+1)).1.ks=.nils:=by rw[zcO];rfl
  generalize z1S s (a+1)=w at hK⊢;obtain⟨x,a1,b1⟩:=w;simp only at hK⊢;have hbx:∀n,Bel n x.rv:=fun n=>z0h n x
  rw[rv_eq x,hK]at hbx⊢;simp -implicitDefEqProofs only[go_sem,gA hp,sA hp,gL0,sL0,gL1,sL1];refine Fini.trim2 (ex:=[_]) ?_ rfl ?_ (hbx _) (hb2 _ _ _)
  · simp -implicitDefEqProofs only[go_sem,resA,z02,rvA,oneOf,gL0]
  · simp
 simp -implicitDefEqProofs only[go_sem];refine CO.intro (z5U _ (byteAt s a)) ?_;simp -implicitDefEqProofs only[go_sem];cases hsp:specials.contains (byteAt s a)
 case true =>
  simp -implicitDefEqProofs only[go_sem];refine CO.intro (z2I hp (a+1) d false _) ?_;simp -implicitDefEqProofs only[go_sem,gA hp,sA hp,gL0,sL0,gL1,sL1]
  (refine Fini.trim2 (ex:=[_]) ?_ rfl ?_ (z0h _ _) (hb2 _ _ _);(simp -implicitDefEqProofs only[go_sem,resA,z02,rvA,oneOf,gL0];first|done|rfl);simp)
 simp -implicitDefEqProofs only[go_sem];refine CO.intro (zar _ (byteAt s a) (z23 _ _)) ?_;obtain⟨x0,x1,x2,x3,hS⟩:=four (zas (byteAt s a));rw[hS];simp -implicitDefEqProofs only[go_sem,gA hp,sA hp,gL0,sL0,gL1,sL1]
 (refine Fini.trim2 (ex:=[_]) ?_ rfl ?_ (z0h _ _) (hb2 _ _ _);(simp -implicitDefEqProofs only[go_sem,resA,z02,rvA,oneOf,gL0];first|done|rfl);simp)
theorem z5X (F:DF) (d:Nat) (hF:DAns 207 true s d F):DAns 200 true s d (z3r s F):=by
 intro σ p a hp hs hg;refine Ans.of_run' t200 (fun hbel _=>?_)
 have hb2:=z5V hbel;simp -implicitDefEqProofs only[c200,r200,go_sem,List.append_assoc,List.length_append,List.length_set,gA hp,sA hp,gL0,sL0,gL1,sL1];refine CO.intro (hF.ex hp a hs hg _) ?_;unfold z3r;generalize F a=w;obtain⟨x,a1,d1,b1⟩:=w;simp only;have hbx:∀n,Bel n x.rv:=fun n=>z0h n x
 have hrx:=rv_eq x;rw[rv_eq x];rcases rvK_cases x.ks with hK|⟨l,hK⟩
 all_goals rw[hK]at hrx⊢
 all_goals simp -implicitDefEqProofs only[go_sem]
 all_goals refine CO.intro (z1N hp a1 d1 b1 _) ?_
 all_goals cases ho:over s a1 b1
 all_goals first
 |(have hse:∀c,sees s a1 b1 c=false:=fun c=>by simp[sees,ho]
   simp -implicitDefEqProofs only[go_sem,gA hp,sA hp,gL0,sL0,gL1,sL1,hse,Bool.false_eq_true,if_false,hrx];rw[hrx]at hbx;refine Fini.trim2 (ex:=[_]) ?_ rfl ?_ (hbx _) (hb2 _ _ _)
   · simp -implicitDefEqProofs only[go_sem,resA,z02,rvA,oneOf,gL0]
   · simp)
 |(have hb1:b1=false:=by cases b1<;>simp[over]at ho⊢
   subst hb1;have hlt3:=z1w ho;have h3:((a1:Nat):Int)<s.size:=by omega
   have k42:(((byteAt s a1:Nat):Int)==42)=(byteAt s a1==42):=z0m _ 42;have k43:(((byteAt s a1:Nat):Int)==43)=(byteAt s a1==43):=z0m _ 43;have k63:(((byteAt s a1:Nat):Int)==63)=(byteAt s a1==63):=z0m _ 63;rw[z0F ho,z0F ho,z0F ho];have hkid:∀op,(Rex.mk op 0 0 0 0 [x]).rv=.agg [I op,U 0,U 0,U 0,U 0,.sl 6 [x.rv]]:=fun op=>rfl
   simp -implicitDefEqProofs only[go_sem,gA hp,sA hp,gL0,sL0,gL1,sL1,h3,z08,k42];cases h42:byteAt s a1==42
   · simp -implicitDefEqProofs only[go_sem,k43];cases h43:byteAt s a1==43
     · simp -implicitDefEqProofs only[go_sem,k63];cases h63:byteAt s a1==63
       · simp -implicitDefEqProofs only[go_sem,gA hp,sA hp,gL0,sL0,gL1,sL1,hrx];rw[hrx]at hbx;refine Fini.trim2 (ex:=[_]) ?_ rfl ?_ (hbx _) (hb2 _ _ _)
         · simp -implicitDefEqProofs only[go_sem,resA,z02,rvA,oneOf,gL0]
         · simp
       · simp -implicitDefEqProofs only[go_sem,gA hp,sA hp,gL0,sL0,gL1,sL1,z0V (show a1≤4294967296 by omega)]
         refine Fini.trim2 (ex:=[_]) ?_ rfl ?_ (z0h _ _) (hb2 _ _ _)
         · rw[hkid,hrx];simp -implicitDefEqProofs only[go_sem,resA,z02,rvA,oneOf,gL0]
         · simp
     · simp -implicitDefEqProofs only[go_sem,gA hp,sA hp,gL0,sL0,gL1,sL1,z0V (show a1≤4294967296 by omega)]
       refine Fini.trim2 (ex:=[_]) ?_ rfl ?_ (z0h _ _) (hb2 _ _ _)
       · rw[hkid,hrx];simp -implicitDefEqProofs only[go_sem,resA,z02,rvA,oneOf,gL0]
       · simp
   · simp -implicitDefEqProofs only[go_sem,gA hp,sA hp,gL0,sL0,gL1,sL1,z0V (show a1≤4294967296 by omega)]
     refine Fini.trim2 (ex:=[_]) ?_ rfl ?_ (z0h _ _) (hb2 _ _ _)
     · rw[hkid,hrx];simp -implicitDefEqProofs only[go_sem,resA,z02,rvA,oneOf,gL0]
     · simp)
end
def dwayL (s:ByteArray) (F:DF):Nat→List Rex→Nat→Nat→Bool→List Rex×Nat×Nat×Bool
 |0,K,a,d,b=>(K,a,d,b)
 |n+1,K,a,d,b=>if wGo s a b then dwayL s F n (K++[(F a).1]) (F a).2.1 (F a).2.2.1 (F a).2.2.2 else(K,a,d,b)
def dway (s:ByteArray) (F:DF) (d:Nat):DF:=fun a =>
 (one 2 (dwayL s F (s.size+1) [] a d false).1,(dwayL s F (s.size+1) [] a d false).2)
def z2r (s:ByteArray) (F:DF):Nat→List Rex→Nat→Nat→Bool→List Rex×Nat×Nat×Bool
 |0,K,a,d,b=>(K,a,d,b)
 |n+1,K,a,d,b=>if sees s a b 124 then z2r s F n (K++[(F (a+1)).1]) (F (a+1)).2.1 (F (a+1)).2.2.1 (F (a+1)).2.2.2 else(K,a,d,b)
def dways (s:ByteArray) (F:DF):DF:=fun a =>
 (one 3 (z2r s F (s.size+1) [(F a).1] (F a).2.1 (F a).2.2.1 (F a).2.2.2).1,(z2r s F (s.size+1) [(F a).1] (F a).2.1 (F a).2.2.1 (F a).2.2.2).2)
def dlvl (s:ByteArray) (W:DF) (d:Nat):DF:=dways s (dway s (z3r s (datom s W d)) d)
def DW (s:ByteArray):Nat→DF
 |0=>dlvl s (fun a=>(zeroR,a,0,false)) 8
 |k+1=>dlvl s (DW s k) (7-k)
def z8x (s:ByteArray):Rex×Bool :=
 if decide (40<s.size) then(zeroR,false)
 else if(DW s 8 0).2.2.2||decide ((DW s 8 0).2.1<s.size) then(zeroR,false) else((DW s 8 0).1,true)
structure DOK (g:Nat) (d:Nat) (F:DF):Prop where
 ge:∀a,a+g≤(F a).2.1
 deep:∀a,(F a).2.2.2=false→(F a).2.2.1=d
theorem z6V (s:ByteArray):∀(k:Nat) (S:List Int) (a:Nat) (b:Bool) (n:Nat),a≤(z0W s k S a b n).2.1
 |0,S,a,b,n=>Nat.le_refl _
 |k+1,S,a,b,n=>by
  rw[z0W];split
  · exact Nat.le_trans (Nat.le_trans (z6R s a) (zcM s a)) (z6V s k _ _ _ _)
  · exact Nat.le_refl _
theorem zcP (s:ByteArray) (a:Nat):a≤(z1S s a).2.1:=by
 have h:=Nat.le_trans (z3o s a false 94) (z6V s (s.size+3) z4 (nextA s a false 94) false 0);unfold z1S dOut;split
 · exact h
 · exact Nat.le_succ_of_le h
theorem z4y (s:ByteArray) {F:DF} {d:Nat} (h:∀a,a≤(F a).2.1):DOK 1 d (datom s F d):=by
 constructor
 · intro a;have h1:=h (a+1);have h2:=zcP s (a+1);unfold datom;simp only
   repeat' split
   all_goals simp only
   all_goals omega
 · intro a;unfold datom;simp only
   repeat' split
   all_goals simp
theorem z4z (s:ByteArray) (F:DF) (a:Nat):(z3r s F a).2.2=(F a).2.2∧(F a).2.1≤(z3r s F a).2.1:=by
 unfold z3r;simp only
 repeat' split
 all_goals exact⟨rfl,by simp⟩
theorem z3i (s:ByteArray) {F:DF} {d:Nat} (h:DOK 1 d F):DOK 1 d (z3r s F):=by
 constructor
 · intro a;exact Nat.le_trans (h.ge a) (z4z s F a).2
 · intro a;rw[(z4z s F a).1];exact h.deep a
theorem z7r (s:ByteArray) {F:DF} {d:Nat} (h:DOK 1 d F):∀n K a d0 b,a≤(dwayL s F n K a d0 b).2.1∧((b=false→d0=d)→(dwayL s F n K a d0 b).2.2.2=false→(dwayL s F n K a d0 b).2.2.1=d)
 |0,K,a,d0,b=>⟨Nat.le_refl _,fun h1 h2=>h1 h2⟩
 |n+1,K,a,d0,b=>by
  rw[dwayL];split
  · have h1:=z7r s h n (K++[(F a).1]) (F a).2.1 (F a).2.2.1 (F a).2.2.2;exact⟨Nat.le_trans (Nat.le_trans (Nat.le_succ a) (h.ge a)) h1.1,fun _ h2=>h1.2 (h.deep a) h2⟩
  · exact⟨Nat.le_refl _,fun h1 h2=>h1 h2⟩
theorem z9I (s:ByteArray) {F:DF} {d:Nat} (h:DOK 1 d F):DOK 0 d (dway s F d) :=
 ⟨fun a=>(z7r s h (s.size+1) [] a d false).1,fun a=>(z7r s h (s.size+1) [] a d false).2 (fun _=>rfl)⟩
theorem z5Y (s:ByteArray) {F:DF} {d:Nat} (h:DOK 0 d F):∀n K a d0 b,a≤(z2r s F n K a d0 b).2.1∧((b=false→d0=d)→(z2r s F n K a d0 b).2.2.2=false→(z2r s F n K a d0 b).2.2.1=d)
 |0,K,a,d0,b=>⟨Nat.le_refl _,fun h1 h2=>h1 h2⟩
 |n+1,K,a,d0,b=>by
  rw[z2r];split
  · have h1:=z5Y s h n (K++[(F (a+1)).1]) (F (a+1)).2.1 (F (a+1)).2.2.1 (F (a+1)).2.2.2;exact⟨Nat.le_trans (Nat.le_trans (Nat.le_succ a) (h.ge (a+1))) h1.1,fun _ h2=>h1.2 (h.deep (a+1)) h2⟩
  · exact⟨Nat.le_refl _,fun h1 h2=>h1 h2⟩
theorem zeM (s:ByteArray) {F:DF} {d:Nat} (h:DOK 0 d F):DOK 0 d (dways s F):=by
 constructor
 · intro a;exact Nat.le_trans (h.ge a) (z5Y s h (s.size+1) [(F a).1] (F a).2.1 (F a).2.2.1 (F a).2.2.2).1
 · intro a;exact(z5Y s h (s.size+1) [(F a).1] (F a).2.1 (F a).2.2.1 (F a).2.2.2).2 (h.deep a)
theorem zcQ (s:ByteArray) {W:DF} (h:∀a,a≤(W a).2.1) (d:Nat):DOK 0 d (dlvl s W d):=zeM s (z9I s (z3i s (z4y s h)))
theorem zgd (s:ByteArray):∀k,DOK 0 (8-k) (DW s k)
 |0=>zcQ s (fun a=>Nat.le_refl _) 8
 |k+1=>by
  have:=zcQ s (zgd s k).ge (7-k);rw[show 8-(k+1)=7-k by omega]
  exact this
section
variable (s:ByteArray)
theorem zat (F:DF) (d:Nat) (hF:DAns 200 true s d F) (hok:DOK 1 d F):DAns 189 false s d (dway s F d):=by
 intro σ p a hp hs _;refine Ans.of_run' t189 (fun hbel _=>?_)
 have hb2:=z5V hbel;simp -implicitDefEqProofs only[c189,r189,go_sem,List.append_assoc,List.length_append,List.length_set];unfold dway;simp only;have hm:s.size-a<s.size+1:=by omega
 generalize hres:dwayL s F (s.size+1) [] a d false=res
 refine L.intro (α:={ x:Nat×List Rex×Nat×Nat×Bool // dwayL s F x.1 x.2.1 x.2.2.1 x.2.2.2.1 x.2.2.2.2=res∧s.size-x.2.2.1<x.1∧(x.2.2.2.2=false→x.2.2.2.1=d)∧x.2.1.length≤x.2.2.1 })
  (fun x=>x.1.1)
  (fun x=>mkE 43 [(0,.ptr p 0),(2,.ptr σ.length 0),(3,vK σ.length x.1.2.1)])
  (fun x=>σ.set p (dob s x.1.2.2.1 x.1.2.2.2.1 x.1.2.2.2.2)++exK x.1.2.1)
  (fun x J hJ=>?_) ⟨(s.size+1,[],a,d,false),hres,hm,fun _=>rfl,Nat.zero_le _⟩ ?_ ?_
 · obtain⟨⟨n,K,a1,d1,b1⟩,h1,h2,h3,h4⟩:=x;simp only at h1 h2 h3 h4 hJ⊢
   cases n with
   |zero=>omega
   |succ n =>
   rw[dwayL]at h1;have k124:(((byteAt s a1:Nat):Int)==124)=(byteAt s a1==124):=z0m _ 124;have n124:(((byteAt s a1:Nat):Int) != 124)= !(byteAt s a1==124):=by rw[bne,k124]
   have k41:(((byteAt s a1:Nat):Int)==41)=(byteAt s a1==41):=z0m _ 41;have n41:(((byteAt s a1:Nat):Int) != 41)= !(byteAt s a1==41):=by rw[bne,k41]
   cases hgo:wGo s a1 b1 with
   |true =>
    rw[hgo,if_pos rfl]at h1;obtain⟨ha,hb⟩:=zgb hgo;subst hb;have hd1:=h3 rfl;subst hd1;have hov:over s a1 false=false:=by simp[wGo]at hgo;exact hgo.1
    have hs1:(byteAt s a1==124)=false:=by rw[←z0F hov];simp[wGo]at hgo;exact hgo.2.1
    have hs2:(byteAt s a1==41)=false:=by rw[←z0F hov];simp[wGo]at hgo;exact hgo.2.2
    have ha':(a1:Int)<s.size:=by omega
    have hea:=hok.ge a1;have hJ':=hJ ⟨(n,K++[(F a1).1],(F a1).2.1,(F a1).2.2.1,(F a1).2.2.2),h1,by simp only;omega,hok.deep a1,by simp;omega⟩ (Nat.lt_succ_self n)
    simp only[z5n,z7o]at hJ';clear hJ h1 hgo;simp -implicitDefEqProofs only[mkE,go_sem];refine CD.intro (z1N hp a1 d1 false _) ?_;simp -implicitDefEqProofs only[go_sem,hov,gA hp,sA hp,gL0,sL0,gL1,sL1,ha',z08,k124,n124,hs1,k41,n41,hs2];refine CO.intro (hF.ex hp a1 hs (fun _=>ha) _) ?_
    generalize F a1=w at hJ' hea⊢;obtain⟨x,a2,d2,b2⟩:=w;simp only at hJ' hea⊢;rw[rv_eq x]at hJ'⊢;rcases K with _|⟨y,K⟩
    all_goals rcases rvK_cases x.ks with hK|⟨l,hK⟩
    all_goals rw[hK]at hJ'⊢
    all_goals first
    |(simp -implicitDefEqProofs only[go_sem,z3K,z53,gA hp,sA hp,gL0,sL0,gL1,sL1]at hJ'⊢
      simpa[mkE] using hJ')
    |(have g1:(K.length+1+1≤2^32)=True:=by simp at h4;simp;omega
      simp -implicitDefEqProofs only[go_sem,z0C,z17,gA hp,sA hp,gL0,sL0,gL1,sL1,List.length_map,g1]at hJ'⊢
      simpa[mkE] using hJ')
   |false =>
    rw[hgo,if_neg Bool.false_ne_true]at h1;subst h1;clear hJ h2
    have hex:over s a1 b1=true∨(over s a1 b1=false∧b1=false∧(byteAt s a1==124)=true)∨(over s a1 b1=false∧b1=false∧(byteAt s a1==124)=false∧(byteAt s a1==41)=true):=by
     cases h1:over s a1 b1
     · have hb:b1=false:=by cases b1<;>simp[over]at h1⊢
       subst hb;unfold wGo at hgo;rw[z0F h1,z0F h1,h1]at hgo;cases h2:byteAt s a1==124<;>cases h3:byteAt s a1==41<;>simp[h2,h3]at hgo⊢
     · exact .inl rfl
    have hend:True:=trivial;rcases hex with ho|⟨ho,hb,h5⟩|⟨ho,hb,h5,h6⟩
    · simp -implicitDefEqProofs only[mkE,go_sem];refine CD.intro (z1N hp a1 d1 b1 _) ?_;simp -implicitDefEqProofs only[go_sem,ho];rcases K with _|⟨y,_|⟨z,K⟩⟩
      · simp -implicitDefEqProofs only[go_sem,z3K,z53,gA hp,sA hp,gL0,sL0,gL1,sL1];refine Fini.trim2 (ex:=[_]) ?_ rfl ?_ (z0h _ _) (hb2 _ _ _)
        · ((try simp -implicitDefEqProofs only[go_sem,resA,z02,rvA,oneOf,gL0]);first|done|rfl|(rw[z1x];rfl)|rw[rv_eq,hK])
        · simp
      · have g3:(((1:Nat):Int)==1)=true:=rfl;have g4:((0:Int)<((1:Nat):Int))=True:=by simp
        have hbx:∀n,Bel n y.rv:=fun n=>z0h n y
        rw[z0C,z17,List.map_cons,List.map_nil,show(one 2 [y])=y from rfl]
        rw[rv_eq y]at hbx⊢;rcases rvK_cases y.ks with hK|⟨l,hK⟩
        all_goals rw[hK]at hbx⊢
        all_goals simp -implicitDefEqProofs only[go_sem,gA hp,sA hp,gL0,sL0,gL1,sL1,List.length_map,g3,g4,Int.toNat_zero]
        all_goals (
         refine Fini.trim2 (ex:=[_,_]) ?_ rfl ?_ (hbx _) (hb2 _ _ _)
         · ((try simp -implicitDefEqProofs only[go_sem,resA,z02,rvA,oneOf,gL0]);first|done|rfl|(rw[z1x];rfl)|rw[rv_eq,hK])
         · simp)
      · rw[z0C,z17];have g2:(((K.length+1+1:Nat):Int)==1)=false:=by simp;omega
        simp -implicitDefEqProofs only[go_sem,gA hp,sA hp,gL0,sL0,gL1,sL1,List.length_map,g2];refine Fini.trim2 (ex:=[_,_]) ?_ rfl ?_ (z0h _ _) (hb2 _ _ _)
        · ((try simp -implicitDefEqProofs only[go_sem,resA,z02,rvA,oneOf,gL0]);first|done|rfl|(rw[z1x];rfl)|rw[rv_eq,hK])
        · simp
    · subst hb;have hlt:=z1w ho;have ha':(a1:Int)<s.size:=by omega
      simp -implicitDefEqProofs only[mkE,go_sem];refine CD.intro (z1N hp a1 d1 false _) ?_;simp -implicitDefEqProofs only[go_sem,ho,gA hp,sA hp,gL0,sL0,gL1,sL1,ha',z08,k124,n124,h5];rcases K with _|⟨y,_|⟨z,K⟩⟩
      · simp -implicitDefEqProofs only[go_sem,z3K,z53,gA hp,sA hp,gL0,sL0,gL1,sL1];refine Fini.trim2 (ex:=[_]) ?_ rfl ?_ (z0h _ _) (hb2 _ _ _)
        · ((try simp -implicitDefEqProofs only[go_sem,resA,z02,rvA,oneOf,gL0]);first|done|rfl|(rw[z1x];rfl)|rw[rv_eq,hK])
        · simp
      · have g3:(((1:Nat):Int)==1)=true:=rfl;have g4:((0:Int)<((1:Nat):Int))=True:=by simp
        have hbx:∀n,Bel n y.rv:=fun n=>z0h n y
        rw[z0C,z17,List.map_cons,List.map_nil,show(one 2 [y])=y from rfl]
        rw[rv_eq y]at hbx⊢;rcases rvK_cases y.ks with hK|⟨l,hK⟩
        all_goals rw[hK]at hbx⊢
        all_goals simp -implicitDefEqProofs only[go_sem,gA hp,sA hp,gL0,sL0,gL1,sL1,List.length_map,g3,g4,Int.toNat_zero]
        all_goals (
         refine Fini.trim2 (ex:=[_,_]) ?_ rfl ?_ (hbx _) (hb2 _ _ _)
         · ((try simp -implicitDefEqProofs only[go_sem,resA,z02,rvA,oneOf,gL0]);first|done|rfl|(rw[z1x];rfl)|rw[rv_eq,hK])
         · simp)
      · rw[z0C,z17];have g2:(((K.length+1+1:Nat):Int)==1)=false:=by simp;omega
        simp -implicitDefEqProofs only[go_sem,gA hp,sA hp,gL0,sL0,gL1,sL1,List.length_map,g2];refine Fini.trim2 (ex:=[_,_]) ?_ rfl ?_ (z0h _ _) (hb2 _ _ _)
        · ((try simp -implicitDefEqProofs only[go_sem,resA,z02,rvA,oneOf,gL0]);first|done|rfl|(rw[z1x];rfl)|rw[rv_eq,hK])
        · simp
    · subst hb;have hlt:=z1w ho;have ha':(a1:Int)<s.size:=by omega
      simp -implicitDefEqProofs only[mkE,go_sem];refine CD.intro (z1N hp a1 d1 false _) ?_;simp -implicitDefEqProofs only[go_sem,ho,gA hp,sA hp,gL0,sL0,gL1,sL1,ha',z08,k124,n124,h5,k41,n41,h6];rcases K with _|⟨y,_|⟨z,K⟩⟩
      · simp -implicitDefEqProofs only[go_sem,z3K,z53,gA hp,sA hp,gL0,sL0,gL1,sL1];refine Fini.trim2 (ex:=[_]) ?_ rfl ?_ (z0h _ _) (hb2 _ _ _)
        · ((try simp -implicitDefEqProofs only[go_sem,resA,z02,rvA,oneOf,gL0]);first|done|rfl|(rw[z1x];rfl)|rw[rv_eq,hK])
        · simp
      · have g3:(((1:Nat):Int)==1)=true:=rfl;have g4:((0:Int)<((1:Nat):Int))=True:=by simp
        have hbx:∀n,Bel n y.rv:=fun n=>z0h n y
        rw[z0C,z17,List.map_cons,List.map_nil,show(one 2 [y])=y from rfl]
        rw[rv_eq y]at hbx⊢;rcases rvK_cases y.ks with hK|⟨l,hK⟩
        all_goals rw[hK]at hbx⊢
        all_goals simp -implicitDefEqProofs only[go_sem,gA hp,sA hp,gL0,sL0,gL1,sL1,List.length_map,g3,g4,Int.toNat_zero]
        all_goals (
         refine Fini.trim2 (ex:=[_,_]) ?_ rfl ?_ (hbx _) (hb2 _ _ _)
         · ((try simp -implicitDefEqProofs only[go_sem,resA,z02,rvA,oneOf,gL0]);first|done|rfl|(rw[z1x];rfl)|rw[rv_eq,hK])
         · simp)
      · rw[z0C,z17];have g2:(((K.length+1+1:Nat):Int)==1)=false:=by simp;omega
        simp -implicitDefEqProofs only[go_sem,gA hp,sA hp,gL0,sL0,gL1,sL1,List.length_map,g2];refine Fini.trim2 (ex:=[_,_]) ?_ rfl ?_ (z0h _ _) (hb2 _ _ _)
        · ((try simp -implicitDefEqProofs only[go_sem,resA,z02,rvA,oneOf,gL0]);first|done|rfl|(rw[z1x];rfl)|rw[rv_eq,hK])
        · simp
 · simp[mkE,vK]
 · rfl
theorem z8y (F:DF) (d:Nat) (hF:DAns 189 false s d F) (hok:DOK 0 d F):DAns 180 false s d (dways s F):=by
 intro σ p a hp hs hg;refine Ans.of_run' t180 (fun hbel _=>?_)
 have hb2:=z5V hbel;simp -implicitDefEqProofs only[c180,r180,go_sem,List.append_assoc,List.length_append,List.length_set];unfold dways;simp only;refine CO.intro (hF.ex hp a hs hg _) ?_;have hd0:=hok.deep a;generalize F a=w0 at hd0⊢;obtain⟨x0,a0,d0,b0⟩:=w0;simp only at hd0⊢;have hm:s.size-a0<s.size+1:=by omega
 generalize hres:z2r s F (s.size+1) [x0] a0 d0 b0=res;rw[rv_eq x0];rcases rvK_cases x0.ks with hK0|⟨l0,hK0⟩
 all_goals rw[hK0]
 all_goals simp -implicitDefEqProofs only[go_sem,gA hp,sA hp,gL0,sL0,gL1,sL1,List.append_assoc,List.length_append,List.length_set]
 all_goals (
  refine L.intro (α:={ x:Nat×List Rex×Nat×Nat×Bool // z2r s F x.1 x.2.1 x.2.2.1 x.2.2.2.1 x.2.2.2.2=res∧s.size-x.2.2.1<x.1∧(x.2.2.2.2=false→x.2.2.2.1=d)∧x.2.1.length≤x.2.2.1+1∧x.2.1≠[] })
   (fun x=>x.1.1)
   (fun x=>mkE 41 [(0,.ptr p 0),(2,.ptr σ.length 0),(3,vK σ.length x.1.2.1)])
   (fun x=>σ.set p (dob s x.1.2.2.1 x.1.2.2.2.1 x.1.2.2.2.2)++exK x.1.2.1)
   (fun x J hJ=>?_) ⟨(s.size+1,[x0],a0,d0,b0),hres,hm,hd0,by simp,by simp⟩ ?_ ?_)
 all_goals try (simp[mkE,vK];done)
 all_goals try (simp only[z0C,List.map_cons,List.map_nil,rv_eq x0,hK0];done)
 all_goals (
  obtain⟨⟨n,K,a1,d1,b1⟩,h1,h2,h3,h4,h5⟩:=x;simp only at h1 h2 h3 h4 h5 hJ⊢;rcases n with _|n
  · omega
  rw[z2r]at h1;have k124:(((byteAt s a1:Nat):Int)==124)=(byteAt s a1==124):=z0m _ 124;have n124:(((byteAt s a1:Nat):Int) != 124)= !(byteAt s a1==124):=by rw[bne,k124]
  cases hgo:sees s a1 b1 124
  · rw[hgo,if_neg Bool.false_ne_true]at h1;subst h1;clear hJ h2;simp -implicitDefEqProofs only[mkE,go_sem];refine CD.intro (z1N hp a1 d1 b1 _) ?_;cases ho:over s a1 b1
    · have hb:b1=false:=by cases b1<;>simp[over]at ho⊢
      subst hb;have hlt:=z1w ho;have ha':(a1:Int)<s.size:=by omega
      rw[z0F ho]at hgo;simp -implicitDefEqProofs only[go_sem,ho,gA hp,sA hp,gL0,sL0,gL1,sL1,ha',z08,k124,n124,hgo];rcases K with _|⟨y,_|⟨z,K⟩⟩
      · exact absurd rfl h5
      · have g3:(((1:Nat):Int)==1)=true:=rfl;have g4:((0:Int)<((1:Nat):Int))=True:=by simp
        have hbx:∀n,Bel n y.rv:=fun n=>z0h n y
        rw[z0C,z17,List.map_cons,List.map_nil,show(one 3 [y])=y from rfl]
        rw[rv_eq y]at hbx⊢;rcases rvK_cases y.ks with hK|⟨l,hK⟩
        all_goals rw[hK]at hbx⊢
        all_goals simp -implicitDefEqProofs only[go_sem,gA hp,sA hp,gL0,sL0,gL1,sL1,List.length_map,g3,g4,Int.toNat_zero]
        all_goals (
         refine Fini.trim2 (ex:=[_,_]) ?_ rfl ?_ (hbx _) (hb2 _ _ _)
         · ((try simp -implicitDefEqProofs only[go_sem,resA,z02,rvA,oneOf,gL0]);first|done|rfl|(rw[z1x];rfl)|rw[rv_eq,hK])
         · simp)
      · rw[z0C,z17];have g2:(((K.length+1+1:Nat):Int)==1)=false:=by simp;omega
        simp -implicitDefEqProofs only[go_sem,gA hp,sA hp,gL0,sL0,gL1,sL1,List.length_map,g2];refine Fini.trim2 (ex:=[_,_]) ?_ rfl ?_ (z0h _ _) (hb2 _ _ _)
        · ((try simp -implicitDefEqProofs only[go_sem,resA,z02,rvA,oneOf,gL0]);first|done|rfl|(rw[z1x];rfl)|rw[rv_eq,hK])
        · simp
    · simp -implicitDefEqProofs only[go_sem,ho];rcases K with _|⟨y,_|⟨z,K⟩⟩
      · exact absurd rfl h5
      · have g3:(((1:Nat):Int)==1)=true:=rfl;have g4:((0:Int)<((1:Nat):Int))=True:=by simp
        have hbx:∀n,Bel n y.rv:=fun n=>z0h n y
        rw[z0C,z17,List.map_cons,List.map_nil,show(one 3 [y])=y from rfl]
        rw[rv_eq y]at hbx⊢;rcases rvK_cases y.ks with hK|⟨l,hK⟩
        all_goals rw[hK]at hbx⊢
        all_goals simp -implicitDefEqProofs only[go_sem,gA hp,sA hp,gL0,sL0,gL1,sL1,List.length_map,g3,g4,Int.toNat_zero]
        all_goals (
         refine Fini.trim2 (ex:=[_,_]) ?_ rfl ?_ (hbx _) (hb2 _ _ _)
         · ((try simp -implicitDefEqProofs only[go_sem,resA,z02,rvA,oneOf,gL0]);first|done|rfl|(rw[z1x];rfl)|rw[rv_eq,hK])
         · simp)
      · rw[z0C,z17];have g2:(((K.length+1+1:Nat):Int)==1)=false:=by simp;omega
        simp -implicitDefEqProofs only[go_sem,gA hp,sA hp,gL0,sL0,gL1,sL1,List.length_map,g2];refine Fini.trim2 (ex:=[_,_]) ?_ rfl ?_ (z0h _ _) (hb2 _ _ _)
        · ((try simp -implicitDefEqProofs only[go_sem,resA,z02,rvA,oneOf,gL0]);first|done|rfl|(rw[z1x];rfl)|rw[rv_eq,hK])
        · simp
  · rw[hgo,if_pos rfl]at h1;obtain⟨ha,hb⟩:=z9D hgo;subst hb;have hd1:=h3 rfl;subst hd1
    have ho:over s a1 false=false:=by
     cases h:over s a1 false
     · rfl
     · simp[sees,h]at hgo
    have ha':(a1:Int)<s.size:=by omega
    have hea:=hok.ge (a1+1);have hJ':=hJ ⟨(n,K++[(F (a1+1)).1],(F (a1+1)).2.1,(F (a1+1)).2.2.1,(F (a1+1)).2.2.2),h1,by simp only;omega,hok.deep (a1+1),by simp;omega,by simp⟩ (Nat.lt_succ_self n)
    simp only[z5n,z7o]at hJ';clear hJ h1;rw[z0F ho]at hgo;simp -implicitDefEqProofs only[mkE,go_sem];refine CD.intro (z1N hp a1 d1 false _) ?_;simp -implicitDefEqProofs only[go_sem,ho,gA hp,sA hp,gL0,sL0,gL1,sL1,ha',z08,k124,n124,hgo,z0V (show a1≤4294967296 by omega)]
    refine CO.intro (hF.ex hp (a1+1) hs (fun h=>absurd h Bool.false_ne_true) _) ?_
    generalize F (a1+1)=w at hJ' hea⊢;obtain⟨x,a2,d2,b2⟩:=w;simp only at hJ' hea⊢;rw[rv_eq x]at hJ'⊢;rcases K with _|⟨y,K⟩
    · exact absurd rfl h5
    have g1:(K.length+1+1≤2^32)=True:=by simp at h4;simp;omega
    rcases rvK_cases x.ks with hK|⟨l,hK⟩
    all_goals rw[hK]at hJ'⊢
    all_goals (
     simp -implicitDefEqProofs only[go_sem,z0C,z17,gA hp,sA hp,gL0,sL0,gL1,sL1,List.length_map,g1]at hJ'⊢
     simpa[mkE] using hJ'))
theorem zge:∀k,k≤8→DAns 180 false s (8-k) (DW s k)
 |0,_=>z8y s _ 8 (zat s _ 8 (z5X s _ 8 (z8w s _ 8 (Nat.le_refl _) (fun h=>absurd h (Nat.lt_irrefl _)) (fun h=>absurd h (Nat.lt_irrefl _))))
  (z3i s (z4y s (fun a=>Nat.le_refl _)))) (z9I s (z3i s (z4y s (fun a=>Nat.le_refl _))))
 |k+1,h=>by
  have ih:=zge k (by omega)
  have hk:=zgd s k;have e:8-(k+1)=7-k:=by omega
  have e2:8-k=7-k+1:=by omega
  rw[e2]at ih hk;rw[e]
  exact z8y s _ (7-k) (zat s _ (7-k) (z5X s _ (7-k) (z8w s _ (7-k) (by omega) (fun _=>ih) (fun _=>hk.deep)))
   (z3i s (z4y s hk.ge))) (z9I s (z3i s (z4y s hk.ge)))
theorem zbv (σ:St):Ans Tryz.prog 170 [Sx s] σ (.tup [(z8x s).1.rv,Bo (z8x s).2]) σ:=by
 have hw:s.size≤40→Ans Tryz.prog 180 [.ptr (σ.length+1) 0] (σ++[box0,dob s 0 0 false]) (DW s 8 0).1.rv (σ++[box0,dob s (DW s 8 0).2.1 (DW s 8 0).2.2.1 (DW s 8 0).2.2.2]):=by
  intro hs;have:=zge s 8 (Nat.le_refl _) (σ++[box0,dob s 0 0 false]) (σ.length+1) 0 (by simp) hs (fun h=>absurd h Bool.false_ne_true)
  have e:∀o,(σ++[box0,dob s 0 0 false]).set (σ.length+1) o=σ++[box0,o]:=fun o=>by rw[List.set_append_right _ _ (by omega)];simp
  rwa [e,e]at this
 have e40:decide ((40:Int)<(s.size:Int))=decide (40<s.size):=by rw[Bool.eq_iff_iff];simp;omega
 have k0:∀(x y:Ob) (ex:St),(σ++x::y::ex)[σ.length]?=some x:=fun x y ex=>by rw[List.getElem?_append_right (by simp)];simp
 have k0':∀(x:Ob),(σ++[x])[σ.length]?=some x:=fun x=>by rw[List.getElem?_append_right (by simp)];simp
 have k1:∀(x y:Ob) (ex:St),(σ++x::y::ex)[σ.length+1]?=some y:=fun x y ex=>by rw[List.getElem?_append_right (by simp)];simp
 have s0:∀(x z:Ob) (ex:St),(σ++x::ex).set σ.length z=σ++z::ex:=fun x z ex=>by rw[List.set_append_right _ _ (by simp)];simp
 refine Ans.of_run' t170 (fun hbel _=>?_)
 simp -implicitDefEqProofs only[c170,r170,go_sem,List.append_assoc,List.length_append,e40];unfold z8x
 cases h40:decide (40<s.size) with
 |true =>
  simp -implicitDefEqProofs only[go_sem,k0',s0];refine Fini.trim2 (σ':=σ) (ex:=[_]) ?_ rfl (Nat.le_refl _) ?_ hbel
  · simp -implicitDefEqProofs only[go_sem,resA,z02,rvA,oneOf,k0'];rfl
  · exact z3q (z0h _ zeroR) _
 |false =>
  have hs:s.size≤40:=by
   have:¬40<s.size:=by simpa using h40
   omega
  simp -implicitDefEqProofs only[go_sem,List.append_assoc,List.length_append];refine CO.intro (hw hs) ?_;generalize DW s 8 0=w;obtain⟨x,a,d,b⟩:=w;simp only;have eL:decide ((a:Int)<(s.size:Int))=decide (a<s.size):=by rw[Bool.eq_iff_iff];simp
  have hbx:∀n,Bel n x.rv:=fun n=>z0h n x
  rw[rv_eq x];have hrx:=rv_eq x;rcases rvK_cases x.ks with hK|⟨l,hK⟩
  all_goals (
   rw[hK]at hrx⊢;cases b
   · cases hlt:decide (a<s.size)
     · simp -implicitDefEqProofs only[go_sem,k0,k1,s0,List.append_assoc,List.length_append,eL,hlt,Bool.or_self,hrx];rw[hrx]at hbx;refine Fini.trim2 (σ':=σ) (ex:=[_,_]) ?_ rfl (Nat.le_refl _) ?_ hbel
       · simp -implicitDefEqProofs only[go_sem,resA,z02,rvA,oneOf,k0]
       · exact z3q (hbx _) _
     · simp -implicitDefEqProofs only[go_sem,k0,k1,s0,List.append_assoc,List.length_append,eL,hlt,Bool.or_true];refine Fini.trim2 (σ':=σ) (ex:=[_,_]) ?_ rfl (Nat.le_refl _) ?_ hbel
       · simp -implicitDefEqProofs only[go_sem,resA,z02,rvA,oneOf,k0];rfl
       · exact z3q (z0h _ zeroR) _
   · simp -implicitDefEqProofs only[go_sem,k0,k1,s0,List.append_assoc,List.length_append,Bool.true_or];refine Fini.trim2 (σ':=σ) (ex:=[_,_]) ?_ rfl (Nat.le_refl _) ?_ hbel
     · simp -implicitDefEqProofs only[go_sem,resA,z02,rvA,oneOf,k0];rfl
     · exact z3q (z0h _ zeroR) _)
end
theorem z2J (s:ByteArray) (a:Nat):pbyte s a false=if over s a false then(0,a,true) else(byteAt s a,a+1,false):=rfl
theorem zeN:∀c:Nat,c<256→(c==92)=false→within2.contains c=within.contains c:=by decide +kernel
theorem z5Z (s:ByteArray) (a:Nat):(z0p s a).2.2=(z06 s a false).2.2∧((z0p s a).2.2=false→z0p s a=z06 s a false):=by
 unfold z0p z06;rw[z2J]
 cases ho:over s a false with
 |true=>simp
 |false =>
  simp only[Bool.false_eq_true,if_false]
  cases hc:byteAt s a==92 with
  |true =>
   simp only[if_true];unfold psign;rw[z2J]
   cases ho2:over s (a+1) false with
   |true=>simp
   |false =>
    simp only[Bool.false_eq_true,if_false,Bool.false_or];cases signs.contains (byteAt s (a+1))<;>simp
  |false =>
   simp only[Bool.false_eq_true,if_false,Bool.false_or];rw[zeN _ (z23 s a) hc];exact⟨rfl,fun h=>rfl⟩
theorem zcR (s:ByteArray) (a:Nat):(dTo s a).2.2=(cTo s a false).2.2∧((dTo s a).2.2=false→dTo s a=cTo s a false∧z0p s a=z06 s a false):=by
 have h:=z5Z s a;unfold dTo cTo
 cases hb:(z0p s a).2.2 with
 |true =>
  have hb':(z06 s a false).2.2=true:=by rw[←h.1];exact hb
  rw[hb',z2q,z2q];simp[hb,hb']
 |false =>
  have e:=h.2 hb;rw[←e,hb]
  cases hse:sees s (z0p s a).2.1 false 45 with
  |true =>
   have h2:=z5Z s ((z0p s a).2.1+1);simp only[if_true];exact⟨h2.1,fun hg=>⟨h2.2 hg,trivial⟩⟩
  |false =>
   simp only[Bool.false_eq_true,if_false];exact⟨trivial,fun _=>⟨trivial,trivial⟩⟩
theorem zeO (s:ByteArray) (a:Nat):dBad s a=cBad s a false:=by
 have h:=zcR s a;unfold dBad cBad
 cases hb:(dTo s a).2.2 with
 |true=>rw[←h.1,hb];simp
 |false =>
  have e:=h.2 hb;rw[←e.1,←e.2,hb]
theorem z60 (s:ByteArray) (k:Nat) (S:List Int) (a:Nat):z1i s k S a true false=(S,a,true):=by
 cases k with
 |zero=>rfl
 |succ k=>rw[z1i];simp[cGo,over]
theorem z55 (s:ByteArray) (k:Nat) (S:List Int) (a n:Nat):z0W s k S a true n=(S,a,true,n):=by
 cases k with
 |zero=>rfl
 |succ k=>rw[z0W];simp[dGo,over]
theorem zgf (s:ByteArray) (a:Nat):cGo s a false false=dGo s a false:=by simp[cGo,dGo]
theorem z4e (s:ByteArray):∀(k:Nat) (S:List Int) (a n:Nat),
  (z0W s k S a false n).2.2.1=(z1i s k S a false false).2.2∧n≤(z0W s k S a false n).2.2.2 ∧
  ((z0W s k S a false n).2.2.1=false→(z0W s k S a false n).1=(z1i s k S a false false).1∧(z0W s k S a false n).2.1=(z1i s k S a false false).2.1)
 |0,S,a,n=>⟨rfl,Nat.le_refl _,fun _=>⟨rfl,rfl⟩⟩
 |k+1,S,a,n=>by
  rw[z0W,z1i,zgf]
  cases hg:dGo s a false with
  |false=>exact⟨rfl,Nat.le_refl _,fun _=>⟨rfl,rfl⟩⟩
  |true =>
   simp only[if_true];rw[←zeO]
   cases hb:dBad s a with
   |true=>rw[z55,z60];exact⟨rfl,Nat.le_succ _,fun h=>absurd h (by simp)⟩
   |false =>
    have hto:(dTo s a).2.2=false:=by
     unfold dBad at hb;cases h:(dTo s a).2.2
     · rfl
     · rw[h]at hb;simp at hb
    have e:=(zcR s a).2 hto;rw[←e.1,←e.2];have ih:=z4e s k (addR S (z0p s a).1 ((dTo s a).1+1-(z0p s a).1)) (dTo s a).2.1 (n+1);exact⟨ih.1,Nat.le_trans (Nat.le_succ _) ih.2.1,ih.2.2⟩
theorem z56 (s:ByteArray):∀(k:Nat) (S:List Int) (a:Nat) (b:Bool) (n:Nat),s.size-a<k→dGo s (z0W s k S a b n).2.1 (z0W s k S a b n).2.2.1=false
 |0,S,a,b,n,h=>by omega
 |k+1,S,a,b,n,h=>by
  rw[z0W]
  cases hg:dGo s a b with
  |false=>exact hg
  |true =>
   have ho:over s a b=false:=by
    cases h:over s a b
    · rfl
    · simp[dGo,h]at hg
   have hlt:=z1w ho;have hb:b=false:=by cases b<;>simp[over]at ho⊢
   subst hb;have h1:=z6S s a ho;have h2:=zcM s a;exact z56 s k _ _ _ _ (by omega)
theorem zbw (s:ByteArray) (a:Nat):(z1S s a).2.2=(z2p s a false).2.2∧((z1S s a).2.2=false→(z1S s a).1=ofSet (z2p s a false).1∧(z1S s a).2.1=(z2p s a false).2.1):=by
 have h1:=z4e s (s.size+3) z4 (nextA s a false 94) 0;have h2:=z56 s (s.size+3) z4 (nextA s a false 94) false 0 (by omega)
 unfold z1S dOut z2p;simp only
 cases hg:dGo s (nextA s a false 94) false with
 |false =>
  have e:z0W s (s.size+3) z4 (nextA s a false 94) false 0=(z4,nextA s a false 94,false,0):=by rw[z0W,hg];rfl
  have hbad:(z1i s (s.size+3) z4 (nextA s a false 94) false true).2.2=true:=by
   rw[z1i];rw[if_pos (show cGo s (nextA s a false 94) false true=true from rfl)]
   have hm:(z06 s (nextA s a false 94) false).2.2=true:=by
    generalize nextA s a false 94=a0 at hg;unfold z06;rw[z2J]
    cases ho:over s a0 false with
    |true=>simp
    |false =>
     have h93:sees s a0 false 93=true:=by simpa[dGo,ho] using hg
     rw[z0F ho]at h93;have e93:byteAt s a0=93:=by simpa using h93
     simp[e93,within]
   have hc:cBad s (nextA s a false 94) false=true:=by
    unfold cBad;rw[zal s _ false hm];rfl
   rw[hc,z60]
  rw[e,hbad];simp
 |true =>
  have ef:z1i s (s.size+3) z4 (nextA s a false 94) false true=z1i s (s.size+3) z4 (nextA s a false 94) false false:=by
   have step:∀first,z1i s (s.size+3) z4 (nextA s a false 94) false first=if cGo s (nextA s a false 94) false first then
     z1i s (s.size+2) (addR z4 (z06 s (nextA s a false 94) false).1 ((cTo s (nextA s a false 94) false).1+1-(z06 s (nextA s a false 94) false).1)) (cTo s (nextA s a false 94) false).2.1 (cBad s (nextA s a false 94) false) false
     else(z4,nextA s a false 94,false):=fun _=>rfl
   rw[step true,step false,zgf,hg];rfl
  have hn:1≤(z0W s (s.size+3) z4 (nextA s a false 94) false 0).2.2.2:=by
   rw[z0W,hg,if_pos rfl]
   cases hb:dBad s (nextA s a false 94) with
   |true=>rw[z55];exact Nat.le_refl _
   |false=>exact(z4e s (s.size+2) _ _ (0+1)).2.1
  rw[ef];have h1':(z0W s (s.size+3) [0,0,0,0] (nextA s a false 94) false 0).2.2.1=(z1i s (s.size+3) [0,0,0,0] (nextA s a false 94) false false).2.2:=h1.1;generalize z0W s (s.size+3) z4 (nextA s a false 94) false 0=l at h1 h2 hn⊢;obtain⟨S,a1,b1,n⟩:=l;generalize z1i s (s.size+3) z4 (nextA s a false 94) false false=r at h1⊢;obtain⟨S',a',b'⟩:=r;simp only at h1 h2 hn⊢;obtain⟨hb,_,he⟩:=h1;subst hb;have hn0:(n==0)=false:=by simp;omega
  rw[hn0,Bool.or_false]
  cases b1 with
  |true=>simp[over]
  |false =>
   obtain⟨rfl,rfl⟩:=he rfl
   cases ho:over s a1 false with
   |true=>simp[sees,ho]
   |false =>
    have h93:sees s a1 false 93=true:=by simpa[dGo,ho] using h2
    simp[h93,nextA]
theorem zeP:∀r:Nat,r<64→orU 0 (bitU r)=bitU r:=by decide +kernel
theorem zcS (c:Nat) (hc:c<256):oneS c=z2Q z4 c:=by
 unfold oneS z2Q;have h4:c/64<4:=by omega
 have:z4.getD (c/64) 0=0:=by
  generalize c/64=k at h4
  match k,h4 with
  |0,_=>rfl
  |1,_=>rfl
  |2,_=>rfl
  |3,_=>rfl
 rw[this,zeP _ (by omega)]
theorem zgQ:turnS z4=fullS:=by decide +kernel
theorem z8z:∀c:Nat,c<256→((specials.contains c==stray.contains c)||(c==40||c==91||c==46||c==92||c==124||c==41))=true:=by decide +kernel
theorem z9J:∀c:Nat,c<256→(c==40)=false→(c==91)=false→(c==46)=false→(c==92)=false→(c==124)=false→(c==41)=false→specials.contains c=stray.contains c:=by
 intro c hc h1 h2 h3 h4 h5 h6;have:=z8z c hc;rw[h1,h2,h3,h4,h5,h6]at this;simpa using this
def Agr (cond:Nat→Prop) (P:PF) (F:DF):Prop :=
 ∀a,cond a→(F a).2.2.2=(P a false).2.2∧((F a).2.2.2=false→(F a).1=(P a false).1∧(F a).2.1=(P a false).2.1)
def z6W (s:ByteArray) (a:Nat):Prop:=wGo s a false=true
theorem zeQ (s:ByteArray) {P:PF} {F:DF} {d:Nat} (hd:d≤8) (h:d<8→Agr (fun _=>True) P F):Agr (z6W s) (patom s P d) (datom s F d):=by
 intro a hg;have ho:over s a false=false:=by simp[z6W,wGo]at hg;exact hg.1
 have h124:(byteAt s a==124)=false:=by rw[←z0F ho];simp[z6W,wGo]at hg;exact hg.2.1
 have h41:(byteAt s a==41)=false:=by rw[←z0F ho];simp[z6W,wGo]at hg;exact hg.2.2
 have hc:=z23 s a;unfold patom datom;simp only;rw[z2J,ho];simp only[Bool.false_eq_true,if_false,Bool.false_or]
 cases h40:byteAt s a==40 with
 |true =>
  have e40:byteAt s a=40:=by simpa using h40
  rw[e40];have hd8:decide (8<d+1)=(d==8):=by rw[Bool.eq_iff_iff];simp;omega
  rw[hd8]
  cases h8:d==8 with
  |true=>simp
  |false =>
   have hd7:d<8:=by
    have:d≠8:=by simpa using h8
    omega
   have ih:=h hd7 (a+1) trivial;generalize F (a+1)=w at ih⊢;generalize P (a+1) false=v at ih⊢;obtain⟨x,a1,d1,b1⟩:=w;obtain⟨y,a2,b2⟩:=v;simp only at ih;obtain⟨hb,he⟩:=ih;subst hb
   cases b1 with
   |true=>simp[z2q]
   |false =>
    obtain⟨rfl,rfl⟩:=he rfl;cases hse:sees s a1 false 41<;>simp[hse,nextA]
 |false =>
  cases h91:byteAt s a==91 with
  |true =>
   have e91:byteAt s a=91:=by simpa using h91
   have ih:=zbw s (a+1);simp[e91];exact ih
  |false =>
   cases h46:byteAt s a==46 with
   |true=>simp[zgQ]
   |false =>
    cases h92:byteAt s a==92 with
    |true =>
     have e92:byteAt s a=92:=by simpa using h92
     simp only[Bool.false_eq_true,if_false,if_true];unfold psign;rw[z2J]
     cases ho2:over s (a+1) false with
     |true=>simp
     |false =>
      have:=zcS _ (z23 s (a+1));simp only[Bool.false_eq_true,if_false,Bool.false_or];cases hq:signs.contains (byteAt s (a+1))<;>simp[this]
    |false =>
     rw[←z9J _ hc h40 h91 h46 h92 h124 h41];simp only[Bool.false_eq_true,if_false];cases hsp:specials.contains (byteAt s a)
     · simp[zcS _ hc]
     · simp
theorem zbx (s:ByteArray) {P:PF} {F:DF} {c:Nat→Prop} (h:Agr c P F):Agr c (z32 s P) (z3r s F):=by
 intro a ha;have ih:=h a ha;unfold z32 z3r;simp only;generalize F a=w at ih⊢;generalize P a false=v at ih⊢;obtain⟨x,a1,d1,b1⟩:=w;obtain⟨y,a2,b2⟩:=v;simp only at ih⊢;obtain⟨hb,he⟩:=ih;subst hb
 cases b1 with
 |true=>simp[z2q]
 |false =>
  obtain⟨rfl,rfl⟩:=he rfl;cases sees s a1 false 42<;>cases sees s a1 false 43<;>cases sees s a1 false 63<;>simp
theorem zau (s:ByteArray) (a:Nat):wGo s a true=false:=by simp[wGo,over]
theorem zby (s:ByteArray) (P:PF) (n:Nat) (K:List Rex) (a:Nat):(pwayL s P n K a true).2.2=true:=by
 cases n with
 |zero=>rfl
 |succ n=>rw[pwayL,zau];rfl
theorem zbz (s:ByteArray) (F:DF) (n:Nat) (K:List Rex) (a d:Nat):(dwayL s F n K a d true).2.2.2=true:=by
 cases n with
 |zero=>rfl
 |succ n=>rw[dwayL,zau];rfl
theorem zav (s:ByteArray) {P:PF} {F:DF} (h:Agr (z6W s) P F):∀(n:Nat) (K:List Rex) (a d:Nat),
  (dwayL s F n K a d false).2.2.2=(pwayL s P n K a false).2.2∧((dwayL s F n K a d false).2.2.2=false→(dwayL s F n K a d false).1=(pwayL s P n K a false).1∧(dwayL s F n K a d false).2.1=(pwayL s P n K a false).2.1)
 |0,K,a,d=>⟨rfl,fun _=>⟨rfl,rfl⟩⟩
 |n+1,K,a,d=>by
  rw[dwayL,pwayL]
  cases hg:wGo s a false with
  |false=>exact⟨rfl,fun _=>⟨rfl,rfl⟩⟩
  |true =>
   simp only[if_true];have ih:=h a hg;generalize F a=w at ih⊢;generalize P a false=v at ih⊢;obtain⟨x,a1,d1,b1⟩:=w;obtain⟨y,a2,b2⟩:=v;simp only at ih⊢;obtain⟨hb,he⟩:=ih;subst hb
   cases b1 with
   |true=>rw[zbz,zby];simp
   |false =>
    obtain⟨rfl,rfl⟩:=he rfl;exact zav s h n (K++[x]) a1 d1
theorem zgR (s:ByteArray) {P:PF} {F:DF} (h:Agr (z6W s) P F) (d:Nat):Agr (fun _=>True) (pway s P) (dway s F d):=by
 intro a _;have ih:=zav s h (s.size+1) [] a d;unfold pway dway;simp only;exact⟨ih.1,fun hb=>⟨by rw[(ih.2 hb).1],(ih.2 hb).2⟩⟩
theorem z61 (s:ByteArray) (P:PF) (n:Nat) (K:List Rex) (a:Nat):(z2F s P n K a true).2.2=true:=by
 cases n with
 |zero=>rfl
 |succ n=>rw[z2F,z2q];rfl
theorem z62 (s:ByteArray) (F:DF) (n:Nat) (K:List Rex) (a d:Nat):(z2r s F n K a d true).2.2.2=true:=by
 cases n with
 |zero=>rfl
 |succ n=>rw[z2r,z2q];rfl
theorem z8A (s:ByteArray) {P:PF} {F:DF} (h:Agr (fun _=>True) P F):∀(n:Nat) (K:List Rex) (a d:Nat),
  (z2r s F n K a d false).2.2.2=(z2F s P n K a false).2.2∧((z2r s F n K a d false).2.2.2=false→(z2r s F n K a d false).1=(z2F s P n K a false).1∧(z2r s F n K a d false).2.1=(z2F s P n K a false).2.1)
 |0,K,a,d=>⟨rfl,fun _=>⟨rfl,rfl⟩⟩
 |n+1,K,a,d=>by
  rw[z2r,z2F]
  cases hg:sees s a false 124 with
  |false=>exact⟨rfl,fun _=>⟨rfl,rfl⟩⟩
  |true =>
   simp only[if_true];have ih:=h (a+1) trivial;generalize F (a+1)=w at ih⊢;generalize P (a+1) false=v at ih⊢;obtain⟨x,a1,d1,b1⟩:=w;obtain⟨y,a2,b2⟩:=v;simp only at ih⊢;obtain⟨hb,he⟩:=ih;subst hb
   cases b1 with
   |true=>rw[z62,z61];simp
   |false =>
    obtain⟨rfl,rfl⟩:=he rfl;exact z8A s h n (K++[x]) a1 d1
theorem zeR (s:ByteArray) {P:PF} {F:DF} (h:Agr (fun _=>True) P F):Agr (fun _=>True) (pways s P) (dways s F):=by
 intro a _;have ih:=h a trivial;unfold pways dways;simp only;generalize F a=w at ih⊢;generalize P a false=v at ih⊢;obtain⟨x,a1,d1,b1⟩:=w;obtain⟨y,a2,b2⟩:=v;simp only at ih⊢;obtain⟨hb,he⟩:=ih;subst hb
 cases b1 with
 |true=>rw[z62,z61];simp
 |false =>
  obtain⟨rfl,rfl⟩:=he rfl;have ih:=z8A s h (s.size+1) [x] a1 d1;exact⟨ih.1,fun hb=>⟨by rw[(ih.2 hb).1],(ih.2 hb).2⟩⟩
theorem zcT (s:ByteArray) {P:PF} {F:DF} {d:Nat} (hd:d≤8) (h:d<8→Agr (fun _=>True) P F):Agr (fun _=>True) (lvl s P d) (dlvl s F d) :=
 zeR s (zgR s (zbx s (zeQ s hd h)) d)
theorem agr_W (s:ByteArray):∀k,Agr (fun _=>True) (PW s k) (DW s k)
 |0=>zcT s (Nat.le_refl _) (fun h=>absurd h (Nat.lt_irrefl _))
 |k+1=>zcT s (by omega) (fun _=>agr_W s k)
theorem zcU (s:ByteArray):z8x s=z2G s:=by
 unfold z8x z2G;simp only
 cases h40:decide (40<s.size) with
 |true =>
  have:=(zao s 8 0 true).2 rfl;rw[this];rfl
 |false =>
  have ih:=agr_W s 8 0 trivial;simp only[Bool.false_eq_true,if_false];generalize DW s 8 0=w at ih⊢;generalize PW s 8 0 false=v at ih⊢;obtain⟨x,a1,d1,b1⟩:=w;obtain⟨y,a2,b2⟩:=v;simp only at ih⊢;obtain⟨hb,he⟩:=ih;subst hb
  cases b1 with
  |true=>simp;rfl
  |false =>
   obtain⟨rfl,rfl⟩:=he rfl;rfl
theorem zcV (σ:St) (k:Int) (nm v:ByteArray):Ans Tryz.prog 169 [mat k nm v] σ (Bo (likeB k)) σ:=by
 refine Ans.of_run t169 ?_;simp -implicitDefEqProofs only[c169,r169,go_sem];unfold likeB;cases h:k==3
 · simp -implicitDefEqProofs only[go_sem];exact Fini.ret rfl
 · simp -implicitDefEqProofs only[go_sem];exact Fini.ret rfl
def okN (s:ByteArray) (i:Nat):Bool:=z2H (byteAt s i)||(!(i==0)&&z54 (byteAt s i))
def nameD (s:ByteArray):Bool:=(List.range s.size).all (okN s)&&(decide (1≤s.size)&&decide (s.size≤12))
theorem zeS (s:ByteArray):nameD s=nameB s:=by
 unfold nameD nameB;by_cases h1:1≤s.size
 · by_cases h2:s.size≤12
   · rw[decide_eq_true h1,decide_eq_true h2];simp only[Bool.and_self,Bool.and_true,Bool.true_and];rw[Bool.eq_iff_iff];simp only[Bool.and_eq_true,List.all_eq_true,List.mem_range,okN,Bool.or_eq_true,Bool.not_eq_true',beq_eq_false_iff_ne];constructor
     · intro h;refine⟨?_,fun i hi=>?_⟩
       · rcases h 0 (by omega) with h|h
         · exact h
         · exact absurd rfl h.1
       · rcases h i hi with h|h
         · exact .inl h
         · exact .inr h.2
     · rintro⟨h0,h⟩ i hi;by_cases hz:i=0
       · subst hz;exact .inl h0
       · rcases h i hi with h|h
         · exact .inl h
         · exact .inr ⟨hz,h⟩
   · rw[decide_eq_false h2];simp
 · rw[decide_eq_false h1];simp
set_option maxHeartbeats 16000000 in
theorem z63 (σ:St) (s:ByteArray) (hs:s.size≤100000):Ans Tryz.prog 121 [Sx s] σ (Bo (nameB s)) σ:=by
 rw[←zeS];refine Ans.of_run t121 ?_;simp -implicitDefEqProofs only[c121,r121,go_sem];refine Go.Ab.L.scan s.size (okN s) (fun i=>mkE 55 [(0,Sx s),(3,I i)]) (fun _=>σ) ?_ ?_ rfl rfl
 · intro i hi hp J hJ;have hlt:((i:Int)<s.size)=True:=by simp;omega
   have hdi:decide ((i:Int)<s.size)=true:=by simp;omega
   have hin:=z0V (n:=i) (by omega)
   have hF:okN s i=false→nameD s=false:=fun h=>by
    rw[nameD,List.all_eq_false.2 ⟨i,List.mem_range.2 hi,by simp[h]⟩];rfl
   have e1:decide ((97:Int)≤(byteAt s i:Nat))=decide (97≤byteAt s i):=z3F 97 _;have e2:decide (((byteAt s i:Nat):Int)≤122)=decide (byteAt s i≤122):=z3F _ 122;have e3:decide ((65:Int)≤(byteAt s i:Nat))=decide (65≤byteAt s i):=z3F 65 _;have e4:decide (((byteAt s i:Nat):Int)≤90)=decide (byteAt s i≤90):=z3F _ 90;have e5:(((byteAt s i:Nat):Int)==95)=(byteAt s i==95):=z0m _ 95;have e6:decide (((byteAt s i:Nat):Int)<48)=decide (byteAt s i<48):=decN _ 48;have e7:decide ((57:Int)<(byteAt s i:Nat))=decide (57<byteAt s i):=decN 57 _;have e8:((i:Int)==0)=(i==0):=z0m i 0
   have hd:z54 (byteAt s i)=(!decide (byteAt s i<48)&& !decide (57<byteAt s i)):=by
    unfold z54;rw[Bool.eq_iff_iff];simp
   have hL:z2H (byteAt s i)=(decide (97≤byteAt s i)&&decide (byteAt s i≤122)||decide (65≤byteAt s i)&&decide (byteAt s i≤90)||byteAt s i==95):=rfl;have hO:okN s i=(z2H (byteAt s i)||(!(i==0)&&z54 (byteAt s i))):=rfl;rw[hO,hL,hd]at hF hJ;generalize decide (97≤byteAt s i)=b1 at *;generalize decide (byteAt s i≤122)=b2 at *;generalize decide (65≤byteAt s i)=b3 at *;generalize decide (byteAt s i≤90)=b4 at *;generalize (byteAt s i==95)=b5 at *;generalize decide (byteAt s i<48)=b6 at *;generalize decide (57<byteAt s i)=b7 at *;generalize (i==0)=b8 at *;clear hL hd hO;simp -implicitDefEqProofs only[mkE,go_sem,hlt,hdi,z08];cases b1<;>cases b2<;>cases b3<;>cases b4<;>cases b5
   all_goals simp -implicitDefEqProofs only[go_sem,e1,e2,e3,e4,e5,e6,e7,e8,hin]
   all_goals first
    |exact hJ rfl
    |(cases b8<;>cases b6<;>cases b7<;>simp -implicitDefEqProofs only[go_sem,e6,e7,e8,hin]<;>first
     |exact hJ rfl
     |(refine Fini.ret' rfl (z0U ?_);exact(hF rfl).symm))
 · intro hp J;have hdi:decide ((s.size:Int)<s.size)=false:=by simp
   have d1:decide ((1:Int)≤s.size)=decide (1≤s.size):=z3F 1 _;have d2:decide ((s.size:Int)≤12)=decide (s.size≤12):=z3F _ 12;have hA:(List.range s.size).all (okN s)=true:=List.all_eq_true.2 fun i hi=>hp i (List.mem_range.1 hi)
   rw[nameD,hA,Bool.true_and]
   cases h1:decide (1≤s.size) with
   |true =>
    rw[h1]at d1;simp -implicitDefEqProofs only[mkE,go_sem,hdi,d1,d2];exact Fini.ret rfl
   |false =>
    rw[h1]at d1;simp -implicitDefEqProofs only[mkE,go_sem,hdi,d1,d2];exact Fini.ret rfl
theorem zgS (σ:St) (k:Int) (nm v:ByteArray) (hs:nm.size≤100000):Ans Tryz.prog 149 [mat k nm v] σ (Bo (isB k nm v)) σ:=by
 refine Ans.of_run t149 ?_;unfold isB;simp -implicitDefEqProofs only[c149,r149,go_sem];refine CO.intro (z63 σ nm hs) ?_
 cases hn:nameB nm with
 |false =>
  simp -implicitDefEqProofs only[go_sem];exact Fini.ret rfl
 |true =>
 simp -implicitDefEqProofs only[go_sem];refine CO.intro (zcV σ k nm v) ?_
 cases hk:likeB k with
 |true =>
  simp -implicitDefEqProofs only[go_sem];refine CO.intro (zbv v σ) ?_;rw[zcU];have hrv:=Rex.rv_eq (z2G v).1;generalize (z2G v).1=x at hrv⊢;generalize (z2G v).2=b;rw[hrv];rcases Rex.rvK_cases x.ks with e|⟨l,e⟩<;>rw[e]
  all_goals (simp -implicitDefEqProofs only[go_sem];exact Fini.ret rfl)
 |false =>
  have d:decide ((v.size:Int)≤24)=decide (v.size≤24):=z3F v.size 24;simp -implicitDefEqProofs only[go_sem]
  cases h1:k==1 with
  |true =>
   simp -implicitDefEqProofs only[go_sem,d];exact Fini.ret rfl
  |false =>
   simp -implicitDefEqProofs only[go_sem]
   cases h2:k==2 with
   |true =>
    simp -implicitDefEqProofs only[go_sem,d];exact Fini.ret rfl
   |false =>
    simp -implicitDefEqProofs only[go_sem];exact Fini.ret rfl
end Go.Proofs.YtmkmhhjkdaklbaaGreat
namespace Go.Proofs.YtmkmhhjkdaklbaaGreat
open Go Go.Ab
set_option maxRecDepth 100000
theorem zbA (σ:St) (x y:Mtr):Ans Tryz.prog 150 [mv3 x,mv3 y] σ (Bo (z3L x y)) σ:=by
 refine Ans.of_run t150 ?_;unfold z3L;simp -implicitDefEqProofs only[c150,r150,go_sem,mv3]
 cases h1:(x.2.1.toList==y.2.1.toList) with
 |false =>
  simp -implicitDefEqProofs only[go_sem];exact Fini.ret rfl
 |true =>
  simp -implicitDefEqProofs only[go_sem]
  cases h2:(x.1==y.1) with
  |false =>
   simp -implicitDefEqProofs only[go_sem,bne,h2];exact Fini.ret rfl
  |true =>
   simp -implicitDefEqProofs only[go_sem,bne,h2];exact Fini.ret rfl
theorem zaw (M:List Mtr) (i:Nat) (h:i<M.length):(mvs3 M)[i]?=some (mv3 M[i]):=by simp[mvs3,h]
theorem z0n (M:List Mtr):(mvs3 M).length=M.length:=List.length_map ..
abbrev noM3:Mtr:=(0,⟨#[]⟩,⟨#[]⟩)
def isM (x:Mtr):Bool:=isB x.1 x.2.1 x.2.2
def okL (M:List Mtr) (i:Nat):Bool:=isM (M.getD i noM3)&&(i==0||z3L (M.getD (i-1) noM3) (M.getD i noM3))
def listB (M:List Mtr):Bool:=decide (M.length≤5)&&(List.range M.length).all (okL M)
theorem z6X (M:List Mtr) (i:Nat) (h:i<M.length):(mvs3 M)[i]?=some (mv3 (M.getD i noM3)):=by
 rw[zaw M i h,List.getD_eq_getElem?_getD,List.getElem?_eq_getElem h];rfl
theorem z1o (σ:St) (M:List Mtr) (hs:∀x∈M,x.2.1.size≤100000):Ans Tryz.prog 117 [.sl 3 (mvs3 M)] σ (Bo (listB M)) σ:=by
 refine Ans.of_run t117 ?_;have d5:decide ((5:Int)<M.length)=decide (5<M.length):=decN 5 _;unfold listB;simp -implicitDefEqProofs only[c117,r117,go_sem,z0n,d5];by_cases hl:M.length≤5
 · rw[decide_eq_true hl,Bool.true_and];have h5:decide (5<M.length)=false:=decide_eq_false (by omega)
   simp -implicitDefEqProofs only[go_sem,h5];refine Go.Ab.L.scan M.length (okL M) (fun i=>mkE 36 [(0,.sl 3 (mvs3 M)),(3,I i)]) (fun _=>σ) ?_ ?_ rfl rfl
   · intro i hi hp J hJ;have hF:okL M i=false→(List.range M.length).all (okL M)=false:=fun h=>List.all_eq_false.2 ⟨i,List.mem_range.2 hi,by simp[h]⟩
     have hx:=z6X M i hi
     have hsz:(M.getD i noM3).2.1.size≤100000:=by
      rw[List.getD_eq_getElem?_getD,List.getElem?_eq_getElem hi];exact hs _ (List.getElem_mem hi)
     have hin:=z0V (n:=i) (by omega)
     have hI:=fun σ=>zgS σ (M.getD i noM3).1 (M.getD i noM3).2.1 (M.getD i noM3).2.2 hsz
     have hO:okL M i=(isB (M.getD i noM3).1 (M.getD i noM3).2.1 (M.getD i noM3).2.2&&(i==0||z3L (M.getD (i-1) noM3) (M.getD i noM3))):=rfl;have d0:decide ((0:Int)<i)=decide (0<i):=decN 0 i;rw[hO]at hJ hF;simp -implicitDefEqProofs only[mkE,go_sem,z0n,z0f hi,dec_lt hi,hx,mv3,z00]
     first|refine CD.intro (hI _) ?_|refine CS.intro hI ?_
     generalize isB (M.getD i noM3).1 (M.getD i noM3).2.1 (M.getD i noM3).2.2=b1 at hJ hF
     cases b1 with
     |false =>
      simp -implicitDefEqProofs only[go_sem];refine Fini.ret' rfl (z0U ?_);rw[hF rfl]
     |true =>
      by_cases hz:i=0
      · subst hz;simp -implicitDefEqProofs only[go_sem,hin,z00,Int.natCast_zero];exact hJ rfl
      · have hpos:decide (0<i)=true:=by simp;omega
        have hx1:=z6X M (i-1) (by omega)
        have hB:=fun σ=>zbA σ (M.getD (i-1) noM3) (M.getD i noM3)
        have w1:IntKind.i64.wrap ((i:Int)-1)=((i-1:Nat):Int):=by rw[wrapN (by omega) (by omega)];omega
        have hlt1:(((i-1:Nat):Int)<M.length)=True:=by simp;omega
        have hz':(i==0)=false:=by simpa using hz
        rw[hz']at hJ hF;simp -implicitDefEqProofs only[go_sem,d0,hpos,w1,z0n,z0f hi,dec_lt hi,hlt1,hx,hx1,z00,mv3]
        first|refine CD.intro (hB _) ?_|refine CS.intro hB ?_
        generalize z3L (M.getD (i-1) noM3) (M.getD i noM3)=b2 at hJ hF
        cases b2 with
        |true =>
         simp -implicitDefEqProofs only[go_sem,hin];exact hJ rfl
        |false =>
         simp -implicitDefEqProofs only[go_sem];refine Fini.ret' rfl (z0U ?_);rw[hF rfl]
   · intro hp J;have hd:decide ((M.length:Int)<M.length)=false:=by simp
     simp -implicitDefEqProofs only[mkE,go_sem,z0n,hd];refine Fini.ret' rfl (z0U ?_);exact(List.all_eq_true.2 fun i hi=>hp i (List.mem_range.1 hi)).symm
 · rw[decide_eq_false hl,Bool.false_and];have h5:decide (5<M.length)=true:=decide_eq_true (by omega)
   simp -implicitDefEqProofs only[go_sem,h5];exact Fini.ret rfl
end Go.Proofs.YtmkmhhjkdaklbaaGreat
