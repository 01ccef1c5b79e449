/- One field of a request out of bytes, by the document. Printed by a program. No condition. -/
import Derived.Test.YtmkmhhjkdaklbaaGreatRc9x
import Derived.Test.YtmkmhhjkdaklbaaGreatXNinex
import Derived.Test.YtmkmhhjkdaklbaaGreatProg
import Derived.Test.YtmkmhhjkdaklbaaGreatAbStepx
import Derived.Test.YtmkmhhjkdaklbaaGreatRq2cx
import Derived.Test.YtmkmhhjkdaklbaaGreatXMt1x
import Derived.Test.YtmkmhhjkdaklbaaGreatXMr2x
import Derived.Test.YtmkmhhjkdaklbaaGreatXMCode1x
import Derived.Test.YtmkmhhjkdaklbaaGreatRc5x
import Derived.Test.YtmkmhhjkdaklbaaGreatAbTreex
import Derived.Test.YtmkmhhjkdaklbaaGreatXMCode2x
set_option linter.unusedSimpArgs false
set_option linter.unusedVariables false
set_option linter.unusedSectionVars false
namespace Go.Ab
open Go
theorem L.step {P:Program} {n0:Nat} {clr:List Tmp} {x:ACode} {k:List Fr} {B:Bs} {env:Env} {σ:St}
  (h:∀J:Env→St→Prop,(∀env σ,L P n0 clr x k B env σ→J env σ)→R P n0 x (.loop J clr::k) B env σ):L P n0 clr x k B env σ:=by
 unfold L;intro I hI;refine hI _ _ (h I fun env' σ' hl=>?_)
 unfold L at hl;exact hl I hI
end Go.Ab
namespace Go.Proofs.YtmkmhhjkdaklbaaGreat
open Go Go.Ab Go.Cod
set_option maxRecDepth 100000
section
variable (σ:St) (p:Nat) (b:Byt) (hb:b.length≤50000)
include hb in
end
end Go.Proofs.YtmkmhhjkdaklbaaGreat
namespace Go.Proofs.YtmkmhhjkdaklbaaGreat
open Go Go.Ab Go.Cod
set_option maxRecDepth 100000
theorem sz_0:((S0.size:Nat):Int)=1:=rfl
theorem ds_0:(S0.toList==(⟨#[45]⟩:ByteArray).toList)=true:=by decide +kernel
theorem sz_1:((S1.size:Nat):Int)=1:=rfl
theorem ds_1:(S1.toList==(⟨#[45]⟩:ByteArray).toList)=false:=by decide +kernel
theorem sz_3:((S3.size:Nat):Int)=2:=rfl
theorem ds_3:(S3.toList==(⟨#[45]⟩:ByteArray).toList)=false:=by decide +kernel
theorem zhc:((S116.size:Nat):Int)=4:=rfl
theorem zhd:(S116.toList==(⟨#[45]⟩:ByteArray).toList)=false:=by decide +kernel
theorem zhe:((S117.size:Nat):Int)=5:=rfl
theorem zhf:(S117.toList==(⟨#[45]⟩:ByteArray).toList)=false:=by decide +kernel
theorem sz_8:((S8.size:Nat):Int)=1:=rfl
theorem ds_8:(S8.toList==(⟨#[45]⟩:ByteArray).toList)=false:=by decide +kernel
theorem zhg:((S128.size:Nat):Int)=1:=rfl
theorem zhh:(S128.toList==(⟨#[45]⟩:ByteArray).toList)=false:=by decide +kernel
theorem zhi:((S768.size:Nat):Int)=2:=rfl
theorem zhj:(S768.toList==(⟨#[45]⟩:ByteArray).toList)=false:=by decide +kernel
theorem sz_16:((S16.size:Nat):Int)=1:=rfl
theorem ds_16:(S16.toList==(⟨#[45]⟩:ByteArray).toList)=false:=by decide +kernel
theorem wk0:IntKind.i64.wrap 0=0:=rfl
theorem zk0:Int.toNat 0=0:=rfl
theorem wk1:IntKind.i64.wrap 1=1:=rfl
theorem zk1:Int.toNat 1=1:=rfl
theorem wk2:IntKind.i64.wrap 2=2:=rfl
theorem zk2:Int.toNat 2=2:=rfl
theorem wk3:IntKind.i64.wrap 3=3:=rfl
theorem zk3:Int.toNat 3=3:=rfl
theorem wk4:IntKind.i64.wrap 4=4:=rfl
theorem zk4:Int.toNat 4=4:=rfl
theorem wk5:IntKind.i64.wrap 5=5:=rfl
theorem zk5:Int.toNat 5=5:=rfl
attribute [go_sem] wk0 wk1 wk2 wk3 wk4 wk5 zk0 zk1 zk2 zk3 zk4 zk5 z04 z3v z3w z06 g0 g1 s0 s1 Int.le_refl sz_0 ds_0 sz_1 ds_1 sz_3 ds_3 zhc zhd zhe zhf sz_8 ds_8 zhg zhh zhi zhj sz_16 ds_16
end Go.Proofs.YtmkmhhjkdaklbaaGreat
namespace Go.Proofs.YtmkmhhjkdaklbaaGreat
open Go Go.Ab
set_option maxRecDepth 100000
def c24:ACode :=
 (sq_ [pr_ 0 mf_]
 (sq_ [pr_ 6 (.bsl false 1 false 1 [.pl (.int .u8 0)] [(0,1,(.const (.int .u8 1)))]),
 pr_ 7 (.build [.pl (.int .i64 0),.pl (.int .u64 0),.nils,.pl (.int .i64 0)] [(1,1,(.const (.int .u64 3))),(2,1,(.tmp 6))]),
 ⟨some 1,none,.fresh 4 1 (.tmp 7)⟩]
 (sq_ [pr_ 9 (.bsl false 1 false 5 [.pl (.int .u8 0)] [(0,1,(.const (.int .u8 0))),(1,1,(.const (.int .u8 3))),(2,1,(.const (.int .u8 1))),(3,1,(.const (.int .u8 1))),(4,1,(.const (.int .u8 0)))]),
 c1_ 10 29 9,
 mv_ 8 10,
 pr_ 11 (ex_ 0 8),
 pr_ 12 (ex_ 1 8),
 ⟨some 2,none,.fresh 4 2 (.tmp 11)⟩,
 mv_ 3 12]
 (sq_ [pr_ 14 (.bsl false 1 false 5 [.pl (.int .u8 0)] [(0,1,(.const (.int .u8 0))),(1,1,(.const (.int .u8 3))),(2,1,(.const (.int .u8 1))),(3,1,(.const (.int .u8 99))),(4,1,(.const (.int .u8 0)))]),
 c1_ 15 29 14,
 mv_ 13 15,
 pr_ 16 (ex_ 0 13),
 pr_ 17 (ex_ 1 13),
 ⟨some 4,none,.fresh 4 4 (.tmp 16)⟩,
 mv_ 5 17]
 (sq_ [pr_ 18 (lt_ 4 1),
 c1_ 19 27 18,
 pr_ 20 (.b2s (.tmp 19)),
 pr_ 21 (.bin false .eql (.tmp 20) (.const (.string (ByteArray.mk #[0,3,1,1,0])))),
 mv_ 22 21,
 gp_ 23 22 true (mo_ 3),
 pr_ 24 (pa_ 22 23),
 mv_ 25 24,
 gp_ 26 25 true (fa_ 1 2),
 gp_ 27 25 true (lf_ 1 26),
 gp_ 28 25 true (bk_ .eql 27 .u64 3),
 pr_ 29 (pa_ 25 28),
 mv_ 30 29,
 gp_ 31 30 true (fa_ 2 2),
 gp_ 32 30 true (lf_ 1 31),
 gp_ 33 30 true (.b2s (.tmp 32)),
 gp_ 34 30 true (.bin false .eql (.tmp 33) (.const (.string (ByteArray.mk #[1])))),
 pr_ 35 (pa_ 30 34),
 mv_ 36 35,
 gp_ 37 36 true (mo_ 5),
 gp_ 38 36 true (no_ 37),
 pr_ 39 (pa_ 36 38),
 mv_ 40 39,
 gp_ 41 40 true (lt_ 4 1),
 gc_ 42 40 true 25 [(.tmp 41)],
 pr_ 43 (pa_ 40 42),
 mv_ 0 43]
 .ret)))))
def o24:List Tmp:=[]
def r24:List RV:=[.tmp 0]
theorem t24:Text Tryz.prog 24 o24 c24 r24 44:=.mk_ Tryz.f24 rfl
def c25:ACode :=
 (sq_ [pr_ 1 (.boxr (.tmp 0)),
 pr_ 2 mf_]
 (.seq (sq_ [pr_ 5 (fa_ 0 1),
 pr_ 6 (lf_ 1 5),
 pr_ 7 (bk_ .lss 6 .i64 0),
 mv_ 8 7,
 gp_ 9 8 false (fa_ 0 1),
 gp_ 10 8 false (lf_ 1 9),
 gp_ 11 8 false (bk_ .gtr 10 .i64 2147483647),
 pr_ 12 (po_ 8 11),
 mv_ 13 12,
 gp_ 14 13 false (fa_ 1 1),
 gp_ 15 13 false (lf_ 1 14),
 gp_ 16 13 false (bk_ .gtr 15 .u64 1099511627776),
 pr_ 17 (po_ 13 16)]
 (.cond (.tmp 17)
 (sq_ [pr_ 2 mf_]
 .ret)
 .skip))
 (sq_ [pr_ 19 (fa_ 2 1),
 pr_ 20 (lf_ 1 19),
 c1_ 21 45 20,
 mv_ 18 21,
 pr_ 22 (ex_ 0 18),
 pr_ 23 (ex_ 1 18),
 ⟨some 3,none,.fresh 19 3 (.tmp 22)⟩,
 mv_ 4 23]
 (sq_ [mv_ 24 4,
 mv_ 25 24,
 gp_ 26 25 true (fa_ 3 1),
 gp_ 27 25 true (lf_ 1 26),
 gp_ 28 25 true (bk_ .eql 27 .i64 0),
 gp_ 29 25 true (mo_ 28),
 gp_ 30 29 false (fa_ 3 1),
 gp_ 31 29 false (lf_ 1 30),
 gp_ 32 29 false (bk_ .geq 31 .i64 4),
 gp_ 33 29 false (mo_ 32),
 gp_ 34 33 true (fa_ 3 1),
 gp_ 35 33 true (lf_ 1 34),
 gp_ 36 33 true (bk_ .leq 35 .i64 10),
 gp_ 37 29 false (pa_ 33 36),
 gp_ 38 25 true (po_ 29 37),
 pr_ 39 (pa_ 25 38),
 mv_ 2 39]
 .ret))))
def o25:List Tmp:=[]
def r25:List RV:=[.tmp 2]
theorem t25:Text Tryz.prog 25 o25 c25 r25 40:=.mk_ Tryz.f25 rfl
def c27:ACode :=
 (sq_ [pr_ 1 (.boxr (.tmp 0)),
 pr_ 2 (.mov (.const (.slice none 0 0)))]
 (.seq (sq_ [pr_ 3 (lt_ 4 1),
 c1_ 4 25 3,
 pr_ 5 (no_ 4)]
 (.cond (.tmp 5)
 (sq_ [pr_ 2 (.mov (.const (.slice none 0 0)))]
 (.ghost (.shut 2) .ret))
 .skip))
 (.seq (.draw [⟨pr_ 6 (fa_ 0 1),[],false,0,0⟩,
 ⟨pr_ 7 (lf_ 1 6),[0],false,0,0⟩,
 ⟨pr_ 8 (.convi .u64 (.tmp 7)),[0,1],false,0,0⟩,
 ⟨c1_ 9 71 8,[0,1,2],true,0,0⟩,
 ⟨pr_ 10 (fa_ 1 1),[],false,0,1⟩,
 ⟨pr_ 11 (lf_ 1 10),[4],false,0,1⟩,
 ⟨c1_ 12 71 11,(List.range 6),true,0,0⟩,
 ⟨pr_ 13 (fa_ 2 1),[],false,0,2⟩,
 ⟨pr_ 14 (lf_ 1 13),[7],false,0,2⟩,
 ⟨pr_ 15 (.b2s (.tmp 14)),[7,8],false,0,2⟩,
 ⟨c1_ 16 72 15,(List.range 10),true,0,0⟩,
 ⟨pr_ 17 (fa_ 3 1),[],false,0,3⟩,
 ⟨pr_ 18 (lf_ 1 17),[11],false,0,3⟩,
 ⟨pr_ 19 (.convi .u8 (.tmp 18)),[11,12],false,0,3⟩,
 ⟨pr_ 20 (.bsl false 1 false 1 [.pl (.int .u8 0)] [(0,1,(.tmp 19))]),[11,12,13],false,0,3⟩,
 ⟨pr_ 21 (.bsl false 1 false 4 [.nils] [(0,1,(.tmp 9)),(1,1,(.tmp 12)),(2,1,(.tmp 16)),(3,1,(.tmp 20))]),(List.range 15),false,3,3⟩,
 ⟨c1_ 22 68 21,(List.range 16),true,0,0⟩,
 ⟨mv_ 2 22,(List.range 17),false,4,4⟩])
 (.ghost (.shut 2) .ret))))
def o27:List Tmp:=[]
def r27:List RV:=[.tmp 2]
theorem t27:Text Tryz.prog 27 o27 c27 r27 23:=.mk_ Tryz.f27 rfl
def c29:ACode :=
 (sq_ [pr_ 2 (.allocm [.pl (.int .i64 0),.pl (.int .u64 0),.nils,.pl (.int .i64 0)]),
 pr_ 3 mf_]
 (sq_ [mv_ 8 0,
 c1_ 9 54 8,
 mv_ 4 9]
 (sq_ [mv_ 10 4,
 cl_ 11 59 [(.tmp 10),(.const (.int .u64 2147483647))],
 pr_ 12 (.convi .i64 (.tmp 11)),
 mv_ 13 4,
 cl_ 14 59 [(.tmp 13),(.const (.int .u64 1099511627776))],
 mv_ 15 4,
 mv_ 16 0,
 pr_ 17 (.lenv (.tmp 16)),
 cl_ 18 60 [(.tmp 15),(.tmp 17)],
 pr_ 19 (.s2b (.tmp 18)),
 mv_ 20 4,
 c1_ 21 83 20,
 pr_ 22 (.convi .i64 (.tmp 21)),
 pr_ 23 (.build [.pl (.int .i64 0),.pl (.int .u64 0),.nils,.pl (.int .i64 0)] [(0,1,(.tmp 12)),(1,1,(.tmp 14)),(2,1,(.tmp 19)),(3,1,(.tmp 22))]),
 ⟨some 5,none,.fresh 4 5 (.tmp 23)⟩]
 (.seq (sq_ [mv_ 25 4,
 c1_ 26 62 25,
 mv_ 24 26,
 pr_ 27 (ex_ 0 24),
 pr_ 28 (ex_ 1 24),
 mv_ 6 27,
 mv_ 7 28]
 (sq_ [mv_ 29 7,
 pr_ 30 (no_ 29),
 mv_ 31 30,
 gp_ 32 31 false (mo_ 6),
 gp_ 33 31 false (mo_ 0),
 gp_ 34 31 false (.lenv (.tmp 33)),
 gp_ 35 31 false (bt_ .neq 32 34),
 pr_ 36 (po_ 31 35),
 mv_ 37 36,
 gp_ 38 37 false (lt_ 4 5),
 gc_ 39 37 false 25 [(.tmp 38)],
 gp_ 40 37 false (no_ 39),
 pr_ 41 (po_ 37 40)]
 (.cond (.tmp 41)
 (sq_ [pr_ 42 (.build [.pl (.int .i64 0),.pl (.int .u64 0),.nils,.pl (.int .i64 0)] []),
 st_ (so_ 4 2 42),
 pr_ 3 mf_]
 .ret)
 .skip)))
 (sq_ [pr_ 43 (lt_ 4 5),
 st_ (so_ 4 2 43),
 pr_ 3 mt_]
 .ret)))))
def o29:List Tmp:=[2]
def r29:List RV:=[.cell 2 4 true,.tmp 3]
theorem t29:Text Tryz.prog 29 o29 c29 r29 44:=.mk_ Tryz.f29 rfl
def c31:ACode :=
 (sq_ [pr_ 2 (.boxr (.tmp 0)),
 pr_ 3 (.boxr (.tmp 1)),
 pr_ 4 mf_]
 (sq_ [pr_ 5 (lt_ 4 2),
 pr_ 6 (.bsl false 4 true 1 [.pl (.int .i64 0),.pl (.int .u64 0),.nils,.pl (.int .i64 0)] [(0,4,(.tmp 5))]),
 pr_ 7 (lt_ 4 3),
 pr_ 8 (.bsl false 4 true 1 [.pl (.int .i64 0),.pl (.int .u64 0),.nils,.pl (.int .i64 0)] [(0,4,(.tmp 7))]),
 cl_ 9 84 [(.tmp 6),(.tmp 8)],
 mv_ 4 9]
 .ret))
def o31:List Tmp:=[]
def r31:List RV:=[.tmp 4]
theorem t31:Text Tryz.prog 31 o31 c31 r31 10:=.mk_ Tryz.f31 rfl
def c32:ACode :=
 (sq_ [pr_ 6 (.boxr (.tmp 2)),
 pr_ 8 (.allocm [.pl (.int .i64 0),.pl (.int .u64 0),.nils,.pl (.int .i64 0)])]
 (sq_ [mv_ 9 0,
 mv_ 10 1,
 pr_ 11 (lt_ 19 6),
 c1_ 12 41 11,
 c1_ 13 38 12,
 mv_ 14 3,
 pr_ 15 (.build [.pl (.int .i64 0),.pl (.int .u64 0),.nils,.pl (.int .i64 0)] [(0,1,(.tmp 9)),(1,1,(.tmp 10)),(2,1,(.tmp 13)),(3,1,(.tmp 14))]),
 st_ (so_ 4 8 15)]
 .ret))
def o32:List Tmp:=[]
def r32:List RV:=[.cell 8 4 true]
theorem t32:Text Tryz.prog 32 o32 c32 r32 16:=.mk_ Tryz.f32 rfl
def c84:ACode :=
 (sq_ [pr_ 4 mf_]
 (.seq (sq_ [mv_ 6 0,
 pr_ 7 (.lenv (.tmp 6)),
 mv_ 8 1,
 pr_ 9 (.lenv (.tmp 8)),
 pr_ 10 (bt_ .neq 7 9)]
 (.cond (.tmp 10)
 (sq_ [pr_ 4 mf_]
 .ret)
 .skip))
 (.seq (sq_ [pr_ 5 (mi_ .i64 0)]
 (.block 0 (.loop [2,3,4,6,7,8,9,10,11,12,13,14,15,16,17,18,19,20,21,22,23,24,25,26,27,28,29,30,31,32,33,34,35,36,37,38,39,40,41,42,43,44,45,46,47,48,49,50,51,52,53,54,55,56,57,58,59,60,61,62,63,64,65,66,67,68] (.seq (sq_ [mv_ 11 5,
 mv_ 12 0,
 pr_ 13 (.lenv (.tmp 12)),
 pr_ 14 (bt_ .lss 11 13)]
 (.cond (.tmp 14)
 .skip
 (.exit 0)))
 (.seq (.block 1 (.seq (.draw [⟨mv_ 17 0,[],false,0,0⟩,
 ⟨mv_ 18 5,[],false,0,0⟩,
 ⟨pr_ 19 (.iadrs 4 (.tmp 17) (.tmp 18)),[0,1],false,0,0⟩,
 ⟨pr_ 20 (fa_ 0 19),[0,1,2],false,0,0⟩,
 ⟨pr_ 21 (lf_ 1 20),[0,1,2,3],false,0,0⟩,
 ⟨mv_ 22 1,[],false,0,0⟩,
 ⟨mv_ 23 5,[],false,0,0⟩,
 ⟨pr_ 24 (.iadrs 4 (.tmp 22) (.tmp 23)),[5,6],false,0,0⟩,
 ⟨pr_ 25 (fa_ 0 24),[5,6,7],false,0,0⟩,
 ⟨pr_ 26 (lf_ 1 25),[5,6,7,8],false,0,0⟩,
 ⟨pr_ 27 (bt_ .neq 21 26),(List.range 10),false,0,0⟩,
 ⟨mv_ 28 27,(List.range 11),false,0,0⟩,
 ⟨gp_ 29 28 false (mo_ 0),(List.range 12),false,0,0⟩,
 ⟨gp_ 30 28 false (mo_ 5),(List.range 12),false,0,0⟩,
 ⟨gp_ 31 28 false (.iadrs 4 (.tmp 29) (.tmp 30)),(List.range 14),false,0,0⟩,
 ⟨gp_ 32 28 false (fa_ 1 31),(List.range 15),false,0,0⟩,
 ⟨gp_ 33 28 false (lf_ 1 32),(List.range 16),false,0,0⟩,
 ⟨gp_ 34 28 false (mo_ 1),(List.range 12),false,0,0⟩,
 ⟨gp_ 35 28 false (mo_ 5),(List.range 12),false,0,0⟩,
 ⟨gp_ 36 28 false (.iadrs 4 (.tmp 34) (.tmp 35)),[0,1,2,3,4,5,6,7,8,9,10,11,17,18],false,0,0⟩,
 ⟨gp_ 37 28 false (fa_ 1 36),[0,1,2,3,4,5,6,7,8,9,10,11,17,18,19],false,0,0⟩,
 ⟨gp_ 38 28 false (lf_ 1 37),[0,1,2,3,4,5,6,7,8,9,10,11,17,18,19,20],false,0,0⟩,
 ⟨gp_ 39 28 false (bt_ .neq 33 38),(List.range 22),false,0,0⟩,
 ⟨pr_ 40 (po_ 28 39),(List.range 23),false,0,0⟩,
 ⟨mv_ 41 40,(List.range 24),false,0,0⟩,
 ⟨gp_ 42 41 false (mo_ 0),(List.range 25),false,0,0⟩,
 ⟨gp_ 43 41 false (mo_ 5),(List.range 25),false,0,0⟩,
 ⟨gp_ 44 41 false (.iadrs 4 (.tmp 42) (.tmp 43)),(List.range 27),false,0,0⟩,
 ⟨gp_ 45 41 false (fa_ 2 44),(List.range 28),false,0,0⟩,
 ⟨gp_ 46 41 false (lf_ 1 45),(List.range 29),false,0,0⟩,
 ⟨gp_ 47 41 false (.b2s (.tmp 46)),(List.range 30),false,0,0⟩,
 ⟨gp_ 48 41 false (mo_ 1),(List.range 25),false,0,0⟩,
 ⟨gp_ 49 41 false (mo_ 5),(List.range 25),false,0,0⟩,
 ⟨gp_ 50 41 false (.iadrs 4 (.tmp 48) (.tmp 49)),[0,1,2,3,4,5,6,7,8,9,10,11,12,13,14,15,16,17,18,19,20,21,22,23,24,31,32],false,0,0⟩,
 ⟨gp_ 51 41 false (fa_ 2 50),[0,1,2,3,4,5,6,7,8,9,10,11,12,13,14,15,16,17,18,19,20,21,22,23,24,31,32,33],false,0,0⟩,
 ⟨gp_ 52 41 false (lf_ 1 51),[0,1,2,3,4,5,6,7,8,9,10,11,12,13,14,15,16,17,18,19,20,21,22,23,24,31,32,33,34],false,0,0⟩,
 ⟨gp_ 53 41 false (.b2s (.tmp 52)),[0,1,2,3,4,5,6,7,8,9,10,11,12,13,14,15,16,17,18,19,20,21,22,23,24,31,32,33,34,35],false,0,0⟩,
 ⟨gp_ 54 41 false (bt_ .neq 47 53),(List.range 37),false,0,0⟩,
 ⟨pr_ 55 (po_ 41 54),(List.range 38),false,0,0⟩,
 ⟨mv_ 56 55,(List.range 39),false,0,0⟩,
 ⟨gp_ 57 56 false (mo_ 0),(List.range 40),false,0,0⟩,
 ⟨gp_ 58 56 false (mo_ 5),(List.range 40),false,0,0⟩,
 ⟨gp_ 59 56 false (.iadrs 4 (.tmp 57) (.tmp 58)),(List.range 42),false,0,0⟩,
 ⟨gp_ 60 56 false (fa_ 3 59),(List.range 43),false,0,0⟩,
 ⟨gp_ 61 56 false (lf_ 1 60),(List.range 44),false,0,0⟩,
 ⟨gp_ 62 56 false (mo_ 1),(List.range 40),false,0,0⟩,
 ⟨gp_ 63 56 false (mo_ 5),(List.range 40),false,0,0⟩,
 ⟨gp_ 64 56 false (.iadrs 4 (.tmp 62) (.tmp 63)),[0,1,2,3,4,5,6,7,8,9,10,11,12,13,14,15,16,17,18,19,20,21,22,23,24,25,26,27,28,29,30,31,32,33,34,35,36,37,38,39,45,46],false,0,0⟩,
 ⟨gp_ 65 56 false (fa_ 3 64),[0,1,2,3,4,5,6,7,8,9,10,11,12,13,14,15,16,17,18,19,20,21,22,23,24,25,26,27,28,29,30,31,32,33,34,35,36,37,38,39,45,46,47],false,0,0⟩,
 ⟨gp_ 66 56 false (lf_ 1 65),[0,1,2,3,4,5,6,7,8,9,10,11,12,13,14,15,16,17,18,19,20,21,22,23,24,25,26,27,28,29,30,31,32,33,34,35,36,37,38,39,45,46,47,48],false,0,0⟩,
 ⟨gp_ 67 56 false (bt_ .neq 61 66),(List.range 50),false,0,0⟩,
 ⟨pr_ 68 (po_ 56 67),(List.range 51),false,0,0⟩])
 (.cond (.tmp 68)
 (sq_ [pr_ 4 mf_]
 .ret)
 .skip)))
 (.ops [mv_ 15 5,
 pr_ 16 (bk_ .add 15 .i64 1),
 mv_ 5 16]))))))
 (sq_ [pr_ 4 mt_]
 .ret))))
def o84:List Tmp:=[]
def r84:List RV:=[.tmp 4]
theorem t84:Text Tryz.prog 84 o84 c84 r84 69:=.mk_ Tryz.f84 rfl
end Go.Proofs.YtmkmhhjkdaklbaaGreat
namespace Go.Proofs.YtmkmhhjkdaklbaaGreat
open Go Go.Ab Go.Cod
set_option maxRecDepth 100000
structure RcM where
 ix:Int
 ck:Nat
 bd:Byt
 cd:Int
def rcC (r:RcM):List AV:=[I r.ix,UN r.ck,.sl 1 (byv r.bd),I r.cd]
def rcV (r:RcM):AV:=.agg (rcC r)
def cdB (c:Int):Bool:=c==0||(decide (4≤c)&&decide (c≤10))
def bdB (b:Byt):Bool:=(wholeO (bodyR b)).isSome
def rcIs (r:RcM):Bool:=decide (0≤r.ix)&&(decide (r.ix≤2147483647)&&(decide ((r.ck:Int)≤1099511627776)&&(bdB r.bd&&cdB r.cd)))
theorem z9j (o:Option ReM):∃x,z4f o=.tup [reV x,Bo o.isSome]:=by
 cases o with
 |none=>exact⟨noRe,rfl⟩
 |some x=>exact⟨x,rfl⟩
theorem z7o {r:RcM} (h:rcIs r=true):0≤r.ix∧r.ix≤2147483647∧r.ck≤1099511627776∧0≤r.cd∧r.cd≤10:=by
 unfold rcIs cdB at h;simp only[Bool.and_eq_true,Bool.or_eq_true,decide_eq_true_eq,beq_iff_eq]at h;omega
section
variable (σ:St)
theorem z51 (r:RcM) (hb:r.bd.length≤50000):Ans Tryz.prog 25 [rcV r] σ (Bo (rcIs r)) σ:=by
 obtain⟨ix,ck,bd,cd⟩:=r;have k1:=z8l σ bd hb;obtain⟨x,hx⟩:=z9j (wholeO (bodyR bd));rw[hx]at k1;unfold rcV rcC rcIs bdB cdB;refine Ans.of_run t25 ?_;unfold reV reC at k1;generalize (wholeO (bodyR bd)).isSome=ok at k1⊢;simp only
 cases h0:decide (0≤ix) with
 |false =>
  have e0:=lt_of h0;simp -implicitDefEqProofs only[c25,r25,go_sem,e0];exact Fini.ret rfl
 |true =>
 have e0:=lt_of h0
 cases h1:decide (ix≤2147483647) with
 |false =>
  have e1:=gt_of h1;simp -implicitDefEqProofs only[c25,r25,go_sem,e0,e1];exact Fini.ret rfl
 |true =>
 have e1:=gt_of h1
 cases h2:decide ((ck:Int)≤1099511627776) with
 |false =>
  have e2:=gt_of h2;simp -implicitDefEqProofs only[c25,r25,go_sem,e0,e1,e2];exact Fini.ret rfl
 |true =>
 have e2:=gt_of h2;simp -implicitDefEqProofs only[c25,r25,go_sem,e0,e1,e2];refine CO.intro k1 ?_
 cases ok with
 |false =>
  simp -implicitDefEqProofs only[go_sem];exact Fini.ret rfl
 |true =>
 cases h3:(cd==0) with
 |true =>
  simp -implicitDefEqProofs only[go_sem,h3];exact Fini.ret rfl
 |false =>
 cases h4:decide (4≤cd) with
 |false =>
  simp -implicitDefEqProofs only[go_sem,h3,h4];exact Fini.ret rfl
 |true =>
 simp -implicitDefEqProofs only[go_sem,h3,h4];exact Fini.ret rfl
end
def cdC (c:Int):UInt8:=c.toNat.toUInt8
def putRc (r:RcM):Byt:=putN r.ix.toNat++(putN r.ck++(txtB ⟨r.bd.toArray⟩++[cdC r.cd]))
def z0G (r:RcM):Byt:=if rcIs r then putRc r else[]
theorem zeB {c:Int} (h:0≤c) (h1:c≤10):IntKind.u8.wrap c=(((cdC c).toNat:Nat):Int):=by
 obtain⟨n,rfl⟩:=Int.eq_ofNat_of_zero_le h;have:n<11:=by omega
 match n,this with
 |0,_|1,_|2,_|3,_|4,_|5,_|6,_|7,_|8,_|9,_|10,_=>rfl
theorem z4i (b:Byt):(⟨b.toArray⟩:ByteArray).size=b.length:=by simp[ByteArray.size]
theorem zan (b:Byt):(⟨b.toArray⟩:ByteArray).data.toList=b:=by simp
section
variable (σ:St)
theorem z2w (r:RcM) (hb:r.bd.length≤50000):Ans Tryz.prog 27 [rcV r] σ (.sl 1 (byv (z0G r))) σ:=by
 have hi:=fun s=>z51 s r hb
 unfold z0G
 cases hR:rcIs r with
 |false =>
  have:Ans Tryz.prog 27 [rcV r] σ .nils σ:=by
   refine Ans.of_run t27 ?_;unfold rcV rcC at hi⊢;simp -implicitDefEqProofs only[c27,r27,go_sem];refine CO.intro (hi _) ?_;rw[hR];simp -implicitDefEqProofs only[go_sem];exact Fini.ret rfl
  exact this.subR (.nils 1)
 |true =>
  obtain⟨a1,a2,a3,a4,a5⟩:=z7o hR;obtain⟨ix,ck,bd,cd⟩:=r;simp only at a1 a2 a3 a4 a5 hb;have n1:=fun s=>zf6 s ix.toNat (by omega)
  have n2:=fun s=>zf6 s ck (by omega)
  have n3:=fun s=>z8X s ⟨bd.toArray⟩ (by rw[z4i];omega)
  have w1:IntKind.u64.wrap ix=((ix.toNat:Nat):Int):=by
   rw[show ix=((ix.toNat:Nat):Int) from by omega,z1y (by omega)];rfl
  have w2:=zeB a4 a5;have l1:=z0w (n:=ix.toNat) (by omega)
  have l2:=z0w (n:=ck) (by omega)
  have l3:(txtB ⟨bd.toArray⟩).length≤60000:=by
   have:=z0w (n:=bd.length) (by omega)
   unfold txtB;rw[List.length_append,zan,z4i];omega
  have hc:=fun s=>zcw s [putN ix.toNat,putN ck,txtB ⟨bd.toArray⟩,[cdC cd]] (by simp) (by simp;omega) (by
   simp only[List.flatten_cons,List.flatten_nil,List.append_nil,List.length_append,List.length_singleton];omega)
  have e3:([putN ix.toNat,putN ck,txtB ⟨bd.toArray⟩,[cdC cd]]:List Byt).flatten=putRc ⟨ix,ck,bd,cd⟩:=by simp[putRc]
  rw[e3]at hc;refine Ans.of_run t27 ?_;unfold rcV rcC at hi⊢;simp -implicitDefEqProofs only[c27,r27,go_sem];refine CO.intro (hi _) ?_;rw[hR];simp -implicitDefEqProofs only[go_sem,w1];refine CD.intro (n1 _) ?_;simp -implicitDefEqProofs only[go_sem];refine CD.intro (n2 _) ?_;simp -implicitDefEqProofs only[go_sem,z0o,bc,z1M,z1G,AV.isStr];refine CD.intro (n3 _) ?_;simp -implicitDefEqProofs only[go_sem,w2];refine CD.intro (hc _) ?_;simp -implicitDefEqProofs only[go_sem];exact Fini.ret rfl
end
def mkRc (p:Nat×Nat×ByteArray×UInt8):RcM:=⟨(p.1:Nat),p.2.1,p.2.2.1.data.toList,(p.2.2.2.toNat:Nat)⟩
def rcR (n:Nat):Rd RcM:=z1x (seqR (numR 2147483647) (seqR (numR 1099511627776) (seqR (textR n) byteR))) mkRc
def rcS (b:Byt):Nat×Bool→RcM×(Nat×Bool):=z1N (seqSt (runR (numR 2147483647) 0 b) (seqSt (runR (numR 1099511627776) 0 b) (seqSt (runR (textR b.length) ⟨#[]⟩ b) (runR byteR 0 b)))) mkRc
theorem zg8 (n:Nat):EndsR (rcR n):=z1c (z1i (ends_num _) (z1i (ends_num _) (z1i (z27 n) ends_byte))) _
theorem zeC (b:Byt):StepsR b (rcR b.length) (rcS b) :=
 z0Q (z0y (z0h b _ _) (z0y (z0h b _ _) (z0y (z0h b _ _) (z0h b _ _) (z27 _)) (ends_num _)) (ends_num _)) _
def okRc (o:Option RcM):Option RcM:=o.bind fun r=>if rcIs r then some r else none
def rdRc (b:Byt):Option RcM:=okRc (wholeO (rcR b.length b))
abbrev noRc:RcM:=⟨0,0,[],0⟩
def noRcV:AV:=.agg [I 0,UN 0,.nils,I 0]
def rcW (o:Option RcM):AV:=match o with
 |some x=>.tup [rcV x,Bo true]
 |none=>.tup [noRcV,Bo false]
def rcT (o:Option RcM):AV:=match o with
 |some x=>.tup [rcV x,Bo true]
 |none=>.tup [rcV noRc,Bo false]
theorem z6J (o:Option RcM):Sub (rcW o) (rcT o):=by
 unfold rcW rcT
 cases o with
 |none=>exact .tup (.cons (.agg (.cons (.refl _) (.cons (.refl _) (.cons (.nils 1) (.cons (.refl _) .nil))))) (.refl _))
 |some x=>exact .refl _
theorem zd6 (n:Nat) (r:RcM):Bel n (rcV r):=.agg _ fun i hi=>by
 have:∀y∈rcC r,Bel n y:=by
  intro y hy;unfold rcC at hy;simp only[List.mem_cons,List.not_mem_nil,or_false]at hy;rcases hy with rfl|rfl|rfl|rfl
  all_goals first|exact .pl _|exact z1F _ _
 exact this _ (List.getElem_mem hi)
theorem zg9 (n:Nat) (o:Option RcM):Bel n (rcW o):=by
 unfold rcW
 cases o with
 |some x=>exact z3V (zd6 _ _)
 |none =>
  refine z3V (.agg _ fun i hi=>?_)
  have:∀y∈([I 0,UN 0,.nils,I 0]:List AV),Bel n y:=by
   intro y hy;simp only[List.mem_cons,List.not_mem_nil,or_false]at hy;rcases hy with rfl|rfl|rfl|rfl
   all_goals first|exact .pl _|exact .nils
  exact this _ (List.getElem_mem hi)
theorem zga {n:Nat} (hn:n<2^64) (b:Byt) (q:Nat×Bool):(runR (textR n) ⟨#[]⟩ b q).1.size≤n:=by
 unfold runR;split
 · exact Nat.zero_le _
 · split
   · exact Nat.zero_le _
   · rename_i p hp;exact((z1L hn).bwd _ p.1 p.2 hp).1
abbrev BzR:Ob:=.box [I 0,UN 0,.nils,I 0]
section
variable (σ:St)
theorem z2m (b:Byt) (hb:b.length≤50000):Ans Tryz.prog 29 [.sl 1 (byv b)] σ (rcW (rdRc b)) σ:=by
 have hbw:=zg9 σ.length (rdRc b);unfold rdRc okRc at hbw⊢;rw[z4L (zeC b) (zg8 _)]at hbw⊢
 have hS:rcS b (0,false)=(mkRc ((runR (numR 2147483647) 0 b (0,false)).1,(runR (numR 1099511627776) 0 b (runR (numR 2147483647) 0 b (0,false)).2).1,
   (runR (textR b.length) ⟨#[]⟩ b (runR (numR 1099511627776) 0 b (runR (numR 2147483647) 0 b (0,false)).2).2).1,
   (runR byteR 0 b (runR (textR b.length) ⟨#[]⟩ b (runR (numR 1099511627776) 0 b (runR (numR 2147483647) 0 b (0,false)).2).2).2).1),
   (runR byteR 0 b (runR (textR b.length) ⟨#[]⟩ b (runR (numR 1099511627776) 0 b (runR (numR 2147483647) 0 b (0,false)).2).2).2).2):=rfl
 rw[hS]at hbw⊢;have k1:=z2d (σ++[BzR,rob b (0,false)]) (σ.length+1) b (0,false) 2147483647 (by decide) (g1 _ _ _ _) (Inb0 b) hb
 have i1:=z0g (numR 2147483647) 0 b (0,false) (Inb0 b);have le1:=z2v (most:=2147483647) b (0,false);rw[s1]at k1;generalize runR (numR 2147483647) 0 b (0,false)=w at k1 i1 le1 hbw⊢;obtain⟨u,q1⟩:=w;simp only at k1 i1 le1 hbw⊢;have k2:=z2d (σ++[BzR,rob b q1]) (σ.length+1) b q1 1099511627776 (by decide) (g1 _ _ _ _) i1 hb
 have i2:=z0g (numR 1099511627776) 0 b q1 i1;rw[s1]at k2;generalize runR (numR 1099511627776) 0 b q1=w at k2 i2 hbw⊢;obtain⟨ck,q2⟩:=w;simp only at k2 i2 hbw⊢;have k3:=z34 (σ++[BzR,rob b q2]) (σ.length+1) b q2 b.length (by omega) (g1 _ _ _ _) i2 hb
 have i3:=z0g (textR b.length) ⟨#[]⟩ b q2 i2;have le3:=zga (n:=b.length) (by omega) b q2
 rw[s1]at k3;generalize runR (textR b.length) ⟨#[]⟩ b q2=w at k3 i3 le3 hbw⊢;obtain⟨s,q3⟩:=w;simp only at k3 i3 le3 hbw⊢;have k4:=z18 (σ++[BzR,rob b q3]) (σ.length+1) b q3 (g1 _ _ _ _) i3 hb;have i4:=z0g byteR 0 b q3 i3;rw[s1]at k4;generalize runR byteR 0 b q3=w at k4 i4 hbw⊢;obtain⟨c,a,bad⟩:=w;simp only at k4 i4 hbw⊢;have ke:=z35 (σ++[BzR,rob b (a,bad)]) (σ.length+1) b (a,bad) (g1 _ _ _ _);have ki:=z51 (σ++[BzR,rob b (a,bad)]) (mkRc (u,ck,s,c)) (by unfold mkRc;simp only;rw[z1w];omega)
 have w1:IntKind.i64.wrap (u:Int)=(u:Int):=wrapI (by omega)
 have wc:IntKind.i64.wrap (c.toNat:Int)=(c.toNat:Int):=wrapI (by have:=c.toNat_lt;omega)
 have e1:(((a:Nat):Int) != (b.length:Nat))= !decide (a=b.length):=by
  rw[bne];congr 1
  rw[Bool.eq_iff_iff];simp only[beq_iff_eq,decide_eq_true_eq];omega
 refine Ans.of_run' t29 (fun hbel _=>?_)
 simp -implicitDefEqProofs only[c29,r29,go_sem];refine CO.intro (z4t _ b) ?_;simp -implicitDefEqProofs only[go_sem,List.append_assoc,List.length_append];refine CO.intro k1 ?_;simp -implicitDefEqProofs only[go_sem,w1];refine CO.intro k2 ?_;simp -implicitDefEqProofs only[go_sem,z04];refine CO.intro k3 ?_;simp -implicitDefEqProofs only[go_sem,zaL];refine CO.intro k4 ?_;simp -implicitDefEqProofs only[go_sem,bc,wc];refine CO.intro ke ?_;have hz:rcV (mkRc (u,ck,s,c))=.agg [I (u:Nat),UN ck,.sl 1 (byv s.data.toList),I (c.toNat:Nat)]:=rfl;rw[hz]at ki;unfold rcW noRcV at hbw⊢
 cases bad with
 |true =>
  simp -implicitDefEqProofs only[go_sem,g0,s0];exact tr_ (σ':=σ) (ex:=[_,_]) rfl hbw hbel
 |false =>
  by_cases he:a=b.length
  · rw[decide_eq_true he]at e1 hbw⊢
    cases hR:rcIs (mkRc (u,ck,s,c)) with
    |true =>
     rw[hR]at ki;simp -implicitDefEqProofs only[go_sem,z04,e1,Bool.not_true];refine CO.intro ki ?_;simp only[Bool.not_false,Bool.true_and,if_true,Option.bind_some,hR,hz]at hbw⊢;simp -implicitDefEqProofs only[go_sem,g0,s0];exact tr_ (σ':=σ) (ex:=[_,_]) rfl hbw hbel
    |false =>
     rw[hR]at ki;simp -implicitDefEqProofs only[go_sem,z04,e1,Bool.not_true];refine CO.intro ki ?_;simp only[Bool.not_false,Bool.true_and,if_true,Option.bind_some,hR,Bool.false_eq_true,if_false]at hbw⊢;simp -implicitDefEqProofs only[go_sem,g0,s0];exact tr_ (σ':=σ) (ex:=[_,_]) rfl hbw hbel
  · rw[decide_eq_false he]at e1 hbw⊢;simp -implicitDefEqProofs only[go_sem,z04,e1,Bool.not_false,g0,s0];exact tr_ (σ':=σ) (ex:=[_,_]) rfl hbw hbel
end
def eqT (a b:ByteArray):Bool:=a.toList==b.toList
section
variable (σ:St)
end
section
variable (σ:St)
def z3G (x y:RcM):Bool:=(x.ix==y.ix)&&(((x.ck:Int)==(y.ck:Int))&&((eqT ⟨x.bd.toArray⟩ ⟨y.bd.toArray⟩)&&(x.cd==y.cd)))
theorem z6K {x y:Int} {v:Bool} (h:(x==y)=v):(x != y)= !v:=by rw[bne,h]
theorem z6L (x y:RcM):Ans Tryz.prog 31 [rcV x,rcV y] σ (Bo (z3G x y)) σ:=by
 obtain⟨i,k,b,c⟩:=x;obtain⟨i',k',b',c'⟩:=y
 have hk:Ans Tryz.prog 84 [.sl 4 [.agg [I i,UN k,.sl 1 (byv b),I c]],.sl 4 [.agg [I i',UN k',.sl 1 (byv b'),I c']]] σ (Bo (z3G ⟨i,k,b,c⟩ ⟨i',k',b',c'⟩)) σ:=by
  unfold z3G eqT;simp only;have z1:(((1:Nat):Int) != ((1:Nat):Int))=false:=rfl;have z2:decide ((0:Int)<((1:Nat):Int))=true:=rfl;have z3:decide ((1:Int)<((1:Nat):Int))=false:=rfl;have z4:((0:Int)<((1:Nat):Int))=True:=eq_true (by decide)
  have z5:IntKind.i64.wrap ((0:Int)+1)=1:=rfl;have z6:Int.toNat 0=0:=rfl;refine Ans.of_run t84 ?_;simp -implicitDefEqProofs only[c84,r84,go_sem,z1];refine L.step fun J hJ=>?_
  have z7:=z1M;have z8:=z1G
  cases h0:(i==i') with
  |false =>
   have e0:=z6K h0;simp -implicitDefEqProofs only[go_sem,z2,z4,z6,h0,e0];exact Fini.ret rfl
  |true =>
  have e0:=z6K h0
  cases h1:((k:Int)==(k':Int)) with
  |false =>
   have e1:=z6K h1;simp -implicitDefEqProofs only[go_sem,z2,z4,z6,h0,e0,h1,e1,Bool.not_true,Bool.not_false];exact Fini.ret rfl
  |true =>
  have e1:=z6K h1
  cases h2:((⟨b.toArray⟩:ByteArray).toList==(⟨b'.toArray⟩:ByteArray).toList) with
  |false =>
   simp -implicitDefEqProofs only[go_sem,z2,z4,z6,h0,e0,h1,e1,h2,Bool.not_true,Bool.not_false,z0o,bc,z7,z8,AV.isStr];exact Fini.ret rfl
  |true =>
  cases h3:(c==c') with
  |false =>
   have e3:=z6K h3;simp -implicitDefEqProofs only[go_sem,z2,z4,z6,h0,e0,h1,e1,h2,h3,e3,Bool.not_true,Bool.not_false,z0o,bc,z7,z8,AV.isStr];exact Fini.ret rfl
  |true =>
  have e3:=z6K h3;simp -implicitDefEqProofs only[go_sem,z2,z4,z6,h0,e0,h1,e1,h2,h3,e3,Bool.not_true,Bool.not_false,z0o,bc,z7,z8,AV.isStr,z5];refine hJ _ _ ?_;refine L.step fun J' hJ'=>?_
  simp -implicitDefEqProofs only[go_sem,z3,h0,h1,h2,h3];exact Fini.ret rfl
 refine Ans.of_run t31 ?_;unfold rcV rcC;simp -implicitDefEqProofs only[c31,r31,go_sem];refine CO.intro hk ?_;simp -implicitDefEqProofs only[go_sem];exact Fini.ret rfl
theorem z5W (x:RcM):z3G x x=true:=by simp[z3G,eqT]
end
def preS (L:List Lab) (i:Nat):Byt:=putN L.length++z0Z putLb (L.take i)
theorem z8n (L:List Lab) (i:Nat) (h:i<L.length):preS L (i+1)=preS L i++(txtB L[i].1++txtB L[i].2):=by
 unfold preS z0Z;rw[List.take_succ_eq_append_getElem h,List.flatMap_append,List.append_assoc];simp[putLb]
theorem zao (L:List Lab):preS L L.length=z3E L:=by unfold preS z3E z2p;rw[List.take_length]
theorem z8o (L:List Lab):preS L 0=putN L.length:=by unfold preS z0Z;simp
theorem z7p {L:List Lab} (h:setB L=true):∀i,i≤L.length→(preS L i).length≤10+60*i
 |0,_=>by rw[z8o];have:=z0w (n:=L.length) (by have:=(z4x h).1;omega);omega
 |i+1,hi=>by
  have ih:=z7p h i (by omega)
  have hx:=(z4x h).2 L[i] (List.getElem_mem (by omega))
  have h1:=z1W L[i].1 (by omega)
  have h2:=z1W L[i].2 (by omega)
  rw[z8n L i (by omega),List.length_append,List.length_append]
  omega
def z2E (L:List Lab):Byt:=if setB L then z3E L else[]
section
variable (σ:St)
theorem z9k (L:List Lab) (hL:∀x∈L,x.1.size≤100000):Ans Tryz.prog 96 [.sl 2 (lvs L)] σ (.sl 1 (byv (z2E L))) σ:=by
 have hi:=fun s=>z21 s L hL
 unfold z2E
 cases hR:setB L with
 |false =>
  have:Ans Tryz.prog 96 [.sl 2 (lvs L)] σ .nils σ:=by
   refine Ans.of_run t96 ?_;simp -implicitDefEqProofs only[c96,r96,go_sem];refine CO.intro (hi _) ?_;rw[hR];simp -implicitDefEqProofs only[go_sem];exact Fini.ret rfl
  exact this.subR (.nils 1)
 |true =>
  obtain⟨h1,h2⟩:=z4x hR;have hpl:=z7p hR;have n1:=fun s=>z4X s L.length (by omega)
  rw[←z8o]at n1;have hw:=z1y (n:=L.length) (by omega)
  refine Ans.of_run' t96 (fun hbel _=>?_)
  simp -implicitDefEqProofs only[c96,r96,go_sem];refine CO.intro (hi _) ?_;rw[hR];simp -implicitDefEqProofs only[go_sem,z0i,hw];refine CO.intro (n1 _) ?_;simp -implicitDefEqProofs only[go_sem,z0i];refine Go.Ab.L.count L.length (fun i=>mkE 34 [(0,.sl 2 (lvs L)),(3,.osl σ.length (preS L i).length),(4,I i)]) (fun i=>σ++[.row 1 (byv (preS L i))]) ?_ ?_ rfl rfl
  · intro i hi J hJ;have hx:=lvs_D L i hi;rw[List.getD_eq_getElem?_getD,List.getElem?_eq_getElem hi,Option.getD_some]at hx;have hs:=h2 L[i] (List.getElem_mem hi);have hp:=hpl (i+1) (by omega)
    rw[z8n L i hi]at hJ hp;generalize L[i]=s at hx hs hJ hp;generalize preS L i=pre at hJ hp⊢;have hin:=wrap_succ (i:=i) (by omega)
    rw[List.length_append,List.length_append]at hp hJ;have l1:pre.length+(txtB s.1).length≤4294967296:=by omega
    have l2:pre.length+(txtB s.1).length+(txtB s.2).length≤4294967296:=by omega
    simp -implicitDefEqProofs only[mkE,go_sem,z0i,z0c hi,dec_lt hi,hx];refine CD.intro (z1H _ s.1 (by omega)) ?_
    simp -implicitDefEqProofs only[go_sem,g0,s0,z04,z0o,bc,l1,z0i,z0c hi,hx];refine CD.intro (z1H _ s.2 (by omega)) ?_
    simp -implicitDefEqProofs only[go_sem,g0,s0,z04,z0o,bc,l1,l2,hin,List.length_append];simp only[z0l,List.append_assoc,Nat.add_assoc]at hJ⊢;exact hJ
  · intro J;have d0:decide ((L.length:Int)<L.length)=false:=by simp
    simp -implicitDefEqProofs only[mkE,go_sem,z0i,d0,g0,s0,z04,zao];exact Fini.trim2 (σ':=σ) (ex:=[_]) rfl rfl (Nat.le_refl _) (z1F _ _) hbel
end
def opC (op:Int):UInt8:=op.toNat.toUInt8
def layF (f k:Int) (ps:List Byt) (B:Byt):Byt:=if hasF f k then B++ps.flatten else B
def putB1 (f:Int) (r:ReM):Byt:=layF f 4 [putN r.st,putN r.en] (layF f 2 [txtB r.txt] (layF f 1 [putN r.id.toNat] [opC r.op]))
def putB2 (f:Int) (r:ReM):Byt:=layF f 64 [putBd (r.any,r.lo,r.hi)] (layF f 16 [z0S r.mt] (layF f 8 [[opC r.sta]] (putB1 f r)))
def z09 (f:Int) (r:ReM):Byt:=layF f 512 [putV r.val] (layF f 256 [z2E r.ls] (layF f 128 [z1t r.ru] (putB2 f r)))
def z1I (r:ReM):Byt:=if mayR r then z09 (fOf r.op).1 r else[]
theorem z7q {c:Int} (h:0≤c) (h1:c≤17):IntKind.u8.wrap c=(((opC c).toNat:Nat):Int):=by
 obtain⟨n,rfl⟩:=Int.eq_ofNat_of_zero_le h;have:n<18:=by omega
 match n,this with
 |0,_|1,_|2,_|3,_|4,_|5,_|6,_|7,_|8,_|9,_|10,_|11,_|12,_|13,_|14,_|15,_|16,_|17,_=>rfl
section
variable (σ:St)
theorem z2k {f k:Int} {ps:List Byt} {B:Byt} {n m:Nat} (hB:B.length≤n) (hp:hasF f k=true→ps.flatten.length≤m):(layF f k ps B).length≤n+m:=by
 unfold layF;split
 · rename_i h;have:=hp h;rw[List.length_append];omega
 · omega
structure BdOk (r:ReM):Prop where
 op0:0≤r.op
 op1:r.op≤17
 id0:0≤r.id
 id1:r.id≤2147483647
 txt:r.txt.size≤16
 st:r.st≤1099511627776
 en:r.en≤1099511627776
 sta0:0≤r.sta
 sta1:r.sta≤3
 mt:listB r.mt=true
 ru:hasF (fOf r.op).1 128=true→ruIs r.ru=true
 ls:hasF (fOf r.op).1 256=true→setB r.ls=true
theorem bd_ok {r:ReM} (h:mayR r=true):BdOk r:=by
 have hop:1≤r.op∧r.op≤17:=by
  have:(fOf r.op).2=true:=by unfold mayR at h;simp only[Bool.and_eq_true]at h;exact h.1
  unfold fOf at this;split at this
  · assumption
  · cases this
 unfold mayR at h;simp only[Bool.and_eq_true]at h;obtain⟨_,hz,hr⟩:=h;unfold zeroB at hz;unfold z0a idR clkB staR at hr;simp only[Bool.and_eq_true,Bool.or_eq_true,decide_eq_true_eq,Bool.not_eq_true']at hz hr;obtain⟨hid,htx,hst,hen,hsta,hmt,_,_,hru,hls⟩:=hr;refine⟨by omega,hop.2,hid.1,hid.2,?_,by omega,by omega,hsta.1,hsta.2,hmt,fun h=>?_,fun h=>?_⟩
 · rcases htx with h|h
   · rcases hz.2.1 with h'|h'
     · rw[h]at h';cases h'
     · unfold emS at h';have:=eq_of_beq h';rw[ByteArray.toList_eq,ByteArray.toList_eq]at this;have h0:r.txt.size=0:=by rw[←z1w,this];rfl
       omega
   · unfold tokB at h;simp only[Bool.and_eq_true,decide_eq_true_eq]at h;omega
 · rcases hru with h'|h'
   · rw[h]at h';cases h'
   · exact h'
 · rcases hls with h'|h'
   · rw[h]at h';cases h'
   · exact h'
theorem z8p {M:List Mtr} (h:listB M=true):0<([z0S M]:List Byt).flatten.length∧([z0S M]:List Byt).flatten.length≤510:=by
 have e:z0S M=putL M:=by unfold z0S;rw[h];rfl
 have:=zae M;have:=z7j h;simp only[List.flatten_cons,List.flatten_nil,List.append_nil,e];omega
theorem zd7 {r:RuM} (h:ruIs r=true):0<([z1t r]:List Byt).flatten.length∧([z1t r]:List Byt).flatten.length≤100000:=by
 have e:z1t r=putR r:=by unfold z1t;rw[h];rfl
 have h0:=z7i r;have h1:=z4Y h r.eq.length (Nat.le_refl _);have h5:=(z1X h).2.2.2.1;rw[h0]at h1
 have hp:0<(putR r).length:=by
  have:=zae r.src;unfold putR;simp only[List.length_append];omega
 simp only[List.flatten_cons,List.flatten_nil,List.append_nil,e];omega
theorem zd8 {L:List Lab} (h:setB L=true):0<([z2E L]:List Byt).flatten.length∧([z2E L]:List Byt).flatten.length≤1000:=by
 have e:z2E L=z3E L:=by unfold z2E;rw[h];rfl
 have h0:=zao L;have h1:=z7p h L.length (Nat.le_refl _);have h2:=(z4x h).1;rw[h0]at h1
 have hp:0<(z3E L).length:=by
  have:=zbU L.length;unfold z3E z2p
  cases h:putN L.length with
  |nil=>exact absurd h this
  |cons a b=>simp
 simp only[List.flatten_cons,List.flatten_nil,List.append_nil,e];omega
end
theorem zgb (r:RuM):([z1t r]:List Byt).flatten.length≤100000:=by
 cases h:ruIs r with
 |true=>exact(zd7 h).2
 |false=>unfold z1t;rw[h];exact Nat.zero_le _
theorem zd9 (L:List Lab):([z2E L]:List Byt).flatten.length≤1000:=by
 cases h:setB L with
 |true=>exact(zd8 h).2
 |false=>unfold z2E;rw[h];exact Nat.zero_le _
section
variable (σ:St)
end
end Go.Proofs.YtmkmhhjkdaklbaaGreat
namespace Go.Ab
open Go Go.ChangeShapes Go.WideShapes
def z7r:List AV→Prop:=fun xs=>∃n:Nat,n<2^64∧xs=[.pl (.float .f64 n)]
theorem Reads.floatW {P:Program} {t:TypeId} (ht:P.underlying t=some (.float .f64)) (f:Nat):Reads P t f z7r:=by
 intro H enc W cs x h
 have:∃n,n<2^64∧cs=[.float .f64 n]:=by
  cases f with
  |zero=>simp[DataW.trod]at h
  |succ n =>
   unfold DataW.trod at h;rw[ht]at h;split at h<;>simp_all [Lit.wf]
   rename_i heq;subst heq;simp only at h;have h:=(Option.ite_none_right_eq_some.1 h).1;exact⟨of_decide_eq_true h.2,h.1⟩
 obtain⟨n,hn,rfl⟩:=this;exact⟨_,z3b (.pl _),n,hn,rfl⟩
end Go.Ab
namespace Go.Proofs.YtmkmhhjkdaklbaaGreat
open Go Go.Ab Go.Cod Go.ChangeShapes Go.WideShapes Go.ChangeAt Go.RowKit
set_option maxRecDepth 100000
theorem toList_inj {a b:ByteArray} (h:a.toList=b.toList):a=b:=by
 rw[ByteArray.toList_eq,ByteArray.toList_eq]at h;cases a;cases b;simpa using h
section
variable (σ:St)
end
def z9l:List AV→Prop:=fun xs=>∃(b:Int) (lo hi:Nat),lo<2^64∧hi<2^64∧xs=[I b,Fl lo,Fl hi]
def QDRuW:List AV→Prop:=fun xs=>∃d:RuD,d.lo<2^64∧d.hi<2^64∧xs=duC d
theorem z4M (f:Nat):Reads Tryz.prog 39 f z9l:=by
 cases f with
 |zero=>exact Reads.zero
 |succ f =>
  have h:=Reads.struct (P:=Tryz.prog) (t:=39) (f:=f) (Qs:=[QInt .i64,z7r,z7r]) Tryz.underlying39 (by kernel_rfl) rfl (by
   intro p hp;simp only[List.zip_cons_cons,List.zip_nil_right,List.mem_cons,List.not_mem_nil,or_false]at hp;rcases hp with rfl|rfl|rfl
   · exact Reads.int Tryz.underlying3 f
   · exact Reads.floatW Tryz.underlying23 f
   · exact Reads.floatW Tryz.underlying23 f)
  refine h.mono fun xs hq=>?_
  obtain⟨_,_,rfl,⟨k,_,rfl⟩,_,_,rfl,⟨n,hn,rfl⟩,_,_,rfl,⟨v,hv,rfl⟩,rfl⟩:=hq;exact⟨k,n,v,hn,hv,rfl⟩
theorem z8q (f:Nat):Reads Tryz.prog 42 f QDRuW:=by
 cases f with
 |zero=>exact Reads.zero
 |succ f =>
  have h:=Reads.struct (P:=Tryz.prog) (t:=42) (f:=f) (Qs:=[QMats,QMats,z9l,QInts]) Tryz.underlying42 (by kernel_rfl) rfl (by
   intro p hp;simp only[List.zip_cons_cons,List.zip_nil_right,List.mem_cons,List.not_mem_nil,or_false]at hp;rcases hp with rfl|rfl|rfl|rfl
   · exact z4y f
   · exact z4y f
   · exact z4M f
   · exact z6H f)
  refine h.mono fun xs hq=>?_
  obtain⟨_,_,rfl,⟨M,hM,rfl⟩,_,_,rfl,⟨N,hN,rfl⟩,_,_,rfl,⟨b,lo,hi,h1,h2,rfl⟩,_,_,rfl,⟨e,rfl⟩,rfl⟩:=hq;exact⟨⟨M,N,b,lo,hi,e,hM,hN⟩,h1,h2,rfl⟩
theorem zeD {d:RuD} (h1:d.lo<2^64) (h2:d.hi<2^64):ruSz (z2J d):=by
 unfold ruSz z2J z0D;simp only;split
 · exact⟨by decide,by decide⟩
 · split
   · exact⟨h2,h1⟩
   · exact⟨h1,h2⟩
end Go.Proofs.YtmkmhhjkdaklbaaGreat
namespace Go.Proofs.YtmkmhhjkdaklbaaGreat
open Go Go.Ab Go.Cod
set_option maxRecDepth 100000
theorem z1l {α β:Type} {rd:Rd α} {wr:α→Byt} {ok:α→Prop} (h:Fits rd wr ok) (f:α→β) (g:β→α) (hgf:∀a,g (f a)=a):Fits (z1x rd f) (fun r=>wr (g r)) (fun r=>ok (g r)∧f (g r)=r) :=
 dress_fits h (fun a ha=>⟨⟨by rw[hgf];exact ha,by rw[hgf]⟩,by rw[hgf]⟩) (fun b hb=>hb)
theorem zap (c:UInt8):opC ((c.toNat:Nat):Int)=c:=by
 unfold opC;rw[Int.toNat_natCast];simp
theorem z22 {n:Int} (h0:0≤n) (h1:n≤17):(((opC n).toNat:Nat):Int)=n:=by
 have:=z7q h0 h1;rw[←this];obtain⟨k,rfl⟩:=Int.eq_ofNat_of_zero_le h0;have:k<18:=by omega
 match k,this with
 |0,_|1,_|2,_|3,_|4,_|5,_|6,_|7,_|8,_|9,_|10,_|11,_|12,_|13,_|14,_|15,_|16,_|17,_=>rfl
theorem z3g (s:ByteArray):emS s=true↔s=⟨#[]⟩:=by
 unfold emS;rw[beq_iff_eq];exact⟨toList_inj,fun h=>by rw[h]⟩
theorem z3h (n:Nat):emU n=true↔n=0:=by unfold emU;rw[beq_iff_eq];omega
theorem z2K {α:Type} (l:List α):emI l.length=true↔l=[]:=by
 unfold emI;rw[beq_iff_eq,←List.length_eq_zero_iff];omega
theorem z3H (v:Nat):zF v=true↔v=0:=by
 unfold zF;rw[beq_iff_eq];exact⟨fun h=>z2V (Int.ofNat.inj h),fun h=>by rw[h,z1B];rfl⟩
theorem z23 (x:Bnd):noBd x=true↔x=(false,0,0):=by
 obtain⟨a,lo,hi⟩:=x;unfold noBd;simp only[Bool.and_eq_true,z3H,Bool.not_eq_true',Prod.mk.injEq]
theorem z24 (r:RuM):noRl r=true↔r=noRu:=by
 obtain⟨a,b,c,lo,hi,e⟩:=r;unfold noRl noRu;simp only[Bool.and_eq_true,z2K,z23,RuM.mk.injEq,Prod.mk.injEq];constructor
 · rintro⟨rfl,rfl,rfl,rfl,rfl,rfl⟩;simp
 · rintro⟨rfl,rfl,rfl,rfl,rfl,rfl⟩;simp
def mkI (op:Int) (n:Nat):ReM:={ x0 op with id:=(n:Nat) }
def mkIT (op:Int) (p:Nat×ByteArray):ReM:={ x0 op with id:=(p.1:Nat),txt:=p.2 }
def mkZ (op:Int) (c:UInt8):ReM:={ x0 op with sta:=(c.toNat:Nat) }
def mkR (op:Int) (r:RuM):ReM:={ x0 op with ru:=r }
def mkLV (op:Int) (p:List Lab×Nat):ReM:={ x0 op with ls:=p.1,val:=p.2 }
def mkMt (op:Int) (M:List Mtr):ReM:={ x0 op with mt:=M }
structure ReSz (r:ReM):Prop where
 tok:r.tok=⟨#[]⟩
 val:r.val<2^64∧bitsF r.val=r.val
 bd:r.lo<2^64∧r.hi<2^64
 ru:r.ru.lo<2^64∧r.ru.hi<2^64
theorem fit_0 (op:Int):Fits (clR 0 op) (fun r=>[]) (fun r=>r=x0 op):=⟨fun a t h=>by rw[h];rfl,fun b a t h=>by have h:(some (x0 op,b):Option (ReM×Byt))=some (a,t):=h;simp only[Option.some.injEq,Prod.mk.injEq]at h;exact⟨h.1.symm,h.2⟩⟩
theorem fit_1 (op:Int):Fits (clR 1 op) (fun r=>putN r.id.toNat) (fun r=>(r.id.toNat≤2147483647)∧(mkI op) ((fun r=>r.id.toNat) r)=r):=z1l (z1o (most:=2147483647) (by decide)) (mkI op) (fun r=>r.id.toNat) (fun _=>rfl)
theorem fit_3 (op:Int):Fits (clR 3 op) (fun r=>putN r.id.toNat++txtB r.txt) (fun r=>(r.id.toNat≤2147483647∧r.txt.size≤16)∧(mkIT op) ((fun r=>(r.id.toNat,r.txt)) r)=r):=z1l (z0H (z1o (most:=2147483647) (by decide)) (z1L (most:=16) (by decide))) (mkIT op) (fun r=>(r.id.toNat,r.txt)) (fun _=>rfl)
theorem zda (op:Int):Fits (clR 116 op) (fun r=>putN r.st++(putN r.en++(putL r.mt++putBd (r.any,r.lo,r.hi)))) (fun r=>(r.st≤1099511627776∧r.en≤1099511627776∧listB r.mt=true∧(bMay (r.any,r.lo,r.hi)=true∧bSz (r.any,r.lo,r.hi)))∧(mk116 op) ((fun r=>(r.st,r.en,r.mt,r.any,r.lo,r.hi)) r)=r):=z1l (z0H (z1o (most:=1099511627776) (by decide)) (z0H (z1o (most:=1099511627776) (by decide)) (z0H z2U band_fits))) (mk116 op) (fun r=>(r.st,r.en,r.mt,r.any,r.lo,r.hi)) (fun _=>rfl)
theorem zdb (op:Int):Fits (clR 117 op) (fun r=>putN r.id.toNat++(putN r.st++(putN r.en++(putL r.mt++putBd (r.any,r.lo,r.hi))))) (fun r=>(r.id.toNat≤2147483647∧r.st≤1099511627776∧r.en≤1099511627776∧listB r.mt=true∧(bMay (r.any,r.lo,r.hi)=true∧bSz (r.any,r.lo,r.hi)))∧(mk117 op) ((fun r=>(r.id.toNat,r.st,r.en,r.mt,r.any,r.lo,r.hi)) r)=r):=z1l (z0H (z1o (most:=2147483647) (by decide)) (z0H (z1o (most:=1099511627776) (by decide)) (z0H (z1o (most:=1099511627776) (by decide)) (z0H z2U band_fits)))) (mk117 op) (fun r=>(r.id.toNat,r.st,r.en,r.mt,r.any,r.lo,r.hi)) (fun _=>rfl)
theorem fit_8 (op:Int):Fits (clR 8 op) (fun r=>[opC r.sta]) (fun r=>(True)∧(mkZ op) ((fun r=>opC r.sta) r)=r):=z1l byte_fits (mkZ op) (fun r=>opC r.sta) (fun c=>zap c)
theorem zdc (op:Int):Fits (clR 128 op) (fun r=>putR r.ru) (fun r=>(ruIs r.ru=true∧ruSz r.ru)∧(mkR op) ((fun r=>r.ru) r)=r):=z1l ru_fits (mkR op) (fun r=>r.ru) (fun _=>rfl)
theorem zdd (op:Int):Fits (clR 768 op) (fun r=>z3E r.ls++putV r.val) (fun r=>(setB r.ls=true∧(r.val<2^64∧bitsF r.val=r.val))∧(mkLV op) ((fun r=>(r.ls,r.val)) r)=r):=z1l (z0H set_fits val_fits) (mkLV op) (fun r=>(r.ls,r.val)) (fun _=>rfl)
theorem zf9 (op:Int):Fits (clR 16 op) (fun r=>putL r.mt) (fun r=>(listB r.mt=true)∧(mkMt op) ((fun r=>r.mt) r)=r):=z1l z2U (mkMt op) (fun r=>r.mt) (fun _=>rfl)
theorem cls_0 {r:ReM} (hm:mayR r=true) (hs:ReSz r) (hf:(fOf r.op).1=0):(r=x0 r.op)∧z09 0 r=opC r.op::([]):=by
 have hok:=bd_ok hm;unfold mayR at hm;rw[hf]at hm;simp only[Bool.and_eq_true]at hm;obtain⟨_,hz,hr⟩:=hm;unfold zeroB at hz;unfold z0a at hr;simp only[hs_0,Bool.true_or,Bool.false_or,Bool.not_true,Bool.not_false,Bool.true_and,Bool.and_true,Bool.and_eq_true,z3g,z3h,z2K,z3H,z23,z24,beq_iff_eq,Prod.mk.injEq]at hz hr;obtain⟨op0,op1,id0,id1,htx,hst,hen,sta0,sta1,hmt,hru,hls⟩:=hok;obtain⟨h1,h2,h3,h4⟩:=hs;have hid:((r.id.toNat:Nat):Int)=r.id:=by omega
 have hsta:=z22 sta0 (by omega)
 have eL:z0S r.mt=putL r.mt:=by unfold z0S;rw[hmt];rfl
 rw[hf]at hru hls;refine⟨?_,by simp[z09,putB2,putB1,layF,hs_0]⟩
 obtain⟨tok,op,id,txt,st,en,sta,mt,any,lo,hi,ru,ls,val⟩:=r;simp only[x0,mk116,mk117,mkI,mkIT,mkZ,mkR,mkLV,mkMt,ReM.mk.injEq]at *
 simp_all
theorem cls_1 {r:ReM} (hm:mayR r=true) (hs:ReSz r) (hf:(fOf r.op).1=1):((r.id.toNat≤2147483647)∧(mkI r.op) ((fun r=>r.id.toNat) r)=r)∧z09 1 r=opC r.op::(putN r.id.toNat):=by
 have hok:=bd_ok hm;unfold mayR at hm;rw[hf]at hm;simp only[Bool.and_eq_true]at hm;obtain⟨_,hz,hr⟩:=hm;unfold zeroB at hz;unfold z0a at hr;simp only[hs_1,Bool.true_or,Bool.false_or,Bool.not_true,Bool.not_false,Bool.true_and,Bool.and_true,Bool.and_eq_true,z3g,z3h,z2K,z3H,z23,z24,beq_iff_eq,Prod.mk.injEq]at hz hr;obtain⟨op0,op1,id0,id1,htx,hst,hen,sta0,sta1,hmt,hru,hls⟩:=hok;obtain⟨h1,h2,h3,h4⟩:=hs;have hid:((r.id.toNat:Nat):Int)=r.id:=by omega
 have hsta:=z22 sta0 (by omega)
 have eL:z0S r.mt=putL r.mt:=by unfold z0S;rw[hmt];rfl
 rw[hf]at hru hls;refine⟨⟨by omega,?_⟩,by simp[z09,putB2,putB1,layF,hs_1]⟩
 obtain⟨tok,op,id,txt,st,en,sta,mt,any,lo,hi,ru,ls,val⟩:=r;simp only[x0,mk116,mk117,mkI,mkIT,mkZ,mkR,mkLV,mkMt,ReM.mk.injEq]at *
 simp_all
theorem cls_3 {r:ReM} (hm:mayR r=true) (hs:ReSz r) (hf:(fOf r.op).1=3):((r.id.toNat≤2147483647∧r.txt.size≤16)∧(mkIT r.op) ((fun r=>(r.id.toNat,r.txt)) r)=r)∧z09 3 r=opC r.op::(putN r.id.toNat++txtB r.txt):=by
 have hok:=bd_ok hm;unfold mayR at hm;rw[hf]at hm;simp only[Bool.and_eq_true]at hm;obtain⟨_,hz,hr⟩:=hm;unfold zeroB at hz;unfold z0a at hr;simp only[hs_3,Bool.true_or,Bool.false_or,Bool.not_true,Bool.not_false,Bool.true_and,Bool.and_true,Bool.and_eq_true,z3g,z3h,z2K,z3H,z23,z24,beq_iff_eq,Prod.mk.injEq]at hz hr;obtain⟨op0,op1,id0,id1,htx,hst,hen,sta0,sta1,hmt,hru,hls⟩:=hok;obtain⟨h1,h2,h3,h4⟩:=hs;have hid:((r.id.toNat:Nat):Int)=r.id:=by omega
 have hsta:=z22 sta0 (by omega)
 have eL:z0S r.mt=putL r.mt:=by unfold z0S;rw[hmt];rfl
 rw[hf]at hru hls;refine⟨⟨⟨by omega,htx⟩,?_⟩,by simp[z09,putB2,putB1,layF,hs_3]⟩
 obtain⟨tok,op,id,txt,st,en,sta,mt,any,lo,hi,ru,ls,val⟩:=r;simp only[x0,mk116,mk117,mkI,mkIT,mkZ,mkR,mkLV,mkMt,ReM.mk.injEq]at *
 simp_all
theorem z9m {r:ReM} (hm:mayR r=true) (hs:ReSz r) (hf:(fOf r.op).1=116):((r.st≤1099511627776∧r.en≤1099511627776∧listB r.mt=true∧(bMay (r.any,r.lo,r.hi)=true∧bSz (r.any,r.lo,r.hi)))∧(mk116 r.op) ((fun r=>(r.st,r.en,r.mt,r.any,r.lo,r.hi)) r)=r)∧z09 116 r=opC r.op::(putN r.st++(putN r.en++(putL r.mt++putBd (r.any,r.lo,r.hi)))):=by
 have hok:=bd_ok hm;unfold mayR at hm;rw[hf]at hm;simp only[Bool.and_eq_true]at hm;obtain⟨_,hz,hr⟩:=hm;unfold zeroB at hz;unfold z0a at hr;simp only[z5S,Bool.true_or,Bool.false_or,Bool.not_true,Bool.not_false,Bool.true_and,Bool.and_true,Bool.and_eq_true,z3g,z3h,z2K,z3H,z23,z24,beq_iff_eq,Prod.mk.injEq]at hz hr;obtain⟨op0,op1,id0,id1,htx,hst,hen,sta0,sta1,hmt,hru,hls⟩:=hok;obtain⟨h1,h2,h3,h4⟩:=hs;have hid:((r.id.toNat:Nat):Int)=r.id:=by omega
 have hsta:=z22 sta0 (by omega)
 have eL:z0S r.mt=putL r.mt:=by unfold z0S;rw[hmt];rfl
 rw[hf]at hru hls;refine⟨⟨⟨hst,hen,hmt,hr.2.2.2.2.2.2,h3⟩,?_⟩,by simp[z09,putB2,putB1,layF,z5S,eL]⟩
 obtain⟨tok,op,id,txt,st,en,sta,mt,any,lo,hi,ru,ls,val⟩:=r;simp only[x0,mk116,mk117,mkI,mkIT,mkZ,mkR,mkLV,mkMt,ReM.mk.injEq]at *
 simp_all
theorem z9n {r:ReM} (hm:mayR r=true) (hs:ReSz r) (hf:(fOf r.op).1=117):((r.id.toNat≤2147483647∧r.st≤1099511627776∧r.en≤1099511627776∧listB r.mt=true∧(bMay (r.any,r.lo,r.hi)=true∧bSz (r.any,r.lo,r.hi)))∧(mk117 r.op) ((fun r=>(r.id.toNat,r.st,r.en,r.mt,r.any,r.lo,r.hi)) r)=r)∧z09 117 r=opC r.op::(putN r.id.toNat++(putN r.st++(putN r.en++(putL r.mt++putBd (r.any,r.lo,r.hi))))):=by
 have hok:=bd_ok hm;unfold mayR at hm;rw[hf]at hm;simp only[Bool.and_eq_true]at hm;obtain⟨_,hz,hr⟩:=hm;unfold zeroB at hz;unfold z0a at hr;simp only[z5T,Bool.true_or,Bool.false_or,Bool.not_true,Bool.not_false,Bool.true_and,Bool.and_true,Bool.and_eq_true,z3g,z3h,z2K,z3H,z23,z24,beq_iff_eq,Prod.mk.injEq]at hz hr;obtain⟨op0,op1,id0,id1,htx,hst,hen,sta0,sta1,hmt,hru,hls⟩:=hok;obtain⟨h1,h2,h3,h4⟩:=hs;have hid:((r.id.toNat:Nat):Int)=r.id:=by omega
 have hsta:=z22 sta0 (by omega)
 have eL:z0S r.mt=putL r.mt:=by unfold z0S;rw[hmt];rfl
 rw[hf]at hru hls;refine⟨⟨⟨by omega,hst,hen,hmt,hr.2.2.2.2.2.2,h3⟩,?_⟩,by simp[z09,putB2,putB1,layF,z5T,eL]⟩
 obtain⟨tok,op,id,txt,st,en,sta,mt,any,lo,hi,ru,ls,val⟩:=r;simp only[x0,mk116,mk117,mkI,mkIT,mkZ,mkR,mkLV,mkMt,ReM.mk.injEq]at *
 simp_all
theorem cls_8 {r:ReM} (hm:mayR r=true) (hs:ReSz r) (hf:(fOf r.op).1=8):((True)∧(mkZ r.op) ((fun r=>opC r.sta) r)=r)∧z09 8 r=opC r.op::([opC r.sta]):=by
 have hok:=bd_ok hm;unfold mayR at hm;rw[hf]at hm;simp only[Bool.and_eq_true]at hm;obtain⟨_,hz,hr⟩:=hm;unfold zeroB at hz;unfold z0a at hr;simp only[hs_8,Bool.true_or,Bool.false_or,Bool.not_true,Bool.not_false,Bool.true_and,Bool.and_true,Bool.and_eq_true,z3g,z3h,z2K,z3H,z23,z24,beq_iff_eq,Prod.mk.injEq]at hz hr;obtain⟨op0,op1,id0,id1,htx,hst,hen,sta0,sta1,hmt,hru,hls⟩:=hok;obtain⟨h1,h2,h3,h4⟩:=hs;have hid:((r.id.toNat:Nat):Int)=r.id:=by omega
 have hsta:=z22 sta0 (by omega)
 have eL:z0S r.mt=putL r.mt:=by unfold z0S;rw[hmt];rfl
 rw[hf]at hru hls;refine⟨⟨trivial,?_⟩,by simp[z09,putB2,putB1,layF,hs_8]⟩
 obtain⟨tok,op,id,txt,st,en,sta,mt,any,lo,hi,ru,ls,val⟩:=r;simp only[x0,mk116,mk117,mkI,mkIT,mkZ,mkR,mkLV,mkMt,ReM.mk.injEq]at *
 simp_all
theorem z9o {r:ReM} (hm:mayR r=true) (hs:ReSz r) (hf:(fOf r.op).1=128):((ruIs r.ru=true∧ruSz r.ru)∧(mkR r.op) ((fun r=>r.ru) r)=r)∧z09 128 r=opC r.op::(putR r.ru):=by
 have hok:=bd_ok hm;unfold mayR at hm;rw[hf]at hm;simp only[Bool.and_eq_true]at hm;obtain⟨_,hz,hr⟩:=hm;unfold zeroB at hz;unfold z0a at hr;simp only[hs_128,Bool.true_or,Bool.false_or,Bool.not_true,Bool.not_false,Bool.true_and,Bool.and_true,Bool.and_eq_true,z3g,z3h,z2K,z3H,z23,z24,beq_iff_eq,Prod.mk.injEq]at hz hr;obtain⟨op0,op1,id0,id1,htx,hst,hen,sta0,sta1,hmt,hru,hls⟩:=hok;obtain⟨h1,h2,h3,h4⟩:=hs;have hid:((r.id.toNat:Nat):Int)=r.id:=by omega
 have hsta:=z22 sta0 (by omega)
 have eL:z0S r.mt=putL r.mt:=by unfold z0S;rw[hmt];rfl
 rw[hf]at hru hls;have eR:z1t r.ru=putR r.ru:=by unfold z1t;rw[hru hs_128.2.2.2.2.2.2.2.1];rfl
 refine⟨⟨⟨hru hs_128.2.2.2.2.2.2.2.1,h4⟩,?_⟩,by simp[z09,putB2,putB1,layF,hs_128,eR]⟩
 obtain⟨tok,op,id,txt,st,en,sta,mt,any,lo,hi,ru,ls,val⟩:=r;simp only[x0,mk116,mk117,mkI,mkIT,mkZ,mkR,mkLV,mkMt,ReM.mk.injEq]at *
 simp_all
theorem z9p {r:ReM} (hm:mayR r=true) (hs:ReSz r) (hf:(fOf r.op).1=768):((setB r.ls=true∧(r.val<2^64∧bitsF r.val=r.val))∧(mkLV r.op) ((fun r=>(r.ls,r.val)) r)=r)∧z09 768 r=opC r.op::(z3E r.ls++putV r.val):=by
 have hok:=bd_ok hm;unfold mayR at hm;rw[hf]at hm;simp only[Bool.and_eq_true]at hm;obtain⟨_,hz,hr⟩:=hm;unfold zeroB at hz;unfold z0a at hr;simp only[hs_768,Bool.true_or,Bool.false_or,Bool.not_true,Bool.not_false,Bool.true_and,Bool.and_true,Bool.and_eq_true,z3g,z3h,z2K,z3H,z23,z24,beq_iff_eq,Prod.mk.injEq]at hz hr;obtain⟨op0,op1,id0,id1,htx,hst,hen,sta0,sta1,hmt,hru,hls⟩:=hok;obtain⟨h1,h2,h3,h4⟩:=hs;have hid:((r.id.toNat:Nat):Int)=r.id:=by omega
 have hsta:=z22 sta0 (by omega)
 have eL:z0S r.mt=putL r.mt:=by unfold z0S;rw[hmt];rfl
 rw[hf]at hru hls;have eS:z2E r.ls=z3E r.ls:=by unfold z2E;rw[hls hs_768.2.2.2.2.2.2.2.2.1];rfl
 refine⟨⟨⟨hls hs_768.2.2.2.2.2.2.2.2.1,h2⟩,?_⟩,by simp[z09,putB2,putB1,layF,hs_768,eS]⟩
 obtain⟨tok,op,id,txt,st,en,sta,mt,any,lo,hi,ru,ls,val⟩:=r;simp only[x0,mk116,mk117,mkI,mkIT,mkZ,mkR,mkLV,mkMt,ReM.mk.injEq]at *
 simp_all
theorem zde {r:ReM} (hm:mayR r=true) (hs:ReSz r) (hf:(fOf r.op).1=16):((listB r.mt=true)∧(mkMt r.op) ((fun r=>r.mt) r)=r)∧z09 16 r=opC r.op::(putL r.mt):=by
 have hok:=bd_ok hm;unfold mayR at hm;rw[hf]at hm;simp only[Bool.and_eq_true]at hm;obtain⟨_,hz,hr⟩:=hm;unfold zeroB at hz;unfold z0a at hr;simp only[hs_16,Bool.true_or,Bool.false_or,Bool.not_true,Bool.not_false,Bool.true_and,Bool.and_true,Bool.and_eq_true,z3g,z3h,z2K,z3H,z23,z24,beq_iff_eq,Prod.mk.injEq]at hz hr;obtain⟨op0,op1,id0,id1,htx,hst,hen,sta0,sta1,hmt,hru,hls⟩:=hok;obtain⟨h1,h2,h3,h4⟩:=hs;have hid:((r.id.toNat:Nat):Int)=r.id:=by omega
 have hsta:=z22 sta0 (by omega)
 have eL:z0S r.mt=putL r.mt:=by unfold z0S;rw[hmt];rfl
 rw[hf]at hru hls;refine⟨⟨hmt,?_⟩,by simp[z09,putB2,putB1,layF,hs_16,eL]⟩
 obtain⟨tok,op,id,txt,st,en,sta,mt,any,lo,hi,ru,ls,val⟩:=r;simp only[x0,mk116,mk117,mkI,mkIT,mkZ,mkR,mkLV,mkMt,ReM.mk.injEq]at *
 simp_all
theorem zgc {op:Int} {r:ReM} (h:r=x0 op):ReSz r:=by
 subst h;have z:(0:Nat)<2^64:=by decide
 exact⟨rfl,⟨z,z1B⟩,⟨z,z⟩,⟨z,z⟩⟩
theorem zgd {op:Int} {r:ReM} (h:(r.id.toNat≤2147483647)∧(mkI op) ((fun r=>r.id.toNat) r)=r):ReSz r:=⟨by rw[←h.2];rfl,(by rw[←h.2];exact(show(0:Nat)<2^64∧bitsF 0=0 from⟨by decide,z1B⟩)),(by rw[←h.2];show(0:Nat)<2^64∧(0:Nat)<2^64;decide),(by rw[←h.2];show(0:Nat)<2^64∧(0:Nat)<2^64;decide)⟩
theorem zge {op:Int} {r:ReM} (h:(r.id.toNat≤2147483647∧r.txt.size≤16)∧(mkIT op) ((fun r=>(r.id.toNat,r.txt)) r)=r):ReSz r:=⟨by rw[←h.2];rfl,(by rw[←h.2];exact(show(0:Nat)<2^64∧bitsF 0=0 from⟨by decide,z1B⟩)),(by rw[←h.2];show(0:Nat)<2^64∧(0:Nat)<2^64;decide),(by rw[←h.2];show(0:Nat)<2^64∧(0:Nat)<2^64;decide)⟩
theorem zdf {op:Int} {r:ReM} (h:(r.st≤1099511627776∧r.en≤1099511627776∧listB r.mt=true∧(bMay (r.any,r.lo,r.hi)=true∧bSz (r.any,r.lo,r.hi)))∧(mk116 op) ((fun r=>(r.st,r.en,r.mt,r.any,r.lo,r.hi)) r)=r):ReSz r:=⟨by rw[←h.2];rfl,(by rw[←h.2];exact(show(0:Nat)<2^64∧bitsF 0=0 from⟨by decide,z1B⟩)),h.1.2.2.2.2,(by rw[←h.2];show(0:Nat)<2^64∧(0:Nat)<2^64;decide)⟩
theorem zdg {op:Int} {r:ReM} (h:(r.id.toNat≤2147483647∧r.st≤1099511627776∧r.en≤1099511627776∧listB r.mt=true∧(bMay (r.any,r.lo,r.hi)=true∧bSz (r.any,r.lo,r.hi)))∧(mk117 op) ((fun r=>(r.id.toNat,r.st,r.en,r.mt,r.any,r.lo,r.hi)) r)=r):ReSz r:=⟨by rw[←h.2];rfl,(by rw[←h.2];exact(show(0:Nat)<2^64∧bitsF 0=0 from⟨by decide,z1B⟩)),h.1.2.2.2.2.2,(by rw[←h.2];show(0:Nat)<2^64∧(0:Nat)<2^64;decide)⟩
theorem zgf {op:Int} {r:ReM} (h:(True)∧(mkZ op) ((fun r=>opC r.sta) r)=r):ReSz r:=⟨by rw[←h.2];rfl,(by rw[←h.2];exact(show(0:Nat)<2^64∧bitsF 0=0 from⟨by decide,z1B⟩)),(by rw[←h.2];show(0:Nat)<2^64∧(0:Nat)<2^64;decide),(by rw[←h.2];show(0:Nat)<2^64∧(0:Nat)<2^64;decide)⟩
theorem zdh {op:Int} {r:ReM} (h:(ruIs r.ru=true∧ruSz r.ru)∧(mkR op) ((fun r=>r.ru) r)=r):ReSz r:=⟨by rw[←h.2];rfl,(by rw[←h.2];exact(show(0:Nat)<2^64∧bitsF 0=0 from⟨by decide,z1B⟩)),(by rw[←h.2];show(0:Nat)<2^64∧(0:Nat)<2^64;decide),h.1.2⟩
theorem zdi {op:Int} {r:ReM} (h:(setB r.ls=true∧(r.val<2^64∧bitsF r.val=r.val))∧(mkLV op) ((fun r=>(r.ls,r.val)) r)=r):ReSz r:=⟨by rw[←h.2];rfl,h.1.2,(by rw[←h.2];show(0:Nat)<2^64∧(0:Nat)<2^64;decide),(by rw[←h.2];show(0:Nat)<2^64∧(0:Nat)<2^64;decide)⟩
theorem zeE {op:Int} {r:ReM} (h:(listB r.mt=true)∧(mkMt op) ((fun r=>r.mt) r)=r):ReSz r:=⟨by rw[←h.2];rfl,(by rw[←h.2];exact(show(0:Nat)<2^64∧bitsF 0=0 from⟨by decide,z1B⟩)),(by rw[←h.2];show(0:Nat)<2^64∧(0:Nat)<2^64;decide),(by rw[←h.2];show(0:Nat)<2^64∧(0:Nat)<2^64;decide)⟩
theorem zbm {b:Byt} {x:ReM} {t:Byt} (h:bodyR b=some (x,t)):mayR x=true:=by
 cases b with
 |nil=>cases h
 |cons c u =>
  have h:onlyR (clR (fOf (c.toNat:Int)).1 (c.toNat:Int)) mayR u=some (x,t):=h;simp only[onlyR]at h
  cases h3:clR (fOf (c.toNat:Int)).1 (c.toNat:Int) u with
  |none=>simp[h3]at h
  |some y =>
   simp only[h3,Option.bind_some]at h;split at h
   · rename_i hm;simp only[Option.some.injEq]at h;subst h;exact hm
   · cases h
theorem body_fits:Fits bodyR z1I (fun r=>mayR r=true∧ReSz r) where
 fwd r t h:=by
  obtain⟨hm,hs⟩:=h;have hok:=bd_ok hm;have hc:z1I r=z09 (fOf r.op).1 r:=by unfold z1I;rw[hm];rfl
  have hop:=z22 hok.op0 hok.op1
  have fin:∀(f:Int) (w:Byt),(fOf r.op).1=f→z09 f r=opC r.op::w→clR f r.op (w++t)=some (r,t)→bodyR (z1I r++t)=some (r,t):=by
   intro f w hf hw hcl;rw[hc,hf,hw];show onlyR (clR (fOf (((opC r.op).toNat:Nat):Int)).1 (((opC r.op).toNat:Nat):Int)) mayR (w++t)=some (r,t);rw[hop,hf];simp only[onlyR,hcl,Option.bind_some,hm,if_true]
  have hmem:=z5R r.op;generalize hf:(fOf r.op).1=f at hmem;simp only[List.mem_cons,List.not_mem_nil,or_false]at hmem;rcases hmem with rfl|rfl|rfl|rfl|rfl|rfl|rfl|rfl|rfl
  · exact fin _ _ hf (cls_0 hm hs hf).2 ((fit_0 r.op).fwd r t (cls_0 hm hs hf).1)
  · exact fin _ _ hf (cls_1 hm hs hf).2 ((fit_1 r.op).fwd r t (cls_1 hm hs hf).1)
  · exact fin _ _ hf (cls_3 hm hs hf).2 ((fit_3 r.op).fwd r t (cls_3 hm hs hf).1)
  · exact fin _ _ hf (z9m hm hs hf).2 ((zda r.op).fwd r t (z9m hm hs hf).1)
  · exact fin _ _ hf (z9n hm hs hf).2 ((zdb r.op).fwd r t (z9n hm hs hf).1)
  · exact fin _ _ hf (cls_8 hm hs hf).2 ((fit_8 r.op).fwd r t (cls_8 hm hs hf).1)
  · exact fin _ _ hf (z9o hm hs hf).2 ((zdc r.op).fwd r t (z9o hm hs hf).1)
  · exact fin _ _ hf (z9p hm hs hf).2 ((zdd r.op).fwd r t (z9p hm hs hf).1)
  · exact fin _ _ hf (zde hm hs hf).2 ((zf9 r.op).fwd r t (zde hm hs hf).1)
 bwd b r t h:=by
  have hm:=zbm h
  cases b with
  |nil=>cases h
  |cons c u =>
   have h:onlyR (clR (fOf (c.toNat:Int)).1 (c.toNat:Int)) mayR u=some (r,t):=h
   have h3:clR (fOf (c.toNat:Int)).1 (c.toNat:Int) u=some (r,t):=by
    simp only[onlyR]at h
    cases h3:clR (fOf (c.toNat:Int)).1 (c.toNat:Int) u with
    |none=>simp[h3]at h
    |some y =>
     simp only[h3,Option.bind_some]at h;split at h
     · exact h
     · cases h
   have hop:=zf7 h3;have hoc:opC r.op=c:=by rw[hop];exact zap c
   have hc:z1I r=z09 (fOf r.op).1 r:=by unfold z1I;rw[hm];rfl
   rw[←hop]at h3
   have fin:∀(f:Int) (w:Byt),(fOf r.op).1=f→z09 f r=opC r.op::w→u=w++t→c::u=z1I r++t:=by
    intro f w hf hw hu;rw[hc,hf,hw,hoc,hu];rfl
   have hmem:=z5R r.op;generalize hf:(fOf r.op).1=f at hmem h3;simp only[List.mem_cons,List.not_mem_nil,or_false]at hmem;rcases hmem with rfl|rfl|rfl|rfl|rfl|rfl|rfl|rfl|rfl
   · have k:=(fit_0 r.op).bwd u r t h3;have s:=zgc k.1;exact⟨⟨hm,s⟩,fin _ _ hf (cls_0 hm s hf).2 k.2⟩
   · have k:=(fit_1 r.op).bwd u r t h3;have s:=zgd k.1;exact⟨⟨hm,s⟩,fin _ _ hf (cls_1 hm s hf).2 k.2⟩
   · have k:=(fit_3 r.op).bwd u r t h3;have s:=zge k.1;exact⟨⟨hm,s⟩,fin _ _ hf (cls_3 hm s hf).2 k.2⟩
   · have k:=(zda r.op).bwd u r t h3;have s:=zdf k.1;exact⟨⟨hm,s⟩,fin _ _ hf (z9m hm s hf).2 k.2⟩
   · have k:=(zdb r.op).bwd u r t h3;have s:=zdg k.1;exact⟨⟨hm,s⟩,fin _ _ hf (z9n hm s hf).2 k.2⟩
   · have k:=(fit_8 r.op).bwd u r t h3;have s:=zgf k.1;exact⟨⟨hm,s⟩,fin _ _ hf (cls_8 hm s hf).2 k.2⟩
   · have k:=(zdc r.op).bwd u r t h3;have s:=zdh k.1;exact⟨⟨hm,s⟩,fin _ _ hf (z9o hm s hf).2 k.2⟩
   · have k:=(zdd r.op).bwd u r t h3;have s:=zdi k.1;exact⟨⟨hm,s⟩,fin _ _ hf (z9p hm s hf).2 k.2⟩
   · have k:=(zf9 r.op).bwd u r t h3;have s:=zeE k.1;exact⟨⟨hm,s⟩,fin _ _ hf (zde hm s hf).2 k.2⟩
structure RqSz (r:ReM):Prop where
 val:r.val<2^64∧bitsF r.val=r.val
 bd:r.lo<2^64∧r.hi<2^64
 ru:r.ru.lo<2^64∧r.ru.hi<2^64
def noTok (r:ReM):ReM:={ r with tok:=⟨#[]⟩ }
theorem zbn (r:ReM):z1I (noTok r)=z1I r:=rfl
def eqLb (x y:Lab):Bool:=x.1.toList==y.1.toList&&(x.2.toList==y.2.toList&&true)
def sameL (A B:List Lab):Bool:=decide (A.length=B.length)&&(List.range A.length).all fun i=>eqLb (A.getD i noLb) (B.getD i noLb)
theorem zeF:bitsF 9221120237041090561=9221120237041090561:=by decide +kernel
theorem z5X (v:Nat):bitsF (bitsF v)=bitsF v:=by
 cases h:nanF v with
 |true =>
  have e:bitsF v=9221120237041090561:=by unfold bitsF;rw[if_pos h]
  rw[e,zeF]
 |false =>
  have e:bitsF v=v:=by unfold bitsF;rw[h];rfl
  rw[e,e]
theorem zgg {v:Nat} (h:v<2^64):bitsF v<2^64:=by
 unfold bitsF;split
 · decide
 · exact h
def z6M (r:ReM):ReM:={ r with val:=bitsF r.val }
theorem z8r (r:ReM):mayR (z6M r)=mayR r:=by
 have hz:zF (bitsF r.val)=zF r.val:=by unfold zF;rw[z5X]
 unfold mayR zeroB z0a z6M;simp only[hz]
theorem zbo (r:ReM):z1I (z6M r)=z1I r:=by
 have hp:putV (bitsF r.val)=putV r.val:=by unfold putV;rw[z5X]
 unfold z1I;rw[z8r];unfold z09 putB2 putB1 z6M;simp only[hp]
structure SzA (r:ReM):Prop where
 val:r.val<2^64
 bd:r.lo<2^64∧r.hi<2^64
 ru:r.ru.lo<2^64∧r.ru.hi<2^64
theorem zdj {r:ReM} (hm:mayR r=true) (hs:SzA r) (t:Byt):bodyR (z1I r++t)=some (noTok (z6M r),t):=by
 rw[←zbo,←zbn];exact body_fits.fwd _ t ⟨by show mayR (z6M r)=true;rw[z8r];exact hm,rfl,⟨zgg hs.val,z5X _⟩,hs.bd,hs.ru⟩
theorem RqSz.a {x:ReM} (h:RqSz x):SzA x:=⟨h.val.1,h.bd,h.ru⟩
theorem z8s (b:Bool):(b==b)=true:=by cases b<;>rfl
theorem zeG {n:Nat} (h:emI n=true):n=0:=by unfold emI at h;simp only[beq_iff_eq]at h;omega
theorem z9q {α:Type} {o:Option (α×Byt)} {x:α} (h:wholeO o=some x):o=some (x,[]):=by
 unfold wholeO at h;split at h
 · simp only[Option.some.injEq]at h;rw[h]
 · cases h
theorem zeH {α:Type} {rd:Rd α} {wr:α→Byt} {ok:α→Prop} (h:Fits rd wr ok) {a b:α} {s t:Byt} (ha:ok a) (hb:ok b) (he:wr a++s=wr b++t):a=b∧s=t:=by
 have h1:=h.fwd a s ha;rw[he,h.fwd b t hb]at h1;simp only[Option.some.injEq,Prod.mk.injEq]at h1;exact⟨h1.1.symm,h1.2.symm⟩
structure RcOk (n:Nat) (r:RcM):Prop where
 i0:0≤r.ix
 i1:r.ix≤2147483647
 ck:r.ck≤1099511627776
 bd:r.bd.length≤n
 c0:0≤r.cd
 c1:r.cd<256
def toRc (r:RcM):Nat×Nat×ByteArray×UInt8:=(r.ix.toNat,r.ck,⟨r.bd.toArray⟩,cdC r.cd)
theorem z9r {n:Nat} (hn:n<2^64):Fits (rcR n) putRc (RcOk n):=by
 refine dress_fits (z0H (z1o (by decide)) (z0H (z1o (by decide)) (z0H (z1L hn) byte_fits))) (g:=toRc) ?_ ?_
 · rintro⟨a,b,s,c⟩ ⟨h1,h2,h3,_⟩;have h1:a≤2147483647:=h1;have h3:s.size≤n:=h3;have hc:=c.toNat_lt;refine⟨⟨Int.natCast_nonneg _,by show((a:Nat):Int)≤2147483647;omega,h2,by show s.data.toList.length≤n;rw[z1w];exact h3,Int.natCast_nonneg _,by show((c.toNat:Nat):Int)<256;omega⟩,?_⟩
   show putN a++(putN b++(txtB ⟨s.data.toList.toArray⟩++[c.toNat.toUInt8]))=_;rw[zfz,toUInt8_toNat]
 · rintro⟨i,k,b,c⟩ ⟨h0,h1,h2,h3,h4,h5⟩;simp only at h0 h1 h2 h3 h4 h5;obtain⟨i,rfl⟩:=Int.eq_ofNat_of_zero_le h0;obtain⟨c,rfl⟩:=Int.eq_ofNat_of_zero_le h4;refine⟨⟨by show i≤2147483647;omega,h2,by show(⟨b.toArray⟩:ByteArray).size≤n;rw[z4i];exact h3,trivial⟩,?_⟩
   show(⟨(i:Nat),k,b.toArray.toList,((c.toUInt8.toNat:Nat):Int)⟩:RcM)=_;rw[toNat_toUInt8 (by omega)]
theorem z9s {r:RcM} (h:rcIs r=true) {n:Nat} (hn:r.bd.length≤n):RcOk n r:=by
 have:=z7o h;exact⟨by omega,by omega,by omega,hn,by omega,by omega⟩
theorem z52 (r:RcM):r.bd.length≤(putRc r).length:=by
 unfold putRc txtB;simp only[List.length_append,List.length_cons,List.length_nil,zan];omega
theorem zaq {r:RcM} (h:rcIs r=true) (hl:(putRc r).length<2^64):rdRc (putRc r)=some r:=by
 unfold rdRc okRc;have:=(z9r hl).fwd r [] (z9s h (z52 r));rw[List.append_nil]at this;rw[this];simp[wholeO,h]
theorem z7s {b:Byt} {x:RcM} (hl:b.length<2^64) (h:rdRc b=some x):b=putRc x∧rcIs x=true:=by
 unfold rdRc okRc at h
 cases hw:wholeO (rcR b.length b) with
 |none=>rw[hw]at h;cases h
 |some y =>
  rw[hw]at h;simp only[Option.bind_some]at h;split at h
  · rename_i hi;simp only[Option.some.injEq]at h;subst h;have:=((z9r hl).bwd b y [] (z9q hw)).2;rw[List.append_nil]at this;exact⟨this,hi⟩
  · cases h
theorem z7t {r x:RcM} {s t:Byt} (h:rcIs r=true) (hx:rcIs x=true) (hl:(putRc r++s).length<2^64) (he:putRc r++s=putRc x++t):r=x∧s=t:=by
 have h1:=z52 r;have h2:=z52 x;have h3:(putRc r++s).length=(putRc x).length+t.length:=by rw[he,List.length_append]
 have h4:(putRc r++s).length=(putRc r).length+s.length:=List.length_append;exact zeH (z9r hl) (z9s h (by omega)) (z9s hx (by omega)) he
theorem zdk {r:RcM} (h:rcIs r=true) (t:Byt) (hl:(putRc r++t).length<2^64):rdRc (putRc r++t)=if t=[] then some r else none:=by
 split
 · rename_i ht;subst ht;rw[List.append_nil]at hl⊢;exact zaq h hl
 · rename_i ht
   cases hr:rdRc (putRc r++t) with
   |none=>rfl
   |some x =>
    obtain⟨h1,h2⟩:=z7s hl hr;exact absurd (z7t h h2 hl (by rw[h1,List.append_nil])).2 ht
theorem zeI {r:RcM} (h:rcIs r=true) (hl:(putRc r).length<2^64) {k:Nat} (hk:k<(putRc r).length):rdRc ((putRc r).take k)=none:=by
 cases hr:rdRc ((putRc r).take k) with
 |none=>rfl
 |some x =>
  obtain⟨h1,h2⟩:=z7s (by rw[List.length_take];omega) hr
  have e:putRc r++[]=putRc x++(putRc r).drop k:=by rw[←h1,List.take_append_drop,List.append_nil]
  have:=(z7t h h2 (by rw[List.append_nil];exact hl) e).2
  have hd:=congrArg List.length this;rw[List.length_drop,List.length_nil]at hd;omega
theorem zdl {x y:RcM} (h:z3G x y=true):x=y:=by
 unfold z3G eqT at h;simp only[Bool.and_eq_true,beq_iff_eq]at h;obtain⟨h1,h2,h3,h4⟩:=h;obtain⟨a,b,c,d⟩:=x;obtain⟨a',b',c',d'⟩:=y;simp only at h1 h2 h3 h4;have h3:=toList_inj h3
 have h5:c=c':=by
  have:=congrArg (fun s:ByteArray=>s.data.toList) h3
  simpa using this
 rw[h1,Int.ofNat.inj h2,h5,h4]
theorem z1S {r:RcM} (h:rcIs r=true):z0G r=putRc r:=by unfold z0G;rw[if_pos h]
theorem zgh {x y:RcM} (hx:rcIs x=true) (hy:rcIs y=true) (hl:(z0G x).length<2^64):decide (z0G x=z0G y)=z3G x y:=by
 rw[Bool.eq_iff_iff,decide_eq_true_eq];rw[z1S hx]at hl⊢;rw[z1S hy];constructor
 · intro h;rw[(z7t (s:=[]) (t:=[]) hx hy (by rw[List.append_nil];exact hl) (by rw[h])).1,z5W]
 · intro h;rw[zdl h]
abbrev ltS (a b:ByteArray):Bool:=Op.bytesLess a.toList b.toList
theorem zgi:∀a∈names,∀b∈names,((a.toList==b.toList)||(ltS a b||ltS b a))=true:=by decide +kernel
theorem zhk:∀a∈names,∀b∈names,a=b∨ltS a b=true∨ltS b a=true:=fun a ha b hb=>by
 have:=zgi a ha b hb;simp only[Bool.or_eq_true]at this;rcases this with h|h|h
 · exact .inl (toList_inj (eq_of_beq h))
 · exact .inr (.inl h)
 · exact .inr (.inr h)
theorem zfa:∀a∈names,ltS a a=false:=by decide +kernel
theorem nm_tr:∀a∈names,∀b∈names,∀c∈names,ltS a b=true→ltS b c=true→ltS a c=true:=by decide +kernel
theorem nm_ok:∀a∈names,nameB a=true:=by decide +kernel
theorem zgj:∀a∈values,valB a=true:=by decide +kernel
def rise (L:List Lab):Prop:=L.Pairwise fun x y=>ltS x.1 y.1=true
theorem zar (out:List Lab) (x:Lab):∀m,(∀k,pos out x m≤k→k<m→ltS x.1 (out.getD k noL).1=true)∧(0<pos out x m→ltS x.1 (out.getD (pos out x m-1) noL).1=false)
 |0=>⟨fun k h1 h2=>absurd h2 (Nat.not_lt_zero _),fun h=>absurd h (Nat.lt_irrefl _)⟩
 |m+1=>by
  obtain⟨h1,h2⟩:=zar out x m;rw[pos];split
  · rename_i h;refine⟨fun k hk hk2=>?_,h2⟩
    by_cases hkm:k=m
    · subst hkm;exact h
    · exact h1 k hk (by omega)
  · rename_i h;refine⟨fun k hk hk2=>by omega,fun _=>?_⟩
    simpa using h
theorem zdm {out:List Lab} {x:Lab} (ho:rise out) (hd:z2e out) (hx:x.1∈names) (hn:∀y∈out,y.1≠x.1):rise (insL out x):=by
 obtain⟨h1,h2⟩:=zar out x out.length;have hp:=zbO out x out.length;unfold insL;generalize pos out x out.length=n at h1 h2 hp⊢
 have ht:∀y∈out.take n,ltS y.1 x.1=true:=by
  intro y hy;obtain⟨i,hi,rfl⟩:=List.getElem_of_mem hy;rw[List.length_take]at hi;have hl:(out.getD (n-1) noL)=out[n-1]:=by rw[List.getD_eq_getElem?_getD,List.getElem?_eq_getElem (by omega),Option.getD_some]
  have h3:=h2 (by omega)
  rw[hl]at h3
  have hlast:ltS (out[n-1]'(by omega)).1 x.1=true:=by
   rcases zhk _ (hd _ (List.getElem_mem (show n-1<out.length by omega))).1 _ hx with h|h|h
   · exact absurd h (hn _ (List.getElem_mem _))
   · exact h
   · rw[h]at h3;cases h3
  rw[List.getElem_take];by_cases hin:i=n-1
  · subst hin;exact hlast
  · have hi2:i<n-1:=by omega
    have:=(List.pairwise_iff_getElem.1 ho) i (n-1) (by omega) (by omega) hi2
    exact nm_tr _ (hd _ (List.getElem_mem (show i<out.length by omega))).1 _ (hd _ (List.getElem_mem (show n-1<out.length by omega))).1 _ hx this hlast
 have hdr:∀y∈out.drop n,ltS x.1 y.1=true:=by
  intro y hy;obtain⟨i,hi,rfl⟩:=List.getElem_of_mem hy;rw[List.length_drop]at hi;have:=h1 (n+i) (by omega) (by omega)
  rw[List.getD_eq_getElem?_getD,List.getElem?_eq_getElem (by omega),Option.getD_some]at this
  rw[List.getElem_drop];exact this
 unfold rise at ho⊢;rw[List.append_assoc,List.pairwise_append];refine⟨ho.sublist (List.take_sublist _ _),?_,fun a ha b hb=>?_⟩
 · rw[List.singleton_append,List.pairwise_cons];exact⟨hdr,ho.sublist (List.drop_sublist _ _)⟩
 · rcases List.mem_append.1 hb with hb|hb
   · rw[List.mem_singleton.1 hb];exact ht a ha
   · exact nm_tr _ (hd _ (List.mem_of_mem_take ha)).1 _ hx _ (hd _ (List.mem_of_mem_drop hb)).1 (ht a ha) (hdr b hb)
def distinct (L:List Lab):Prop:=L.Pairwise fun x y=>x.1≠y.1
theorem z6N:∀(L acc:List Lab),rise acc→z2e acc→z2e L→distinct L→(∀x∈acc,∀y∈L,x.1≠y.1)→rise (L.foldl insL acc)
 |[],acc,h,_,_,_,_=>h
 |x::L,acc,h,hd,hL,hdis,hac=>by
  rw[List.foldl_cons];have hdis:=List.pairwise_cons.1 hdis;refine z6N L _ (zdm h hd (hL x List.mem_cons_self).1 fun y hy=>hac y hy x List.mem_cons_self) (fun y hy=>?_) (fun y hy=>hL y (List.mem_cons_of_mem _ hy)) hdis.2 (fun y hy z hz=>?_)
  · rcases z6X hy with rfl|hy
    · exact hL y List.mem_cons_self
    · exact hd y hy
  · rcases z6X hy with rfl|hy
    · exact hdis.1 z hz
    · exact hac y hy z (List.mem_cons_of_mem _ hz)
theorem zgk {L:List Lab} {nm:ByteArray} (hd:z2e L) (h:((getL L nm).toList==(⟨#[]⟩:ByteArray).toList)=true):∀y∈L,y.1≠nm:=by
 induction L with
 |nil=>intro y hy;cases hy
 |cons x xs ih =>
  rw[getL]at h;split at h
  · exfalso
    have hv:=(hd x List.mem_cons_self).2;have:=toList_inj (eq_of_beq h);rw[this]at hv;have:=(z5h _ hv).1;exact absurd this (by decide)
  · rename_i hne;intro y hy;rcases List.mem_cons.1 hy with rfl|hy
    · intro he;rw[he]at hne;simp at hne
    · exact ih (fun z hz=>hd z (List.mem_cons_of_mem _ hz)) h y hy
theorem zbp (l:List Int):∀acc:List Lab,z2e acc→distinct acc→distinct (l.foldl z1r acc):=by
 induction l with
 |nil=>intro acc _ h;exact h
 |cons n l ih =>
  intro acc hd h;rw[List.foldl_cons];have hd2:z2e (z1r acc n):=z3O [n] acc hd;refine ih _ hd2 ?_;unfold z1r;split
  · rename_i hg;have:=zgk hd hg;unfold distinct;rw[List.pairwise_append];exact⟨h,by simp,fun a ha b hb=>by rw[List.mem_singleton.1 hb];exact this a ha⟩
  · exact h
theorem z7u (ns:List Int):setB (z2b ns)=true:=by
 have hd0:z2e ([]:List Lab):=fun x hx=>by cases hx
 have h1:z2e (labs0 ns):=z3O _ _ hd0;have h2:distinct (labs0 ns):=zbp _ _ hd0 List.Pairwise.nil
 have h3:(labs0 ns).length≤5:=by
  have:=z5i (ns.take 5) [];have h5:(ns.take 5).length≤5:=by rw[List.length_take];omega
  simp only[List.length_nil]at this;exact Nat.le_trans this (by omega)
 have hl:z2e (labs ns)∧distinct (labs ns)∧1≤(labs ns).length∧(labs ns).length≤5:=by
  unfold labs;split
  · refine⟨fun x hx=>?_,by unfold distinct;simp,by simp,by simp⟩
    rw[List.mem_singleton.1 hx];exact⟨by simp[names],by simp[values]⟩
  · exact⟨h1,h2,by omega,h3⟩
 obtain⟨hd,hdis,l1,l5⟩:=hl;have hr:rise (setL (labs ns)):=z6N _ _ List.Pairwise.nil hd0 hd hdis (fun x hx=>by cases hx)
 have hsd:z2e (setL (labs ns)):=fun x hx=>hd x (z9G _ x hx)
 have hsl:=z6W (labs ns);unfold z2b;generalize setL (labs ns)=S at hr hsd hsl⊢
 have key:∀i,0<i→i<S.length→leS (S.getD i noLb).1 (S.getD (i-1) noLb).1=false:=by
  intro i h0 hi;have e1:S.getD i noLb=S[i]:=by rw[List.getD_eq_getElem?_getD,List.getElem?_eq_getElem hi,Option.getD_some]
  have e2:S.getD (i-1) noLb=S[i-1]:=by rw[List.getD_eq_getElem?_getD,List.getElem?_eq_getElem (by omega),Option.getD_some]
  rw[e1,e2];have hlt:=(List.pairwise_iff_getElem.1 hr) (i-1) i (by omega) hi (by omega)
  have n1:=(hsd _ (List.getElem_mem hi)).1;have n2:=(hsd _ (List.getElem_mem (show i-1<S.length by omega))).1
  unfold leS;rw[Bool.or_eq_false_iff];constructor
  · cases h:Op.bytesLess (S[i]).1.toList (S[i-1]).1.toList with
    |false=>rfl
    |true =>
     have:=nm_tr _ n2 _ n1 _ n2 hlt h;rw[zfa _ n2]at this;cases this
  · cases h:((S[i]).1.toList==(S[i-1]).1.toList) with
    |false=>rfl
    |true =>
     have:=toList_inj (eq_of_beq h);rw[this,zfa _ n2]at hlt;cases hlt
 have hset:setB S=true:=by
  unfold setB;simp only[Bool.and_eq_true,decide_eq_true_eq,List.all_eq_true,List.mem_range];refine⟨by omega,by omega,fun i hi=>?_⟩
  have e1:S.getD i noLb=S[i]:=by rw[List.getD_eq_getElem?_getD,List.getElem?_eq_getElem hi,Option.getD_some]
  have hm:=hsd _ (List.getElem_mem hi);unfold labOk;rw[e1,nm_ok _ hm.1,zgj _ hm.2];by_cases h0:0<i
  · have:=key i h0 hi;rw[e1]at this;rw[this];simp
  · simp[h0]
 have hgo:z3i S=true:=by
  have gen:∀k i,i+k≤S.length→isGo S k i=true:=by
   intro k
   induction k with
   |zero=>intro i _;rfl
   |succ k ih =>
    intro i hi;rw[isGo]
    have hb:badAt S i=false:=by
     unfold badAt;by_cases h0:0<i
     · rw[decide_eq_true h0];exact key i h0 (by omega)
     · rw[decide_eq_false h0];rfl
    rw[hb];exact ih (i+1) (by omega)
  unfold z3i;have d1:decide (S.length<1)=false:=decide_eq_false (by omega)
  have d2:decide (6<S.length)=false:=decide_eq_false (by omega)
  rw[d1,d2];exact gen _ 0 (by omega)
 rw[if_pos hgo];exact hset
end Go.Proofs.YtmkmhhjkdaklbaaGreat
namespace Go.Proofs.YtmkmhhjkdaklbaaGreat
open Go Go.Ab
set_option maxRecDepth 100000
def c41:ACode :=
 (sq_ [pr_ 1 (.boxr (.tmp 0)),
 pr_ 2 (.allocm z19_)]
 (.seq (.draw [⟨pr_ 4 (fa_ 1 1),[],false,0,1⟩,
 ⟨pr_ 5 (lf_ 1 4),[0],false,0,1⟩,
 ⟨cl_ 6 99 [(.tmp 5),(.const (.int .i64 0)),(.const (.int .i64 6))],[0,1],false,0,1⟩,
 ⟨c1_ 7 98 6,[0,1,2],false,0,1⟩,
 ⟨pr_ 8 (fa_ 0 1),[],false,0,1⟩,
 ⟨pr_ 9 (lf_ 1 8),[4],false,0,1⟩,
 ⟨cl_ 10 99 [(.tmp 9),(.const (.int .i64 1)),(.const (.int .i64 17))],(List.range 6),false,0,1⟩,
 ⟨pr_ 11 (.build z19_ [(0,1,(.tmp 7)),(1,1,(.tmp 10))]),(List.range 7),false,0,1⟩,
 ⟨pr_ 3 (.allocm z19_),[],true,0,0⟩,
 ⟨st_ (so_ 19 3 11),(List.range 9),true,0,0⟩])
 (.seq (sq_ [pr_ 12 (fa_ 1 3),
 pr_ 13 (lf_ 1 12)]
 (.block 0 (.seq (sq_ [pr_ 15 (bk_ .eql 13 .i64 2),
 mv_ 14 15]
 (.cond (.tmp 14)
 .skip
 (sq_ [pr_ 16 (bk_ .eql 13 .i64 7),
 mv_ 14 16]
 (.cond (.tmp 14)
 .skip
 (sq_ [pr_ 17 (bk_ .eql 13 .i64 10),
 mv_ 14 17]
 (.cond (.tmp 14)
 .skip
 (sq_ [pr_ 18 (bk_ .eql 13 .i64 12),
 mv_ 14 18]
 (.cond (.tmp 14)
 .skip
 (.ops [pr_ 19 (bk_ .eql 13 .i64 15),
 mv_ 14 19])))))))))
 (.cond (.tmp 14)
 (.ops [pr_ 20 (fa_ 2 1),
 pr_ 21 (lf_ 1 20),
 cl_ 22 99 [(.tmp 21),(.const (.int .i64 0)),(.const (.int .i64 20))],
 pr_ 23 (fa_ 2 3),
 st_ (so_ 1 23 22)])
 (.seq (sq_ [pr_ 25 (bk_ .eql 13 .i64 3),
 mv_ 24 25]
 (.cond (.tmp 24)
 .skip
 (.ops [pr_ 26 (bk_ .eql 13 .i64 4),
 mv_ 24 26])))
 (.cond (.tmp 24)
 (.draw [⟨pr_ 27 (fa_ 2 1),[],false,0,0⟩,
 ⟨pr_ 28 (lf_ 1 27),[0],false,0,0⟩,
 ⟨cl_ 29 99 [(.tmp 28),(.const (.int .i64 0)),(.const (.int .i64 7))],[0,1],true,0,0⟩,
 ⟨pr_ 30 (fa_ 3 1),[],false,0,1⟩,
 ⟨pr_ 31 (lf_ 1 30),[3],false,0,1⟩,
 ⟨cl_ 32 100 [(.tmp 31),(.const (.int .i64 0)),(.const (.int .i64 6))],[0,1,2,3,4],true,0,0⟩,
 ⟨c1_ 33 98 32,(List.range 6),true,0,0⟩,
 ⟨pr_ 34 (fa_ 2 3),[0,1,2],false,1,3⟩,
 ⟨st_ (so_ 1 34 29),(List.range 8),true,0,0⟩,
 ⟨pr_ 35 (fa_ 3 3),(List.range 9),false,4,4⟩,
 ⟨st_ (so_ 1 35 33),(List.range 10),true,0,0⟩])
 (.seq (sq_ [pr_ 37 (bk_ .eql 13 .i64 5),
 mv_ 36 37]
 (.cond (.tmp 36)
 .skip
 (.ops [pr_ 38 (bk_ .eql 13 .i64 6),
 mv_ 36 38])))
 (.cond (.tmp 36)
 (.seq (sq_ [pr_ 39 (fa_ 1 3),
 pr_ 40 (lf_ 1 39),
 pr_ 41 (bk_ .eql 40 .i64 6)]
 (.cond (.tmp 41)
 (.ops [pr_ 42 (fa_ 2 1),
 pr_ 43 (lf_ 1 42),
 cl_ 44 99 [(.tmp 43),(.const (.int .i64 0)),(.const (.int .i64 13))],
 pr_ 45 (fa_ 2 3),
 st_ (so_ 1 45 44)])
 .skip))
 (.draw [⟨pr_ 46 (fa_ 4 1),[],false,0,2⟩,
 ⟨pr_ 47 (lf_ 1 46),[0],false,0,2⟩,
 ⟨pr_ 48 (bk_ .rem 47 .u64 60),[0,1],false,0,2⟩,
 ⟨pr_ 49 (fa_ 5 1),[],false,0,3⟩,
 ⟨pr_ 50 (lf_ 1 49),[3],false,0,3⟩,
 ⟨pr_ 51 (bk_ .rem 50 .u64 90),[3,4],false,0,3⟩,
 ⟨pr_ 52 (fa_ 6 1),[],false,0,0⟩,
 ⟨pr_ 53 (lf_ 1 52),[6],false,0,0⟩,
 ⟨cl_ 54 79 [(.tmp 53),(.const (.bool true))],[6,7],true,0,0⟩,
 ⟨pr_ 55 (fa_ 8 1),[],false,0,1⟩,
 ⟨pr_ 56 (lt_ 3 55),[9],false,0,1⟩,
 ⟨c1_ 57 80 56,[6,7,8,9,10],true,0,0⟩,
 ⟨pr_ 58 (fa_ 4 3),[0,1,2],false,0,2⟩,
 ⟨st_ (so_ 1 58 48),[0,1,2,6,7,8,9,10,11,12],true,0,0⟩,
 ⟨pr_ 59 (fa_ 5 3),(List.range 14),false,3,3⟩,
 ⟨st_ (so_ 1 59 51),(List.range 15),true,0,0⟩,
 ⟨pr_ 60 (fa_ 7 3),(List.range 16),false,4,4⟩,
 ⟨st_ (so_ 1 60 54),(List.range 17),true,0,0⟩,
 ⟨pr_ 61 (fa_ 8 3),(List.range 18),false,5,5⟩,
 ⟨st_ (so_ 3 61 57),(List.range 19),true,0,0⟩]))
 (sq_ [pr_ 63 (bk_ .eql 13 .i64 8),
 mv_ 62 63]
 (.cond (.tmp 62)
 (.ops [pr_ 64 (fa_ 3 1),
 pr_ 65 (lf_ 1 64),
 cl_ 66 99 [(.tmp 65),(.const (.int .i64 0)),(.const (.int .i64 3))],
 pr_ 67 (fa_ 6 3),
 st_ (so_ 1 67 66)])
 (sq_ [pr_ 69 (bk_ .eql 13 .i64 9),
 mv_ 68 69]
 (.cond (.tmp 68)
 (.ops [pr_ 70 (fa_ 11 1),
 pr_ 71 (lt_ 6 70),
 c1_ 72 22 71,
 pr_ 73 (fa_ 11 3),
 st_ (so_ 6 73 72)])
 (sq_ [pr_ 75 (bk_ .eql 13 .i64 11),
 mv_ 74 75]
 (.cond (.tmp 74)
 (.draw [⟨pr_ 76 (fa_ 7 1),[],false,0,0⟩,
 ⟨pr_ 77 (lf_ 1 76),[0],false,0,0⟩,
 ⟨c1_ 78 101 77,[0,1],true,0,0⟩,
 ⟨pr_ 79 (fa_ 17 1),[],false,0,2⟩,
 ⟨pr_ 80 (lf_ 1 79),[3],false,0,2⟩,
 ⟨pr_ 81 (fa_ 17 3),[0,1,2],false,1,1⟩,
 ⟨st_ (so_ 1 81 78),[0,1,2,5],true,0,0⟩,
 ⟨pr_ 82 (fa_ 18 3),(List.range 7),false,2,2⟩,
 ⟨st_ (so_ 1 82 80),(List.range 8),true,0,0⟩])
 (sq_ [pr_ 84 (bk_ .eql 13 .i64 13),
 mv_ 83 84]
 (.cond (.tmp 83)
 (.ops [pr_ 85 (fa_ 6 1),
 pr_ 86 (lf_ 1 85),
 cl_ 87 79 [(.tmp 86),(.const (.bool false))],
 pr_ 88 (fa_ 7 3),
 st_ (so_ 1 88 87)])
 .skip))))))))))))))))
 (sq_ [pr_ 89 (lt_ 19 3),
 st_ (so_ 19 2 89)]
 .ret))))
def o41:List Tmp:=[2,3]
def r41:List RV:=[.cell 2 19 true]
theorem t41:Text Tryz.prog 41 o41 c41 r41 90:=.mk_ Tryz.f41 rfl
def c98:ACode :=
 (sq_ [pr_ 2 (.mov (.const (.string (ByteArray.mk #[]))))]
 (sq_ [pr_ 3 (.build [.pl (.string .empty),.pl (.string .empty),.pl (.string .empty),.pl (.string .empty),.pl (.string .empty),.pl (.string .empty),.pl (.string .empty),.pl (.string .empty)] [(0,1,(.const (.string (ByteArray.mk #[114,111,111,116,48])))),(1,1,(.const (.string (ByteArray.mk #[116,111,107,49])))),(2,1,(.const (.string (ByteArray.mk #[116,111,107,50])))),(3,1,(.const (.string (ByteArray.mk #[116,111,107,51])))),(4,1,(.const (.string (ByteArray.mk #[0,1,2,3])))),(5,1,(.const (.string (ByteArray.mk #[48,49,50,51,52,53,54,55,56,57,97,98,99,100,101,102])))),(6,1,(.const (.string (ByteArray.mk #[116,111,107,54])))),(7,1,(.const (.string (ByteArray.mk #[116,111,107]))))]),
 mv_ 4 0,
 cl_ 5 99 [(.tmp 4),(.const (.int .i64 0)),(.const (.int .i64 7))],
 pr_ 6 (.idxa 1 8 false (.tmp 3) (.tmp 5)),
 mv_ 2 6]
 .ret))
def o98:List Tmp:=[]
def r98:List RV:=[.tmp 2]
theorem t98:Text Tryz.prog 98 o98 c98 r98 7:=.mk_ Tryz.f98 rfl
end Go.Proofs.YtmkmhhjkdaklbaaGreat
namespace Go.Proofs.YtmkmhhjkdaklbaaGreat
open Go Go.Ab Go.Cod
set_option maxRecDepth 100000
def toks:List ByteArray:=[⟨#[114,111,111,116,48]⟩,⟨#[116,111,107,49]⟩,⟨#[116,111,107,50]⟩,⟨#[116,111,107,51]⟩,⟨#[0,1,2,3]⟩,⟨#[48,49,50,51,52,53,54,55,56,57,97,98,99,100,101,102]⟩,⟨#[116,111,107,54]⟩,⟨#[116,111,107]⟩]
def tokOf (n:Int):ByteArray:=toks.getD (inD n 0 7).toNat ⟨#[]⟩
structure AcM where
 what:Int
 who:Int
 id:Int
 sta:Int
 st:Nat
 en:Nat
 ds:List (Int×Int×Int)
 ns:List Int
 sel:Int
 lo:Nat
 hi:Nat
 ru:RuD
 val:Nat
 raw:Byt
 hd:ds.length≤9223372036854775807
 hst:st<18446744073709551616
 hen:en<18446744073709551616
def acC (a:AcM):List AV:=[I a.what,I a.who,I a.id,I a.sta,UN a.st,UN a.en,.sl 3 (a.ds.map dv),.sl 1 (a.ns.map I),I a.sel,Fl a.lo,Fl a.hi,
 .sl 3 (a.ru.ds.map dv),.sl 3 (a.ru.es.map dv),I a.ru.sel,Fl a.ru.lo,Fl a.ru.hi,.sl 1 (a.ru.ns.map I),Fl a.val,.sl 1 (byv a.raw)]
def acV (a:AcM):AV:=.agg (acC a)
def opA (a:AcM):Int:=inD a.what 1 17
def baseR (a:AcM):ReM:={ x0 (opA a) with tok:=tokOf (inD a.who 0 6) }
def z4z (a:AcM):Bnd:=z0D a.sel a.lo a.hi
def silR (a:AcM) (r:ReM):ReM:={ r with st:=a.st%60,en:=a.en%90,mt:=mustL true (z0u a.ds []),any:=(z4z a).1,lo:=(z4z a).2.1,hi:=(z4z a).2.2 }
def z08 (a:AcM):ReM :=
 let op:=opA a
 if op=2∨op=7∨op=10∨op=12∨op=15 then { baseR a with id:=inD a.id 0 20 }
 else if op=3∨op=4 then { baseR a with id:=inD a.id 0 7,txt:=tokOf (emodW a.sta 0 6) }
 else if op=5 then silR a (baseR a)
 else if op=6 then silR a { baseR a with id:=inD a.id 0 13 }
 else if op=8 then { baseR a with sta:=inD a.sta 0 3 }
 else if op=9 then { baseR a with ru:=z2J a.ru }
 else if op=11 then { baseR a with ls:=z2b a.ns,val:=a.val }
 else if op=13 then { baseR a with mt:=mustL false (z0u a.ds []) }
 else baseR a
theorem z4j (n lo hi:Int) (h:lo≤hi):lo≤inD n lo hi∧inD n lo hi≤hi:=by
 unfold inD;split
 · assumption
 · unfold emodW;have h3:=Int.emod_nonneg n (show hi-lo+1≠0 by omega)
   have h4:=Int.emod_lt_of_pos n (show 0<hi-lo+1 by omega)
   omega
theorem z8t (a:AcM):1≤opA a∧opA a≤17:=z4j _ _ _ (by decide)
section
variable (σ:St)
theorem z0B (n:Int):Ans Tryz.prog 98 [I n] σ (Sx (tokOf n)) σ:=by
 have h:=z0f σ n 0 7 (by decide) (by decide) (by decide)
 have hr:=z4j n 0 7 (by decide)
 unfold tokOf;generalize inD n 0 7=m at h hr⊢;refine Ans.of_run t98 ?_;simp -implicitDefEqProofs only[c98,r98,go_sem];refine CO.intro h ?_;obtain⟨k,rfl⟩:=Int.eq_ofNat_of_zero_le hr.1;have:k<8:=by omega
 match k,this with
 |0,_|1,_|2,_|3,_|4,_|5,_|6,_|7,_ =>
  simp -implicitDefEqProofs only[go_sem];exact Fini.ret rfl
end
end Go.Proofs.YtmkmhhjkdaklbaaGreat
