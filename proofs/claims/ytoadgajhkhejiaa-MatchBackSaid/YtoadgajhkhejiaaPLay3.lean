/- What the functions do, over abstract values: printed by a program, checked by the kernel. No condition. -/
import Derived.Test.YtoadgajhkhejiaaProg
import Derived.Test.YtoadgajhkhejiaaAbFast
import Derived.Test.YtoadgajhkhejiaaMCode1
import Derived.Laws.Externs
import Derived.Test.YtoadgajhkhejiaaAbArg
import Derived.Test.YtoadgajhkhejiaaMCod
set_option linter.unusedSimpArgs false
set_option linter.unusedVariables false
namespace Go.Proofs.Ytoadgajhkhejiaa
open Go Go.Ab
set_option maxRecDepth 100000
def c146 : ACode :=
 (.seq (.ops [⟨some 2, none, .prim (.allocm [.pl (.int .u64 0), .pl (.int .u64 0), .pl (.int .u64 0), .pl (.int .u64 0)])⟩])
 (.seq (.ops [⟨some 3, none, .prim (.allocm [.pl (.int .u64 0), .pl (.int .u64 0), .pl (.int .u64 0), .pl (.int .u64 0)])⟩])
 (.seq (.ops [⟨some 9, none, .prim (.mov (.tmp 0))⟩,
 ⟨some 10, none, .call (.func 118) [(.tmp 9), (.const (.int .u8 94))]⟩,
 ⟨some 4, none, .prim (.mov (.tmp 10))⟩])
 (.seq (.seq (.ops [⟨some 5, none, .prim (.mov (.const (.bool true)))⟩])
 (.block 0 (.loop [1, 6, 7, 8, 9, 10, 11, 12, 13, 14, 15, 16, 17, 18, 19, 20, 21, 22, 23, 24, 25, 26, 27, 28, 29, 30, 31, 32, 33, 34, 35, 36, 37, 38, 39, 40, 41, 42, 43, 44, 45, 46, 47, 48, 49, 50, 51, 52, 53, 54, 55, 56, 57, 58, 59, 60, 61, 62, 63, 64, 65, 66, 67] (.seq (.seq (.ops [⟨some 11, none, .prim (.mov (.tmp 5))⟩,
 ⟨some 12, none, .prim (.mov (.tmp 11))⟩,
 ⟨some 13, (some (12, false)), .prim (.mov (.tmp 0))⟩,
 ⟨some 14, (some (12, false)), .call (.func 132) [(.tmp 13)]⟩,
 ⟨some 15, (some (12, false)), .prim (.un .not (.tmp 14))⟩,
 ⟨some 16, (some (12, false)), .prim (.mov (.tmp 15))⟩,
 ⟨some 17, (some (16, true)), .prim (.mov (.tmp 0))⟩,
 ⟨some 18, (some (16, true)), .call (.func 133) [(.tmp 17), (.const (.int .u8 93))]⟩,
 ⟨some 19, (some (16, true)), .prim (.un .not (.tmp 18))⟩,
 ⟨some 20, (some (12, false)), .prim (.pick (.tmp 16) (.tmp 19) (.const (.bool false)))⟩,
 ⟨some 21, none, .prim (.pick (.tmp 12) (.const (.bool true)) (.tmp 20))⟩])
 (.cond (.tmp 21)
 .skip
 (.exit 0)))
 (.seq (.block 1 (.seq (.ops [⟨some 22, none, .prim (.mov (.tmp 0))⟩,
 ⟨some 23, none, .call (.func 156) [(.tmp 22)]⟩,
 ⟨some 6, none, .prim (.mov (.tmp 23))⟩])
 (.seq (.ops [⟨some 24, none, .prim (.mov (.tmp 6))⟩,
 ⟨some 7, none, .prim (.mov (.tmp 24))⟩])
 (.seq (.seq (.ops [⟨some 25, none, .prim (.mov (.tmp 0))⟩,
 ⟨some 26, none, .call (.func 118) [(.tmp 25), (.const (.int .u8 45))]⟩])
 (.cond (.tmp 26)
 (.ops [⟨some 27, none, .prim (.mov (.tmp 0))⟩,
 ⟨some 28, none, .call (.func 156) [(.tmp 27)]⟩,
 ⟨some 7, none, .prim (.mov (.tmp 28))⟩])
 .skip))
 (.seq (.ops [⟨some 29, none, .prim (.mov (.tmp 0))⟩,
 ⟨some 30, none, .prim (.mov (.tmp 0))⟩,
 ⟨some 31, none, .prim (.nilc (.tmp 30))⟩,
 ⟨some 32, none, .prim (.fadr 2 (.tmp 31))⟩,
 ⟨some 33, none, .prim (.load 1 false (.tmp 32))⟩,
 ⟨some 34, none, .prim (.mov (.tmp 33))⟩,
 ⟨some 35, (some (34, false)), .prim (.mov (.tmp 7))⟩,
 ⟨some 36, (some (34, false)), .prim (.mov (.tmp 6))⟩,
 ⟨some 37, (some (34, false)), .prim (.bin false .lss (.tmp 35) (.tmp 36))⟩,
 ⟨some 38, none, .prim (.pick (.tmp 34) (.const (.bool true)) (.tmp 37))⟩,
 ⟨some 39, none, .prim (.nilc (.tmp 29))⟩,
 ⟨some 40, none, .prim (.fadr 2 (.tmp 39))⟩,
 ⟨none, none, .prim (.store 1 (.tmp 40) (.tmp 38))⟩])
 (.seq (.ops [⟨some 41, none, .prim (.mov (.tmp 6))⟩,
 ⟨some 42, none, .prim (.convi .i64 (.tmp 41))⟩,
 ⟨some 8, none, .prim (.mov (.tmp 42))⟩])
 (.block 2 (.loop [1, 5, 6, 9, 10, 11, 12, 13, 14, 15, 16, 17, 18, 19, 20, 21, 22, 23, 24, 25, 26, 27, 28, 29, 30, 31, 32, 33, 34, 35, 36, 37, 38, 39, 40, 41, 42, 43, 44, 45, 46, 47, 48, 49, 50, 51, 52, 53, 54, 55, 56, 57, 58, 59, 60, 61, 62, 63, 64, 65, 66, 67] (.seq (.seq (.ops [⟨some 43, none, .prim (.mov (.tmp 8))⟩,
 ⟨some 44, none, .prim (.mov (.tmp 7))⟩,
 ⟨some 45, none, .prim (.convi .i64 (.tmp 44))⟩,
 ⟨some 46, none, .prim (.bin false .leq (.tmp 43) (.tmp 45))⟩])
 (.cond (.tmp 46)
 .skip
 (.exit 2)))
 (.seq (.block 3 (.ops [⟨some 49, none, .prim (.mov (.tmp 8))⟩,
 ⟨some 50, none, .prim (.convi .u8 (.tmp 49))⟩,
 ⟨some 51, none, .call (.func 148) [(.tmp 3), (.tmp 50)]⟩]))
 (.ops [⟨some 47, none, .prim (.mov (.tmp 8))⟩,
 ⟨some 48, none, .prim (.bin false .add (.tmp 47) (.const (.int .i64 1)))⟩,
 ⟨some 8, none, .prim (.mov (.tmp 48))⟩])))))))))))
 (.ops [⟨some 5, none, .prim (.mov (.const (.bool false)))⟩]))))))
 (.seq (.ops [⟨some 52, none, .prim (.mov (.tmp 0))⟩,
 ⟨some 53, none, .prim (.mov (.tmp 0))⟩,
 ⟨some 54, none, .call (.func 118) [(.tmp 53), (.const (.int .u8 93))]⟩,
 ⟨some 55, none, .prim (.un .not (.tmp 54))⟩,
 ⟨some 56, none, .prim (.mov (.tmp 55))⟩,
 ⟨some 57, (some (56, false)), .prim (.mov (.tmp 0))⟩,
 ⟨some 58, (some (56, false)), .prim (.nilc (.tmp 57))⟩,
 ⟨some 59, (some (56, false)), .prim (.fadr 2 (.tmp 58))⟩,
 ⟨some 60, (some (56, false)), .prim (.load 1 false (.tmp 59))⟩,
 ⟨some 61, none, .prim (.pick (.tmp 56) (.const (.bool true)) (.tmp 60))⟩,
 ⟨some 62, none, .prim (.nilc (.tmp 52))⟩,
 ⟨some 63, none, .prim (.fadr 2 (.tmp 62))⟩,
 ⟨none, none, .prim (.store 1 (.tmp 63) (.tmp 61))⟩])
 (.seq (.seq (.ops [⟨some 64, none, .prim (.mov (.tmp 4))⟩])
 (.cond (.tmp 64)
 (.seq (.ops [⟨some 65, none, .prim (.load 4 true (.tmp 3))⟩,
 ⟨some 66, none, .call (.func 147) [(.tmp 65)]⟩,
 ⟨none, none, .prim (.store 4 (.tmp 2) (.tmp 66))⟩])
 .ret)
 .skip))
 (.seq (.ops [⟨some 67, none, .prim (.load 4 true (.tmp 3))⟩,
 ⟨none, none, .prim (.store 4 (.tmp 2) (.tmp 67))⟩])
 .ret)))))))
def o146 : List Tmp := [2, 3]
def r146 : List RV := [.cell 2 4 true]
theorem t146 : Text Try.prog 146 o146 c146 r146 68 := ⟨⟨Try.f146, _, by kernel_rfl, by kernel_rfl, rfl, by kernel_rfl, by kernel_rfl, rfl⟩, by kernel_rfl⟩
def c147 : ACode :=
 (.seq (.ops [⟨some 1, none, .prim (.boxm (.tmp 0))⟩,
 ⟨some 2, none, .prim (.allocm [.pl (.int .u64 0), .pl (.int .u64 0), .pl (.int .u64 0), .pl (.int .u64 0)])⟩])
 (.seq (.seq (.ops [⟨some 4, none, .prim (.mov (.const (.int .i64 0)))⟩])
 (.block 0 (.loop [0, 3, 5, 6, 7, 8, 9, 10, 11, 12, 13, 14] (.seq (.ops [⟨some 5, none, .prim (.bin false .lss (.tmp 4) (.const (.int .i64 4)))⟩])
 (.seq (.cond (.tmp 5)
 .skip
 (.exit 0))
 (.seq (.block 1 (.seq (.ops [⟨some 6, none, .prim (.mov (.tmp 4))⟩,
 ⟨some 3, none, .prim (.mov (.tmp 6))⟩])
 (.ops [⟨some 7, none, .prim (.mov (.tmp 3))⟩,
 ⟨some 8, none, .prim (.mov (.tmp 3))⟩,
 ⟨some 9, none, .prim (.iadra 1 4 (.tmp 1) (.tmp 8))⟩,
 ⟨some 10, none, .prim (.load 1 false (.tmp 9))⟩,
 ⟨some 11, none, .prim (.un .xor (.tmp 10))⟩,
 ⟨some 12, none, .prim (.iadra 1 4 (.tmp 1) (.tmp 7))⟩,
 ⟨none, none, .prim (.store 1 (.tmp 12) (.tmp 11))⟩])))
 (.ops [⟨some 13, none, .prim (.bin false .add (.tmp 4) (.const (.int .i64 1)))⟩,
 ⟨some 4, none, .prim (.mov (.tmp 13))⟩])))))))
 (.seq (.ops [⟨some 14, none, .prim (.load 4 true (.tmp 1))⟩,
 ⟨none, none, .prim (.store 4 (.tmp 2) (.tmp 14))⟩])
 .ret)))
def o147 : List Tmp := [1, 2]
def r147 : List RV := [.cell 2 4 true]
theorem t147 : Text Try.prog 147 o147 c147 r147 15 := ⟨⟨Try.f147, _, by kernel_rfl, by kernel_rfl, rfl, by kernel_rfl, by kernel_rfl, rfl⟩, by kernel_rfl⟩
def c148 : ACode :=
 (.draw [⟨⟨some 4, none, .prim (.mov (.tmp 0))⟩, [], false, 0, 0⟩,
 ⟨⟨some 5, none, .prim (.mov (.tmp 1))⟩, [], false, 0, 0⟩,
 ⟨⟨some 6, none, .prim (.bin false .quo (.tmp 5) (.const (.int .u8 64)))⟩, [1], false, 0, 0⟩,
 ⟨⟨some 7, none, .prim (.nilc (.tmp 4))⟩, [0], false, 0, 0⟩,
 ⟨⟨some 8, none, .prim (.iadra 1 4 (.tmp 7) (.tmp 6))⟩, [0, 1, 2, 3], false, 0, 0⟩,
 ⟨⟨some 9, none, .prim (.load 1 false (.tmp 8))⟩, [0, 1, 2, 3, 4], false, 0, 0⟩,
 ⟨⟨some 10, none, .prim (.mov (.tmp 1))⟩, [], false, 0, 0⟩,
 ⟨⟨some 11, none, .prim (.bin false .rem (.tmp 10) (.const (.int .u8 64)))⟩, [6], false, 0, 0⟩,
 ⟨⟨some 12, none, .prim (.bin false .shl (.const (.int .u64 1)) (.tmp 11))⟩, [6, 7], false, 0, 0⟩,
 ⟨⟨some 13, none, .prim (.bin false .or (.tmp 9) (.tmp 12))⟩, [0, 1, 2, 3, 4, 5, 6, 7, 8], false, 0, 0⟩,
 ⟨⟨some 14, none, .prim (.nilc (.tmp 4))⟩, [0], false, 0, 0⟩,
 ⟨⟨some 15, none, .prim (.iadra 1 4 (.tmp 14) (.tmp 6))⟩, [0, 1, 2, 3, 4, 5, 6, 7, 8, 9, 10], false, 0, 0⟩,
 ⟨⟨none, none, .prim (.store 1 (.tmp 15) (.tmp 13))⟩, [0, 1, 2, 3, 4, 5, 6, 7, 8, 9, 10, 11], true, 0, 0⟩])
def o148 : List Tmp := []
def r148 : List RV := []
theorem t148 : Text Try.prog 148 o148 c148 r148 16 := ⟨⟨Try.f148, _, by kernel_rfl, by kernel_rfl, rfl, by kernel_rfl, by kernel_rfl, rfl⟩, by kernel_rfl⟩
def c149 : ACode :=
 (.seq (.ops [⟨some 2, none, .prim (.mov (.const (.int .u8 0)))⟩])
 (.seq (.ops [⟨some 4, none, .prim (.mov (.tmp 0))⟩,
 ⟨some 5, none, .call (.func 145) [(.tmp 4)]⟩,
 ⟨some 3, none, .prim (.mov (.tmp 5))⟩])
 (.seq (.ops [⟨some 6, none, .prim (.mov (.tmp 0))⟩,
 ⟨some 7, none, .prim (.mov (.tmp 0))⟩,
 ⟨some 8, none, .prim (.nilc (.tmp 7))⟩,
 ⟨some 9, none, .prim (.fadr 2 (.tmp 8))⟩,
 ⟨some 10, none, .prim (.load 1 false (.tmp 9))⟩,
 ⟨some 11, none, .prim (.mov (.tmp 10))⟩,
 ⟨some 12, (some (11, false)), .prim (.mov (.tmp 3))⟩,
 ⟨some 13, (some (11, false)), .call (.func 150) [(.const (.string (ByteArray.mk #[124, 42, 43, 63, 40, 41, 91, 93, 46, 92, 94, 45]))), (.tmp 12)]⟩,
 ⟨some 14, (some (11, false)), .prim (.bin false .lss (.tmp 13) (.const (.int .i64 0)))⟩,
 ⟨some 15, none, .prim (.pick (.tmp 11) (.const (.bool true)) (.tmp 14))⟩,
 ⟨some 16, none, .prim (.nilc (.tmp 6))⟩,
 ⟨some 17, none, .prim (.fadr 2 (.tmp 16))⟩,
 ⟨none, none, .prim (.store 1 (.tmp 17) (.tmp 15))⟩])
 (.seq (.ops [⟨some 18, none, .prim (.mov (.tmp 3))⟩,
 ⟨some 2, none, .prim (.mov (.tmp 18))⟩])
 .ret))))
def o149 : List Tmp := []
def r149 : List RV := [.tmp 2]
theorem t149 : Text Try.prog 149 o149 c149 r149 19 := ⟨⟨Try.f149, _, by kernel_rfl, by kernel_rfl, rfl, by kernel_rfl, by kernel_rfl, rfl⟩, by kernel_rfl⟩
def c150 : ACode :=
 (.seq (.ops [⟨some 4, none, .prim (.mov (.const (.int .i64 0)))⟩])
 (.seq (.ops [⟨some 5, none, .prim (.mov (.tmp 0))⟩,
 ⟨some 6, none, .prim (.mov (.tmp 1))⟩,
 ⟨some 7, none, .call (.func 157) [(.tmp 5), (.tmp 6)]⟩,
 ⟨some 4, none, .prim (.mov (.tmp 7))⟩])
 .ret))
def o150 : List Tmp := []
def r150 : List RV := [.tmp 4]
theorem t150 : Text Try.prog 150 o150 c150 r150 8 := ⟨⟨Try.f150, _, by kernel_rfl, by kernel_rfl, rfl, by kernel_rfl, by kernel_rfl, rfl⟩, by kernel_rfl⟩
def c156 : ACode :=
 (.seq (.ops [⟨some 2, none, .prim (.mov (.const (.int .u8 0)))⟩])
 (.seq (.ops [⟨some 4, none, .prim (.mov (.tmp 0))⟩,
 ⟨some 5, none, .call (.func 145) [(.tmp 4)]⟩,
 ⟨some 3, none, .prim (.mov (.tmp 5))⟩])
 (.seq (.seq (.ops [⟨some 6, none, .prim (.mov (.tmp 3))⟩,
 ⟨some 7, none, .prim (.bin false .eql (.tmp 6) (.const (.int .u8 92)))⟩])
 (.cond (.tmp 7)
 (.seq (.ops [⟨some 8, none, .prim (.mov (.tmp 0))⟩,
 ⟨some 9, none, .call (.func 149) [(.tmp 8)]⟩,
 ⟨some 2, none, .prim (.mov (.tmp 9))⟩])
 .ret)
 .skip))
 (.seq (.ops [⟨some 10, none, .prim (.mov (.tmp 0))⟩,
 ⟨some 11, none, .prim (.mov (.tmp 0))⟩,
 ⟨some 12, none, .prim (.nilc (.tmp 11))⟩,
 ⟨some 13, none, .prim (.fadr 2 (.tmp 12))⟩,
 ⟨some 14, none, .prim (.load 1 false (.tmp 13))⟩,
 ⟨some 15, none, .prim (.mov (.tmp 14))⟩,
 ⟨some 16, (some (15, false)), .prim (.mov (.tmp 3))⟩,
 ⟨some 17, (some (15, false)), .call (.func 150) [(.const (.string (ByteArray.mk #[92, 93, 91, 94, 45]))), (.tmp 16)]⟩,
 ⟨some 18, (some (15, false)), .prim (.bin false .geq (.tmp 17) (.const (.int .i64 0)))⟩,
 ⟨some 19, none, .prim (.pick (.tmp 15) (.const (.bool true)) (.tmp 18))⟩,
 ⟨some 20, none, .prim (.nilc (.tmp 10))⟩,
 ⟨some 21, none, .prim (.fadr 2 (.tmp 20))⟩,
 ⟨none, none, .prim (.store 1 (.tmp 21) (.tmp 19))⟩])
 (.seq (.ops [⟨some 22, none, .prim (.mov (.tmp 3))⟩,
 ⟨some 2, none, .prim (.mov (.tmp 22))⟩])
 .ret)))))
def o156 : List Tmp := []
def r156 : List RV := [.tmp 2]
theorem t156 : Text Try.prog 156 o156 c156 r156 23 := ⟨⟨Try.f156, _, by kernel_rfl, by kernel_rfl, rfl, by kernel_rfl, by kernel_rfl, rfl⟩, by kernel_rfl⟩
def c157 : ACode :=
 (.seq (.ops [⟨some 4, none, .prim (.mov (.const (.int .i64 0)))⟩])
 (.seq (.ops [⟨some 5, none, .prim (.mov (.tmp 0))⟩,
 ⟨some 6, none, .prim (.mov (.tmp 1))⟩,
 ⟨some 7, none, .call (.func 159) [(.tmp 5), (.tmp 6)]⟩,
 ⟨some 4, none, .prim (.mov (.tmp 7))⟩])
 .ret))
def o157 : List Tmp := []
def r157 : List RV := [.tmp 4]
theorem t157 : Text Try.prog 157 o157 c157 r157 8 := ⟨⟨Try.f157, _, by kernel_rfl, by kernel_rfl, rfl, by kernel_rfl, by kernel_rfl, rfl⟩, by kernel_rfl⟩
end Go.Proofs.Ytoadgajhkhejiaa
namespace Go.Proofs.Ytoadgajhkhejiaa
open Go Go.Ab
theorem ext1_ok (f : FuncId) (fn : Func) (hf : Try.prog.funcs[f]? = some fn) (hname : (fn.name == "runtime.NumGoroutine") = false) (hb : fn.body.isNone = true) (hn : Extern.findNext fn = none)
    (e : Array Value → Sem Value) (he : Extern.find fn = some e) (g : Value → Option Value) (hg : ∀ v r w, g v = some r → (e #[v]).run Try.prog w = .ok r w)
    (args : List AV) (σ : St) (r : AV) (σ' : St) (h : (match args with | [.pl v] => (g v).map fun r => (AV.pl r, σ) | _ => none) = some (r, σ')) : Ans Try.prog f args σ r σ' := by
  split at h
  · rename_i v
    obtain ⟨q, hq, h⟩ := opt_map_some h
    simp only [Prod.mk.injEq] at h
    obtain ⟨rfl, rfl⟩ := h
    intro M ν w vs gd hvs
    refine .inr ⟨q, w, ?_, M, ν, gd, .refl, .pl _⟩
    obtain ⟨hl, hr⟩ := hvs
    match vs, hl with
    | [a], _ =>
      have h0 := hr 0 (by simp) (by simp)
      simp only [List.getElem_cons_zero] at h0
      cases h0
      rw [run_callFunc_extern hf hname hb hn he]
      rw [show ([v].toArray) = #[v] from rfl, hg v q w hq]
      rfl
  · simp at h
def bitsG : Value → Option Value
  | .float .f64 b => some (.int .u64 b)
  | _ => none
theorem bitsG_ok (v r : Value) (w : World) (h : bitsG v = some r) : (Extern.MathFloatBits.float64bits #[v]).run Try.prog w = .ok r w := by
  unfold bitsG at h
  split at h <;> simp at h
  subst h; rfl
def ext_bits : Ext Try.prog := ⟨126, fun args σ => match args with | [.pl v] => (bitsG v).map fun r => (AV.pl r, σ) | _ => none,
  ext1_ok 126 Try.f126 (by kernel_rfl) (by kernel_rfl) (by kernel_rfl) (by kernel_rfl) Extern.MathFloatBits.float64bits (by kernel_rfl) bitsG bitsG_ok⟩
theorem cmp_ok (args : List AV) (σ : St) (r : AV) (σ' : St) (h : (match args with
  | [.pl (.string a), .pl (.string b)] => some (AV.pl (.int .i64 (Extern.BytealgCompare.cmp a b)), σ)
  | _ => none) = some (r, σ')) : Ans Try.prog 139 args σ r σ' := by
  split at h
  · rename_i s c
    simp only [Option.some.injEq, Prod.mk.injEq] at h
    obtain ⟨rfl, rfl⟩ := h
    intro M ν w vs g hvs
    refine .inr ⟨_, w, ?_, M, ν, g, .refl, .pl _⟩
    obtain ⟨hl, hr⟩ := hvs
    match vs, hl with
    | [a, b], _ =>
      have h0 := hr 0 (by simp) (by simp)
      have h1 := hr 1 (by simp) (by simp)
      simp only [List.getElem_cons_zero, List.getElem_cons_succ] at h0 h1
      cases h0; cases h1
      rw [run_callFunc_extern (e := Extern.BytealgCompare.compare) (P := Try.prog) (f := 139) (fn := Try.f139) (by kernel_rfl) (by kernel_rfl) (by kernel_rfl) (by kernel_rfl) (by kernel_rfl)]
      rfl
  · simp at h
def ext_cmp : Ext Try.prog := ⟨139, fun args σ => match args with
  | [.pl (.string a), .pl (.string b)] => some (.pl (.int .i64 (Extern.BytealgCompare.cmp a b)), σ)
  | _ => none, cmp_ok⟩
theorem idx_ok (args : List AV) (σ : St) (r : AV) (σ' : St) (h : (match args with
  | [.pl (.string s), .pl (.int .u8 c)] => some (AV.pl (.int .i64 (firstIdx s c.toNat.toUInt8)), σ)
  | _ => none) = some (r, σ')) : Ans Try.prog 159 args σ r σ' := by
  split at h
  · rename_i s c
    simp only [Option.some.injEq, Prod.mk.injEq] at h
    obtain ⟨rfl, rfl⟩ := h
    intro M ν w vs g hvs
    refine .inr ⟨_, w, ?_, M, ν, g, .refl, .pl _⟩
    obtain ⟨hl, hr⟩ := hvs
    match vs, hl with
    | [a, b], _ =>
      have h0 := hr 0 (by simp) (by simp)
      have h1 := hr 1 (by simp) (by simp)
      simp only [List.getElem_cons_zero, List.getElem_cons_succ] at h0 h1
      cases h0; cases h1
      rw [run_callFunc_extern (e := Extern.BytealgIndexByte.indexByte) (P := Try.prog) (f := 159) (fn := Try.f159) (by kernel_rfl) (by kernel_rfl) (by kernel_rfl) (by kernel_rfl) (by kernel_rfl)]
      have := run_indexByte_string (P := Try.prog) s c w
      rw [this]
      rfl
  · simp at h
def ext_idx : Ext Try.prog := ⟨159, fun args σ => match args with
  | [.pl (.string s), .pl (.int .u8 c)] => some (.pl (.int .i64 (firstIdx s c.toNat.toUInt8)), σ)
  | _ => none, idx_ok⟩
def extF : List (Ext Try.prog) := [ext_bits, ext_cmp, ext_idx]
def allF : List (Fun Try.prog) := [⟨14, o14, c14, r14, 35, t14⟩, ⟨15, o15, c15, r15, 44, t15⟩, ⟨16, o16, c16, r16, 32, t16⟩, ⟨48, o48, c48, r48, 16, t48⟩, ⟨49, o49, c49, r49, 18, t49⟩, ⟨50, o50, c50, r50, 44, t50⟩, ⟨51, o51, c51, r51, 41, t51⟩, ⟨52, o52, c52, r52, 11, t52⟩, ⟨53, o53, c53, r53, 29, t53⟩, ⟨88, o88, c88, r88, 19, t88⟩, ⟨89, o89, c89, r89, 8, t89⟩, ⟨90, o90, c90, r90, 18, t90⟩, ⟨91, o91, c91, r91, 30, t91⟩, ⟨92, o92, c92, r92, 6, t92⟩, ⟨93, o93, c93, r93, 48, t93⟩, ⟨94, o94, c94, r94, 21, t94⟩, ⟨95, o95, c95, r95, 26, t95⟩, ⟨111, o111, c111, r111, 9, t111⟩, ⟨112, o112, c112, r112, 99, t112⟩, ⟨113, o113, c113, r113, 9, t113⟩, ⟨114, o114, c114, r114, 9, t114⟩, ⟨115, o115, c115, r115, 70, t115⟩, ⟨116, o116, c116, r116, 50, t116⟩, ⟨117, o117, c117, r117, 33, t117⟩, ⟨118, o118, c118, r118, 16, t118⟩, ⟨127, o127, c127, r127, 35, t127⟩, ⟨128, o128, c128, r128, 41, t128⟩, ⟨129, o129, c129, r129, 69, t129⟩, ⟨130, o130, c130, r130, 19, t130⟩, ⟨131, o131, c131, r131, 11, t131⟩, ⟨132, o132, c132, r132, 19, t132⟩, ⟨133, o133, c133, r133, 21, t133⟩, ⟨134, o134, c134, r134, 28, t134⟩, ⟨140, o140, c140, r140, 9, t140⟩, ⟨141, o141, c141, r141, 6, t141⟩, ⟨142, o142, c142, r142, 78, t142⟩, ⟨144, o144, c144, r144, 19, t144⟩, ⟨145, o145, c145, r145, 25, t145⟩, ⟨146, o146, c146, r146, 68, t146⟩, ⟨147, o147, c147, r147, 15, t147⟩, ⟨148, o148, c148, r148, 16, t148⟩, ⟨149, o149, c149, r149, 19, t149⟩, ⟨150, o150, c150, r150, 8, t150⟩, ⟨156, o156, c156, r156, 23, t156⟩, ⟨157, o157, c157, r157, 8, t157⟩]
end Go.Proofs.Ytoadgajhkhejiaa
namespace Go.Proofs.Ytoadgajhkhejiaa
open Go Go.Ab
/- 177 steps -/
/- 177 steps -/
/- 221 steps -/
/- 133 steps -/
/- 265 steps -/
/- 150 steps -/
/- 150 steps -/
/- 194 steps -/
/- 106 steps -/
/- 238 steps -/
/- 1032 steps -/
/- 128 steps -/
/- 4011 steps -/
/- 1286 steps -/
/- 493 steps -/
/- 1444 steps -/
/- 936 steps -/
/- 843 steps -/
/- 4269 steps -/
/- 85 steps -/
/- 6858 steps -/
theorem mr_ok : Ans Try.prog 14 [] [] (.pl (.bool true)) [] := evFT_ok allF extF [] 300 100 _ _ _ _ _ (by kernel_rfl)
end Go.Proofs.Ytoadgajhkhejiaa
namespace Go.Proofs.Ytoadgajhkhejiaa
open Go Go.Ab
set_option maxRecDepth 100000
abbrev I (n : Int) : AV := .pl (.int .i64 n)
abbrev Bo (b : Bool) : AV := .pl (.bool b)
abbrev Sx (s : ByteArray) : AV := .pl (.string s)
theorem wrapN {n : Int} (h : -9223372036854775808 ≤ n) (h' : n < 9223372036854775808) : IntKind.i64.wrap n = n := by
  simp only [IntKind.wrap, IntKind.bits, IntKind.signed]; simp; omega
theorem bel_all {args : List AV} (h : belL 0 args = true) : ∀ a ∈ args, Bel 0 a := fun a ha => by
  obtain ⟨i, hi, rfl⟩ := List.getElem_of_mem ha
  exact Bel.of_mem (belL_ok 0 args h) i hi
theorem Fini.ret2 {n m : Nat} {rvs : List RV} {r r' : AV} {σ σ' : St} {env : Env} (h : resA env σ rvs = some r') (e : r' = r) (e' : σ = σ') : Fini m rvs r σ' .ret env σ := by
  subst e; subst e'; exact Fini.ret h
theorem Fini.trim2 {m : Nat} {rvs : List RV} {r : AV} {σ σ' ex : St} {env : Env} (h : resA env σ rvs = some r) (he : σ = σ' ++ ex) (hl : m ≤ σ'.length) (hb : Bel σ'.length r) (ho : ∀ o ∈ σ', BelO σ'.length o) : Fini m rvs r σ' .ret env σ := by
  subst he
  exact ⟨r, σ' ++ ex, h, rfl, rfl, .inr ⟨hl, by simp, hb, ho⟩⟩
def names : List ByteArray := [⟨#[115, 101, 118]⟩, ⟨#[106, 111, 98]⟩, ⟨#[104, 111, 115, 116]⟩, ⟨#[95, 120]⟩, ⟨#[90, 111, 110, 101, 57]⟩]
def values : List ByteArray := [⟨#[97]⟩, ⟨#[98]⟩, ⟨#[99, 114, 105, 116]⟩, ⟨#[119, 97, 114, 110]⟩, ⟨#[97, 98]⟩, ⟨#[0, 255]⟩, ⟨#[97, 98, 97, 98, 97, 98, 97, 98, 97, 98, 97, 98, 97, 98, 97, 98, 97, 98, 97, 98, 97, 98, 97, 98]⟩]
def pats : List ByteArray := [⟨#[97, 124, 98]⟩, ⟨#[]⟩, ⟨#[40, 99, 114, 105, 116, 124, 119, 97, 114, 110, 41]⟩, ⟨#[91, 97, 45, 99, 93, 43, 46, 42]⟩, ⟨#[46, 43]⟩, ⟨#[40, 97, 98, 41, 42]⟩, ⟨#[97, 63, 98, 63]⟩, ⟨#[91, 94, 97, 93, 42]⟩, ⟨#[97, 42, 97, 42, 97, 42, 97, 42, 97, 42, 97, 42, 97, 42, 97, 42, 97, 42, 97, 42, 97, 42, 97, 42, 97, 42, 97, 42]⟩]
def emodW (n lo hi : Int) : Int := lo + n % (hi - lo + 1)
def inD (n lo hi : Int) : Int := if lo ≤ n ∧ n ≤ hi then n else emodW n lo hi
theorem emodW_in (n lo hi : Int) (h : lo ≤ hi) : lo ≤ emodW n lo hi ∧ emodW n lo hi ≤ hi := by
  unfold emodW
  have h1 := Int.emod_nonneg n (show hi - lo + 1 ≠ 0 by omega)
  have h2 := Int.emod_lt_of_pos n (show 0 < hi - lo + 1 by omega)
  omega
theorem inD_in (n lo hi : Int) (h : lo ≤ hi) : lo ≤ inD n lo hi ∧ inD n lo hi ≤ hi := by
  unfold inD
  split
  · assumption
  · exact emodW_in n lo hi h
def nameOf (n : Int) : ByteArray := names.getD (inD n 0 4).toNat ⟨#[]⟩
def valueOf (n : Int) : ByteArray := values.getD (inD n 0 6).toNat ⟨#[]⟩
def patOf (n : Int) : ByteArray := pats.getD (inD n 0 8).toNat ⟨#[]⟩
theorem getD_mem {l : List ByteArray} {k : Nat} (h : k < l.length) (d : ByteArray) : l.getD k d ∈ l := by
  rw [List.getD_eq_getElem?_getD, List.getElem?_eq_getElem h]; exact List.getElem_mem h
theorem nameOf_mem (n : Int) : nameOf n ∈ names := by
  have h := inD_in n 0 4 (by omega)
  unfold nameOf
  have : (inD n 0 4).toNat < 5 := by omega
  exact getD_mem this _
theorem valueOf_mem (n : Int) : valueOf n ∈ values := by
  have h := inD_in n 0 6 (by omega)
  unfold valueOf
  have : (inD n 0 6).toNat < 7 := by omega
  exact getD_mem this _
theorem patOf_mem (n : Int) : patOf n ∈ pats := by
  have h := inD_in n 0 8 (by omega)
  unfold patOf
  have : (inD n 0 8).toNat < 9 := by omega
  exact getD_mem this _
section
variable (σ : St)
theorem within_ans (n lo hi : Int) (h0 : 0 ≤ lo) (h1 : lo ≤ hi) (h2 : hi ≤ 100) : Ans Try.prog 60 [I n, I lo, I hi] σ (I (emodW n lo hi)) σ := by
  have e1 : IntKind.i64.wrap (hi - lo) = hi - lo := wrapN (by omega) (by omega)
  have e2 : IntKind.i64.wrap (hi - lo + 1) = hi - lo + 1 := wrapN (by omega) (by omega)
  have e3 : ((hi - lo + 1) = 0) = False := by simp; omega
  have h3 := Int.emod_nonneg n (show hi - lo + 1 ≠ 0 by omega)
  have h4 := Int.emod_lt_of_pos n (show 0 < hi - lo + 1 by omega)
  have h5 := Int.tmod_eq_emod (a := n) (b := hi - lo + 1)
  unfold emodW
  generalize hm : n % (hi - lo + 1) = m at h3 h4 h5
  have h6 : n.tmod (hi - lo + 1) = m ∨ n.tmod (hi - lo + 1) = m - (hi - lo + 1) := by
    rw [h5]
    split
    · left; omega
    · right; omega
  refine Ans.of_run t60 ?_
  simp -implicitDefEqProofs only [c60, r60, go_sem, List.reduceReplicate, Nat.reduceAdd, Nat.reduceSub, Nat.reduceLT, Nat.reduceLeDiff, Nat.reduceMul, Nat.reduceEqDiff, reduceCtorEq, Int.reduceLE, Int.reduceLT, Int.reduceEq, Int.reduceNe, Int.reduceBEq, Int.reduceBNe, Int.reduceAdd, Int.reduceSub, e1, e2, e3]
  generalize n.tmod (hi - lo + 1) = r at h6
  rcases h6 with rfl | rfl
  · have d1 : decide (r < 0) = false := by simp; omega
    have e4 : IntKind.i64.wrap (lo + r) = lo + r := wrapN (by omega) (by omega)
    simp -implicitDefEqProofs only [go_sem, List.reduceReplicate, Nat.reduceAdd, Nat.reduceSub, Nat.reduceLT, Nat.reduceLeDiff, Nat.reduceMul, Nat.reduceEqDiff, reduceCtorEq, Int.reduceLE, Int.reduceLT, Int.reduceEq, Int.reduceNe, Int.reduceBEq, Int.reduceBNe, Int.reduceAdd, Int.reduceSub, d1, e4]
    exact Fini.ret rfl
  · have d1 : decide (m - (hi - lo + 1) < 0) = true := by simp; omega
    have e4 : IntKind.i64.wrap (m - (hi - lo + 1) + hi) = m - (hi - lo + 1) + hi := wrapN (by omega) (by omega)
    have e5 : IntKind.i64.wrap (m - (hi - lo + 1) + hi - lo) = m - (hi - lo + 1) + hi - lo := wrapN (by omega) (by omega)
    have e6 : IntKind.i64.wrap (m - (hi - lo + 1) + hi - lo + 1) = m := by rw [wrapN (by omega) (by omega)]; omega
    have e7 : IntKind.i64.wrap (lo + m) = lo + m := wrapN (by omega) (by omega)
    simp -implicitDefEqProofs only [go_sem, List.reduceReplicate, Nat.reduceAdd, Nat.reduceSub, Nat.reduceLT, Nat.reduceLeDiff, Nat.reduceMul, Nat.reduceEqDiff, reduceCtorEq, Int.reduceLE, Int.reduceLT, Int.reduceEq, Int.reduceNe, Int.reduceBEq, Int.reduceBNe, Int.reduceAdd, Int.reduceSub, d1, e4, e5, e6, e7]
    exact Fini.ret rfl
theorem in_ans' (n lo hi : Int) (h0 : 0 ≤ lo) (h1 : lo ≤ hi) (h2 : hi ≤ 100) : Ans Try.prog 63 [I n, I lo, I hi] σ (I (inD n lo hi)) σ := by
  have hw := within_ans σ n lo hi h0 h1 h2
  unfold inD
  refine Ans.of_run t63 ?_
  simp -implicitDefEqProofs only [c63, r63, go_sem, List.reduceReplicate, Nat.reduceAdd, Nat.reduceSub, Nat.reduceLT, Nat.reduceLeDiff, Nat.reduceMul, Nat.reduceEqDiff, reduceCtorEq, Int.reduceLE, Int.reduceLT, Int.reduceEq, Int.reduceNe, Int.reduceBEq, Int.reduceBNe, Int.reduceAdd, Int.reduceSub]
  by_cases d1 : lo ≤ n
  · by_cases d2 : n ≤ hi
    · have d1' : decide (lo ≤ n) = true := by simpa using d1
      have d2' : decide (n ≤ hi) = true := by simpa using d2
      simp -implicitDefEqProofs only [go_sem, List.reduceReplicate, Nat.reduceAdd, Nat.reduceSub, Nat.reduceLT, Nat.reduceLeDiff, Nat.reduceMul, Nat.reduceEqDiff, reduceCtorEq, Int.reduceLE, Int.reduceLT, Int.reduceEq, Int.reduceNe, Int.reduceBEq, Int.reduceBNe, Int.reduceAdd, Int.reduceSub, d1', d2']
      rw [if_pos ⟨d1, d2⟩]
      exact Fini.ret rfl
    · have d1' : decide (lo ≤ n) = true := by simpa using d1
      have d2' : decide (n ≤ hi) = false := by simpa using d2
      simp -implicitDefEqProofs only [go_sem, List.reduceReplicate, Nat.reduceAdd, Nat.reduceSub, Nat.reduceLT, Nat.reduceLeDiff, Nat.reduceMul, Nat.reduceEqDiff, reduceCtorEq, Int.reduceLE, Int.reduceLT, Int.reduceEq, Int.reduceNe, Int.reduceBEq, Int.reduceBNe, Int.reduceAdd, Int.reduceSub, d1', d2']
      refine CO.intro hw ?_
      simp -implicitDefEqProofs only [go_sem, List.reduceReplicate, Nat.reduceAdd, Nat.reduceSub, Nat.reduceLT, Nat.reduceLeDiff, Nat.reduceMul, Nat.reduceEqDiff, reduceCtorEq, Int.reduceLE, Int.reduceLT, Int.reduceEq, Int.reduceNe, Int.reduceBEq, Int.reduceBNe, Int.reduceAdd, Int.reduceSub]
      rw [if_neg (fun h => d2 h.2)]
      exact Fini.ret rfl
  · have d1' : decide (lo ≤ n) = false := by simpa using d1
    simp -implicitDefEqProofs only [go_sem, List.reduceReplicate, Nat.reduceAdd, Nat.reduceSub, Nat.reduceLT, Nat.reduceLeDiff, Nat.reduceMul, Nat.reduceEqDiff, reduceCtorEq, Int.reduceLE, Int.reduceLT, Int.reduceEq, Int.reduceNe, Int.reduceBEq, Int.reduceBNe, Int.reduceAdd, Int.reduceSub, d1']
    refine CO.intro hw ?_
    simp -implicitDefEqProofs only [go_sem, List.reduceReplicate, Nat.reduceAdd, Nat.reduceSub, Nat.reduceLT, Nat.reduceLeDiff, Nat.reduceMul, Nat.reduceEqDiff, reduceCtorEq, Int.reduceLE, Int.reduceLT, Int.reduceEq, Int.reduceNe, Int.reduceBEq, Int.reduceBNe, Int.reduceAdd, Int.reduceSub]
    rw [if_neg (fun h => d1 h.1)]
    exact Fini.ret rfl
theorem name_ans (n : Int) : Ans Try.prog 59 [I n] σ (Sx (nameOf n)) σ := by
  have h := inD_in n 0 4 (by omega)
  have hi := in_ans' σ n 0 4 (by omega) (by omega) (by omega)
  unfold nameOf
  generalize inD n 0 4 = r at h hi ⊢
  refine Ans.of_run t59 ?_
  simp -implicitDefEqProofs only [c59, r59, go_sem, List.reduceReplicate, Nat.reduceAdd, Nat.reduceSub, Nat.reduceLT, Nat.reduceLeDiff, Nat.reduceMul, Nat.reduceEqDiff, reduceCtorEq, Int.reduceLE, Int.reduceLT, Int.reduceEq, Int.reduceNe, Int.reduceBEq, Int.reduceBNe, Int.reduceAdd, Int.reduceSub]
  refine CO.intro hi ?_
  have h5 : r = 0 ∨ r = 1 ∨ r = 2 ∨ r = 3 ∨ r = 4 := by omega
  rcases h5 with rfl | rfl | rfl | rfl | rfl
  all_goals (
    simp -implicitDefEqProofs only [go_sem, List.reduceReplicate, Nat.reduceAdd, Nat.reduceSub, Nat.reduceLT, Nat.reduceLeDiff, Nat.reduceMul, Nat.reduceEqDiff, reduceCtorEq, Int.reduceLE, Int.reduceLT, Int.reduceEq, Int.reduceNe, Int.reduceBEq, Int.reduceBNe, Int.reduceAdd, Int.reduceSub]
    exact Fini.ret rfl)
theorem value_ans (n : Int) : Ans Try.prog 61 [I n] σ (Sx (valueOf n)) σ := by
  have h := inD_in n 0 6 (by omega)
  have hi := in_ans' σ n 0 6 (by omega) (by omega) (by omega)
  unfold valueOf
  generalize inD n 0 6 = r at h hi ⊢
  refine Ans.of_run t61 ?_
  simp -implicitDefEqProofs only [c61, r61, go_sem, List.reduceReplicate, Nat.reduceAdd, Nat.reduceSub, Nat.reduceLT, Nat.reduceLeDiff, Nat.reduceMul, Nat.reduceEqDiff, reduceCtorEq, Int.reduceLE, Int.reduceLT, Int.reduceEq, Int.reduceNe, Int.reduceBEq, Int.reduceBNe, Int.reduceAdd, Int.reduceSub]
  refine CO.intro hi ?_
  have h5 : r = 0 ∨ r = 1 ∨ r = 2 ∨ r = 3 ∨ r = 4 ∨ r = 5 ∨ r = 6 := by omega
  rcases h5 with rfl | rfl | rfl | rfl | rfl | rfl | rfl
  all_goals (
    simp -implicitDefEqProofs only [go_sem, List.reduceReplicate, Nat.reduceAdd, Nat.reduceSub, Nat.reduceLT, Nat.reduceLeDiff, Nat.reduceMul, Nat.reduceEqDiff, reduceCtorEq, Int.reduceLE, Int.reduceLT, Int.reduceEq, Int.reduceNe, Int.reduceBEq, Int.reduceBNe, Int.reduceAdd, Int.reduceSub]
    exact Fini.ret rfl)
theorem pattern_ans (n : Int) : Ans Try.prog 64 [I n] σ (Sx (patOf n)) σ := by
  have h := inD_in n 0 8 (by omega)
  have hi := in_ans' σ n 0 8 (by omega) (by omega) (by omega)
  unfold patOf
  generalize inD n 0 8 = r at h hi ⊢
  refine Ans.of_run t64 ?_
  simp -implicitDefEqProofs only [c64, r64, go_sem, List.reduceReplicate, Nat.reduceAdd, Nat.reduceSub, Nat.reduceLT, Nat.reduceLeDiff, Nat.reduceMul, Nat.reduceEqDiff, reduceCtorEq, Int.reduceLE, Int.reduceLT, Int.reduceEq, Int.reduceNe, Int.reduceBEq, Int.reduceBNe, Int.reduceAdd, Int.reduceSub]
  refine CO.intro hi ?_
  have h5 : r = 0 ∨ r = 1 ∨ r = 2 ∨ r = 3 ∨ r = 4 ∨ r = 5 ∨ r = 6 ∨ r = 7 ∨ r = 8 := by omega
  rcases h5 with rfl | rfl | rfl | rfl | rfl | rfl | rfl | rfl | rfl
  all_goals (
    simp -implicitDefEqProofs only [go_sem, List.reduceReplicate, Nat.reduceAdd, Nat.reduceSub, Nat.reduceLT, Nat.reduceLeDiff, Nat.reduceMul, Nat.reduceEqDiff, reduceCtorEq, Int.reduceLE, Int.reduceLT, Int.reduceEq, Int.reduceNe, Int.reduceBEq, Int.reduceBNe, Int.reduceAdd, Int.reduceSub]
    exact Fini.ret rfl)
abbrev mat (k : Int) (n v : ByteArray) : AV := .agg [I k, Sx n, Sx v]
def matVal (k v : Int) : ByteArray := if inD k 1 4 < 3 then (if v < 0 then ⟨#[]⟩ else valueOf v) else patOf v
theorem bel_mat (m : Nat) (k : Int) (n v : ByteArray) : Bel m (mat k n v) := by
  refine .agg _ fun i hi => ?_
  have : ∀ y ∈ [I k, Sx n, Sx v], Bel m y := by
    intro y hy
    simp only [List.mem_cons, List.not_mem_nil, or_false] at hy
    rcases hy with rfl | rfl | rfl <;> exact .pl _
  exact this _ (List.getElem_mem hi)
theorem matcher_ans (k n v : Int) : Ans Try.prog 22 [.agg [I k, I n, I v]] σ (mat (inD k 1 4) (nameOf n) (matVal k v)) σ := by
  have k0 : ∀ (x y : Ob), (σ ++ [x, y])[σ.length]? = some x := fun x y => by rw [List.getElem?_append_right (by simp)]; simp
  have k0' : ∀ (x : Ob), (σ ++ [x])[σ.length]? = some x := fun x => by rw [List.getElem?_append_right (by simp)]; simp
  have k1 : ∀ (x y : Ob), (σ ++ [x, y])[σ.length + 1]? = some y := fun x y => by rw [List.getElem?_append_right (by simp)]; simp
  have s0 : ∀ (x y z : Ob), (σ ++ [x, y]).set σ.length z = σ ++ [z, y] := fun x y z => by rw [List.set_append_right _ _ (by simp)]; simp
  have s1 : ∀ (x y z : Ob), (σ ++ [x, y]).set (σ.length + 1) z = σ ++ [x, z] := fun x y z => by rw [List.set_append_right _ _ (by simp)]; simp
  have hb := bel_mat σ.length (inD k 1 4) (nameOf n) (matVal k v)
  refine Ans.of_run' t22 (fun hbel _ => ?_)
  simp -implicitDefEqProofs only [c22, r22, go_sem, List.reduceReplicate, Nat.reduceAdd, Nat.reduceSub, Nat.reduceLT, Nat.reduceLeDiff, Nat.reduceMul, Nat.reduceEqDiff, reduceCtorEq, Int.reduceLE, Int.reduceLT, Int.reduceEq, Int.reduceNe, Int.reduceBEq, Int.reduceBNe, Int.reduceAdd, Int.reduceSub, D_callS, List.append_assoc, List.length_append]
  refine CS.intro (fun s => in_ans' s k 1 4 (by omega) (by omega) (by omega)) ?_
  simp -implicitDefEqProofs only [go_sem, List.reduceReplicate, Nat.reduceAdd, Nat.reduceSub, Nat.reduceLT, Nat.reduceLeDiff, Nat.reduceMul, Nat.reduceEqDiff, reduceCtorEq, Int.reduceLE, Int.reduceLT, Int.reduceEq, Int.reduceNe, Int.reduceBEq, Int.reduceBNe, Int.reduceAdd, Int.reduceSub, D_callS, List.append_assoc, List.length_append]
  refine CS.intro (fun s => name_ans s n) ?_
  simp -implicitDefEqProofs only [go_sem, List.reduceReplicate, Nat.reduceAdd, Nat.reduceSub, Nat.reduceLT, Nat.reduceLeDiff, Nat.reduceMul, Nat.reduceEqDiff, reduceCtorEq, Int.reduceLE, Int.reduceLT, Int.reduceEq, Int.reduceNe, Int.reduceBEq, Int.reduceBNe, Int.reduceAdd, Int.reduceSub, D_callS, List.append_assoc, List.length_append]
  refine CS.intro (fun s => pattern_ans s v) ?_
  simp -implicitDefEqProofs only [go_sem, List.reduceReplicate, Nat.reduceAdd, Nat.reduceSub, Nat.reduceLT, Nat.reduceLeDiff, Nat.reduceMul, Nat.reduceEqDiff, reduceCtorEq, Int.reduceLE, Int.reduceLT, Int.reduceEq, Int.reduceNe, Int.reduceBEq, Int.reduceBNe, Int.reduceAdd, Int.reduceSub, D_callS, List.append_assoc, List.length_append, k0, k1, s0, s1]
  unfold matVal at hb ⊢
  by_cases h3 : inD k 1 4 < 3
  · have h3' : decide (inD k 1 4 < 3) = true := by simpa using h3
    rw [if_pos h3] at hb ⊢
    simp -implicitDefEqProofs only [go_sem, List.reduceReplicate, Nat.reduceAdd, Nat.reduceSub, Nat.reduceLT, Nat.reduceLeDiff, Nat.reduceMul, Nat.reduceEqDiff, reduceCtorEq, Int.reduceLE, Int.reduceLT, Int.reduceEq, Int.reduceNe, Int.reduceBEq, Int.reduceBNe, Int.reduceAdd, Int.reduceSub, h3']
    refine CO.intro (value_ans _ v) ?_
    by_cases h0 : v < 0
    · have h0' : decide (v < 0) = true := by simpa using h0
      rw [if_pos h0] at hb ⊢
      simp -implicitDefEqProofs only [go_sem, List.reduceReplicate, Nat.reduceAdd, Nat.reduceSub, Nat.reduceLT, Nat.reduceLeDiff, Nat.reduceMul, Nat.reduceEqDiff, reduceCtorEq, Int.reduceLE, Int.reduceLT, Int.reduceEq, Int.reduceNe, Int.reduceBEq, Int.reduceBNe, Int.reduceAdd, Int.reduceSub, h0', k0, k1, s0, s1]
      exact Fini.trim2 (σ' := σ) (ex := [_, _]) (by simp -implicitDefEqProofs only [go_sem, List.reduceReplicate, Nat.reduceAdd, Nat.reduceSub, Nat.reduceLT, Nat.reduceLeDiff, Nat.reduceMul, Nat.reduceEqDiff, reduceCtorEq, Int.reduceLE, Int.reduceLT, Int.reduceEq, Int.reduceNe, Int.reduceBEq, Int.reduceBNe, Int.reduceAdd, Int.reduceSub, resA, allSome, rvA, oneOf, k0]) rfl (Nat.le_refl _) hb hbel
    · have h0' : decide (v < 0) = false := by simpa using h0
      rw [if_neg h0] at hb ⊢
      simp -implicitDefEqProofs only [go_sem, List.reduceReplicate, Nat.reduceAdd, Nat.reduceSub, Nat.reduceLT, Nat.reduceLeDiff, Nat.reduceMul, Nat.reduceEqDiff, reduceCtorEq, Int.reduceLE, Int.reduceLT, Int.reduceEq, Int.reduceNe, Int.reduceBEq, Int.reduceBNe, Int.reduceAdd, Int.reduceSub, h0', k0, k1, s0, s1]
      exact Fini.trim2 (σ' := σ) (ex := [_, _]) (by simp -implicitDefEqProofs only [go_sem, List.reduceReplicate, Nat.reduceAdd, Nat.reduceSub, Nat.reduceLT, Nat.reduceLeDiff, Nat.reduceMul, Nat.reduceEqDiff, reduceCtorEq, Int.reduceLE, Int.reduceLT, Int.reduceEq, Int.reduceNe, Int.reduceBEq, Int.reduceBNe, Int.reduceAdd, Int.reduceSub, resA, allSome, rvA, oneOf, k0]) rfl (Nat.le_refl _) hb hbel
  · have h3' : decide (inD k 1 4 < 3) = false := by simpa using h3
    rw [if_neg h3] at hb ⊢
    simp -implicitDefEqProofs only [go_sem, List.reduceReplicate, Nat.reduceAdd, Nat.reduceSub, Nat.reduceLT, Nat.reduceLeDiff, Nat.reduceMul, Nat.reduceEqDiff, reduceCtorEq, Int.reduceLE, Int.reduceLT, Int.reduceEq, Int.reduceNe, Int.reduceBEq, Int.reduceBNe, Int.reduceAdd, Int.reduceSub, h3', k0, k1, s0, s1]
    exact Fini.trim2 (σ' := σ) (ex := [_, _]) (by simp -implicitDefEqProofs only [go_sem, List.reduceReplicate, Nat.reduceAdd, Nat.reduceSub, Nat.reduceLT, Nat.reduceLeDiff, Nat.reduceMul, Nat.reduceEqDiff, reduceCtorEq, Int.reduceLE, Int.reduceLT, Int.reduceEq, Int.reduceNe, Int.reduceBEq, Int.reduceBNe, Int.reduceAdd, Int.reduceSub, resA, allSome, rvA, oneOf, k0]) rfl (Nat.le_refl _) hb hbel
end
end Go.Proofs.Ytoadgajhkhejiaa
namespace Go.Proofs.Ytoadgajhkhejiaa
open Go Go.Ab
set_option maxRecDepth 100000
abbrev Lab := ByteArray × ByteArray
section
variable (σ : St)
theorem nat_lt {i n : Nat} (h : i < n) : ((i : Int) < (n : Nat)) = True := by simp; omega
theorem nat_nlt {i n : Nat} (h : ¬ i < n) : ((i : Int) < (n : Nat)) = False := by simp; omega
theorem dec_lt {i n : Nat} (h : i < n) : decide ((i : Int) < (n : Nat)) = true := by simp; omega
theorem dec_nlt {i n : Nat} (h : ¬ i < n) : decide ((i : Int) < (n : Nat)) = false := by simp; omega
theorem wrap_succ {i : Nat} (h : i ≤ 100000) : IntKind.i64.wrap ((i : Int) + 1) = ((i + 1 : Nat) : Int) := by rw [wrapN (by omega) (by omega)]; rfl
end
end Go.Proofs.Ytoadgajhkhejiaa
namespace Go.Proofs.Ytoadgajhkhejiaa
open Go Go.Ab
set_option maxRecDepth 100000
abbrev noL : Lab := (⟨#[]⟩, ⟨#[]⟩)
def pos (out : List Lab) (x : Lab) : Nat → Nat
  | 0 => 0
  | n + 1 => if Op.bytesLess x.1.toList (out.getD n noL).1.toList then pos out x n else n + 1
theorem B_pl (n : Nat) (v : Value) : Bel n (.pl v) = True := eq_true (.pl v)
theorem B_any (n : Nat) : Bel n .any = True := eq_true .any
theorem B_nils (n : Nat) : Bel n .nils = True := eq_true .nils
theorem B_tup (n : Nat) : Bel n (.tup []) = True := eq_true (.tup _ fun i hi => absurd hi (Nat.not_lt_zero _))
theorem B_sl0 (n k : Nat) : Bel n (.sl k []) = True := eq_true (.sl k [] fun i hi => absurd hi (Nat.not_lt_zero _))
theorem B_osl (n l k : Nat) : Bel n (.osl l k) = (l < n) := by
  apply propext
  constructor
  · intro h; cases h; assumption
  · intro h; exact .osl l k h
theorem B_ptr (n l k : Nat) : Bel n (.ptr l k) = (l < n) := by
  apply propext
  constructor
  · intro h; cases h; assumption
  · intro h; exact .ptr l k h
section
variable (σ : St)
theorem g0 (x : Ob) (ex : St) : (σ ++ x :: ex)[σ.length]? = some x := by rw [List.getElem?_append_right (by simp)]; simp
theorem s0 (x y : Ob) (ex : St) : (σ ++ x :: ex).set σ.length y = σ ++ y :: ex := by rw [List.set_append_right _ _ (by simp)]; simp
end
end Go.Proofs.Ytoadgajhkhejiaa
namespace Go.Proofs.Ytoadgajhkhejiaa
open Go Go.Ab
set_option maxRecDepth 100000
section
variable (σ : St)
theorem g1 (x y : Ob) (ex : St) : (σ ++ x :: y :: ex)[σ.length + 1]? = some y := by rw [List.getElem?_append_right (by simp)]; simp
theorem s1 (x y z : Ob) (ex : St) : (σ ++ x :: y :: ex).set (σ.length + 1) z = σ ++ x :: z :: ex := by rw [List.set_append_right _ _ (by simp)]; simp
end
end Go.Proofs.Ytoadgajhkhejiaa
namespace Go.Proofs.Ytoadgajhkhejiaa
open Go Go.Ab Go.Cod
set_option maxRecDepth 100000
abbrev UN (n : Nat) : AV := .pl (.int .u64 n)
def bc (c : UInt8) : AV := .pl (.int .u8 c.toNat)
def byv (b : Byt) : List AV := b.map bc
theorem byv_len (b : Byt) : (byv b).length = b.length := List.length_map ..
theorem byv_nil : byv [] = [] := rfl
theorem byv_cons (c : UInt8) (b : Byt) : byv (c :: b) = bc c :: byv b := rfl
theorem byv_append (a b : Byt) : byv (a ++ b) = byv a ++ byv b := List.map_append ..
theorem byv_take (b : Byt) (k : Nat) : (byv b).take k = byv (b.take k) := by simp [byv]
theorem byv_drop (b : Byt) (k : Nat) : (byv b).drop k = byv (b.drop k) := by simp [byv]
theorem byv_empty (b : Byt) : (byv b).isEmpty = b.isEmpty := by simp [byv]
theorem byv_all' (b : Byt) (f : AV → Bool) (h : ∀ c : UInt8, f (bc c) = true) : (byv b).all f = true := by
  simp only [byv, List.all_map, List.all_eq_true]
  intro c _
  exact h c
theorem byv_get (b : Byt) (i : Nat) (h : i < b.length) : (byv b)[i]? = some (bc b[i]) := by simp [byv, h]
theorem bel_bc (n : Nat) (c : UInt8) : Bel n (bc c) := .pl _
theorem bel_byv (n : Nat) (b : Byt) : Bel n (.sl 1 (byv b)) := .sl 1 _ fun i hi => by
  have : (byv b)[i] = bc (b[i]'(by rw [← byv_len]; exact hi)) := by simp [byv]
  rw [this]; exact bel_bc n _
theorem strA_byv (s : ByteArray) : (s.data.toList.map fun b => (AV.pl (.int .u8 b.toNat))) = byv s.data.toList := rfl
theorem byteL_byv : ∀ b : Byt, byteL (byv b) = some (b.map fun c => (c.toNat : Int))
  | [] => rfl
  | c :: b => by simp only [byv_cons, bc, byteL, byteL_byv b, Option.map_some, List.map_cons]
theorem textOf_byv (b : Byt) : textOf (b.map fun c => (c.toNat : Int)) = ⟨b.toArray⟩ := by
  unfold textOf
  congr 2
  rw [List.map_map]
  conv => rhs; rw [← List.map_id b]
  apply List.map_congr_left
  intro c _
  simp
theorem wrapUN {n : Nat} (h : n < 18446744073709551616) : IntKind.u64.wrap (n : Int) = (n : Int) := by
  simp only [IntKind.wrap, IntKind.bits, IntKind.signed]; simp; omega
theorem wrap8N {n : Nat} : IntKind.u8.wrap (n : Int) = ((n % 256 : Nat) : Int) := by
  simp only [IntKind.wrap, IntKind.bits, IntKind.signed]; simp
theorem or128 : ∀ m : Fin 256, IntKind.u8.wrap ((BitVec.ofInt 8 (m.val : Int) ||| BitVec.ofInt 8 128).toNat : Int) = ((m.val % 128 + 128 : Nat) : Int) := by decide +kernel
theorem bc_of {n : Nat} (h : n < 256) : AV.pl (.int .u8 n) = bc n.toUInt8 := by
  rw [bc, toNat_toUInt8 h]
theorem row1 (σ : St) (x : Ob) : (σ ++ [x])[σ.length]? = some x := by simp
theorem shr7 (n : Nat) : ((n : Int).fdiv (2 ^ min (7 : Int).toNat 64)) = ((n / 128 : Nat) : Int) := by
  have : (min (7 : Int).toNat 64) = 7 := rfl
  rw [this]
  rw [Int.fdiv_eq_ediv_of_nonneg _ (by decide)]
  rfl
theorem putN_len : ∀ (k n : Nat), n < 128 ^ (k + 1) → (putN n).length ≤ k + 1
  | 0, n, h => by rw [putN_lt (by simpa using h)]; simp
  | k + 1, n, h => by
    by_cases h1 : n < 128
    · rw [putN_lt h1]; simp
    · rw [putN_ge h1, List.length_cons]
      have := putN_len k (n / 128) (Nat.div_lt_of_lt_mul (by rw [Nat.pow_succ, Nat.mul_comm] at h; exact h))
      omega
theorem putN_len10 {n : Nat} (h : n < 18446744073709551616) : (putN n).length ≤ 10 := putN_len 9 n (Nat.lt_of_lt_of_le h (by decide))
theorem u8_or' (n : Nat) : IntKind.u8.wrap ((BitVec.ofInt 8 (((n % 256 : Nat) : Int)) ||| BitVec.ofInt 8 128).toNat : Int) = ((n % 128 + 128 : Nat) : Int) := by
  have := or128 ⟨n % 256, Nat.mod_lt _ (by decide)⟩
  simp only [show (n % 256) % 128 = n % 128 by omega] at this
  exact this
theorem u8_or (n : Nat) : IntKind.u8.wrap ((BitVec.ofInt IntKind.u8.bits (((n % 256 : Nat) : Int)) ||| BitVec.ofInt IntKind.u8.bits 128).toNat : Int) = ((n % 128 + 128 : Nat) : Int) := u8_or' n
theorem intle (a b : Nat) : decide ((a : Int) ≤ (b : Int)) = decide (a ≤ b) := by rw [Bool.eq_iff_iff]; simp
theorem Fini.ret3 {n m : Nat} {rvs : List RV} {r r' : AV} {σ σ' : St} {env : Env} (h : resA env σ rvs = some r') (e : r' = r) (e' : σ = σ') : Fini m rvs r σ' .ret env σ := by
  subst e; subst e'; exact Fini.ret h
section
variable (σ : St)
theorem put_ans (n : Nat) (hn : n < 18446744073709551616) : Ans Try.prog 84 [UN n] σ (.osl σ.length (putN n).length) (σ ++ [.row 1 (byv (putN n))]) := by
  have h10 := putN_len10 hn
  refine Ans.of_run t84 ?_
  simp -implicitDefEqProofs only [c84, r84, go_sem, List.reduceReplicate, Nat.reduceAdd, Nat.reduceSub, Nat.reduceLT, Nat.reduceLeDiff, Nat.reduceMul, Nat.reduceEqDiff, reduceCtorEq, Int.reduceLE, Int.reduceLT, Int.reduceEq, Int.reduceNe, Int.reduceBEq, Int.reduceBNe, Int.reduceAdd, Int.reduceSub]
  refine Go.Ab.L.intro (α := { p : Nat × Byt // p.1 < 18446744073709551616 ∧ p.2 ++ putN p.1 = putN n }) (fun p => p.1.1) (fun p => mkE 19 [(0, UN p.1.1), (3, .osl σ.length p.1.2.length)]) (fun p => σ ++ [.row 1 (byv p.1.2)]) ?_ ⟨(n, []), hn, rfl⟩ rfl rfl
  rintro ⟨⟨m, pre⟩, hm, hp⟩ J hJ
  have hl : pre.length + (putN m).length ≤ 10 := by rw [← List.length_append, hp]; exact h10
  have hx : ∀ c : Int, (byv pre ++ [AV.pl (.int .u8 c)]).length = pre.length + 1 := fun c => by simp [byv_len]
  have d0 := intle 128 m
  simp only [Int.cast_ofNat_Int] at d0
  have hw := wrapUN hm
  have hle : pre.length + 1 ≤ 2 ^ 32 := by omega
  by_cases h : m < 128
  · have d1 : decide ((128 : Int) ≤ m) = false := by simp; omega
    have d2 : IntKind.u8.wrap (m : Int) = m := by rw [wrap8N]; congr 1; omega
    simp -implicitDefEqProofs only [mkE, List.foldl_cons, List.foldl_nil, go_sem, List.reduceReplicate, Nat.reduceAdd, Nat.reduceSub, Nat.reduceLT, Nat.reduceLeDiff, Nat.reduceMul, Nat.reduceEqDiff, reduceCtorEq, Int.reduceLE, Int.reduceLT, Int.reduceEq, Int.reduceNe, Int.reduceBEq, Int.reduceBNe, Int.reduceAdd, Int.reduceSub, d1, row1, byv_len, List.length_singleton, hle, d2]
    refine Fini.ret3 (n := 0) rfl ?_ ?_
    · show AV.osl σ.length (pre.length + 1) = AV.osl σ.length (putN n).length
      rw [← hp, putN_lt h]; simp
    · rw [List.set_append_right _ _ (Nat.le_refl _)]
      simp only [Nat.sub_self, List.set_cons_zero]
      rw [← hp, byv_append, putN_lt h, bc_of (show m < 256 by omega)]
      rfl
  · have d1 : decide ((128 : Int) ≤ m) = true := by simp; omega
    simp -implicitDefEqProofs only [mkE, List.foldl_cons, List.foldl_nil, go_sem, List.reduceReplicate, Nat.reduceAdd, Nat.reduceSub, Nat.reduceLT, Nat.reduceLeDiff, Nat.reduceMul, Nat.reduceEqDiff, reduceCtorEq, Int.reduceLE, Int.reduceLT, Int.reduceEq, Int.reduceNe, Int.reduceBEq, Int.reduceBNe, Int.reduceAdd, Int.reduceSub, d1, row1, byv_len, List.length_singleton, hle, wrap8N (n := m), u8_or, u8_or', shr7, wrapUN (show m / 128 < 18446744073709551616 by omega)]
    rw [List.set_append_right _ _ (Nat.le_refl _)]
    simp only [Nat.sub_self, List.set_cons_zero]
    have hgo := hJ ⟨(m / 128, pre ++ [(m % 128 + 128).toUInt8]), by simp only; omega, by
      rw [← hp]; simp only [List.append_assoc, List.singleton_append]; rw [putN_ge h]⟩ (by simp only; omega)
    simp only [byv_append, List.length_append, List.length_singleton] at hgo
    have key : ∀ v : Int, v = ((m % 128 + 128 : Nat) : Int) → J (mkE 19 [(0, UN (m / 128)), (3, .osl σ.length (pre.length + 1))]) (σ ++ [Ob.row 1 (byv pre ++ [AV.pl (.int .u8 v)])]) := by
      rintro _ rfl
      rw [bc_of (show m % 128 + 128 < 256 by omega)]
      exact hgo
    exact key _ (u8_or' m)
theorem puttext_ans (s : ByteArray) (hs : s.size ≤ 4294967280) : Ans Try.prog 85 [Sx s] σ (.sl 1 (byv (txtB s))) σ := by
  have h10 := putN_len10 (n := s.size) (by omega)
  have hsz := size_list s
  have hw := wrapUN (n := s.size) (by omega)
  have hle : (putN s.size).length + s.size ≤ 2 ^ 32 := by omega
  refine Ans.of_run' t85 (fun hbel _ => ?_)
  simp -implicitDefEqProofs only [c85, r85, go_sem, List.reduceReplicate, Nat.reduceAdd, Nat.reduceSub, Nat.reduceLT, Nat.reduceLeDiff, Nat.reduceMul, Nat.reduceEqDiff, reduceCtorEq, Int.reduceLE, Int.reduceLT, Int.reduceEq, Int.reduceNe, Int.reduceBEq, Int.reduceBNe, Int.reduceAdd, Int.reduceSub, hw]
  refine CO.intro (put_ans σ s.size (by omega)) ?_
  simp -implicitDefEqProofs only [go_sem, List.reduceReplicate, Nat.reduceAdd, Nat.reduceSub, Nat.reduceLT, Nat.reduceLeDiff, Nat.reduceMul, Nat.reduceEqDiff, reduceCtorEq, Int.reduceLE, Int.reduceLT, Int.reduceEq, Int.reduceNe, Int.reduceBEq, Int.reduceBNe, Int.reduceAdd, Int.reduceSub, strA_byv, row1, byv_len, hsz, hle]
  simp -implicitDefEqProofs only [go_sem, List.reduceReplicate, Nat.reduceAdd, Nat.reduceSub, Nat.reduceLT, Nat.reduceLeDiff, Nat.reduceMul, Nat.reduceEqDiff, reduceCtorEq, Int.reduceLE, Int.reduceLT, Int.reduceEq, Int.reduceNe, Int.reduceBEq, Int.reduceBNe, Int.reduceAdd, Int.reduceSub, g0, s0, byv_len, hsz, ← byv_append, List.length_append]
  exact Fini.trim2 (σ' := σ) (by show _ = some (AV.sl 1 (byv (txtB s))); rfl) rfl (Nat.le_refl _) (bel_byv _ _) hbel
end
end Go.Proofs.Ytoadgajhkhejiaa
namespace Go.Proofs.Ytoadgajhkhejiaa
open Go Go.Ab Go.Cod
set_option maxRecDepth 100000
def getV (b : Byt) : AV := match getN 0 b with
  | some p => .tup [UN p.1, I (b.length - p.2.length : Nat), Bo true]
  | none => .tup [UN 0, I 0, Bo false]
theorem getV_none {b : Byt} (h : getN 0 b = none) : getV b = .tup [UN 0, I 0, Bo false] := by unfold getV; rw [h]
theorem getV_some {b : Byt} {n : Nat} {t : Byt} (h : getN 0 b = some (n, t)) : getV b = .tup [UN n, I (b.length - t.length : Nat), Bo true] := by unfold getV; rw [h]
theorem u8_127 : ∀ m : Fin 256, IntKind.u8.wrap ((BitVec.ofInt 8 (m.val : Int) &&& BitVec.ofInt 8 127).toNat : Int) = ((m.val % 128 : Nat) : Int) := by decide +kernel
theorem u8_and (c : UInt8) : IntKind.u8.wrap ((BitVec.ofInt IntKind.u8.bits (c.toNat : Int) &&& BitVec.ofInt IntKind.u8.bits 127).toNat : Int) = ((c.toNat % 128 : Nat) : Int) := u8_127 ⟨c.toNat, c.toNat_lt⟩
theorem or_shl (a d s : Nat) (ha : a < 2 ^ s) (hs : s < 64) (hd : d * 2 ^ s < 18446744073709551616) :
    IntKind.u64.wrap ((BitVec.ofInt IntKind.u64.bits (a : Int) ||| BitVec.ofInt IntKind.u64.bits (IntKind.u64.wrap ((d : Int) * 2 ^ min (((s : Nat) : Int).toNat) IntKind.u64.bits))).toNat : Int) = ((a + 2 ^ s * d : Nat) : Int) := by
  have hm : min (((s : Nat) : Int).toNat) IntKind.u64.bits = s := by
    show min s 64 = s; omega
  have ha2 : a < 18446744073709551616 := Nat.lt_of_lt_of_le ha (by
    calc 2 ^ s ≤ 2 ^ 63 := Nat.pow_le_pow_right (by decide) (by omega)
      _ ≤ 18446744073709551616 := by decide)
  rw [hm]
  have e1 : ((d : Int) * 2 ^ s) = ((d * 2 ^ s : Nat) : Int) := by push_cast; rfl
  rw [e1, wrapUN hd]
  have e2 : (BitVec.ofInt IntKind.u64.bits (a : Int) ||| BitVec.ofInt IntKind.u64.bits ((d * 2 ^ s : Nat) : Int)).toNat = a + 2 ^ s * d := by
    rw [BitVec.toNat_or]
    have f : ∀ n : Nat, n < 18446744073709551616 → (BitVec.ofInt IntKind.u64.bits (n : Int)).toNat = n := fun n hn => by
      rw [BitVec.ofInt_natCast, BitVec.toNat_ofNat]
      exact Nat.mod_eq_of_lt hn
    rw [f a ha2, f _ hd, ← Nat.shiftLeft_eq, Nat.or_comm, ← Nat.shiftLeft_add_eq_or_of_lt ha, Nat.shiftLeft_eq, Nat.mul_comm, Nat.add_comm]
  rw [e2]
  have hlt : a + 2 ^ s * d < 18446744073709551616 := by
    by_cases h0 : d = 0
    · subst h0; simpa using ha2
    · have h64 : (18446744073709551616 : Nat) = 2 ^ s * 2 ^ (64 - s) := by rw [← Nat.pow_add, show s + (64 - s) = 64 by omega]
      have hd2 : d < 2 ^ (64 - s) := by
        rw [h64, Nat.mul_comm] at hd
        exact Nat.lt_of_mul_lt_mul_left hd
      have : 2 ^ s * (d + 1) ≤ 2 ^ s * 2 ^ (64 - s) := Nat.mul_le_mul_left _ hd2
      rw [Nat.mul_add, Nat.mul_one] at this
      omega
  exact wrapUN hlt
def orT (a : Nat) (c : UInt8) (s : Nat) : Int := IntKind.u64.wrap ((BitVec.ofInt 64 (a : Int) ||| BitVec.ofInt 64 (IntKind.u64.wrap (IntKind.u64.wrap (IntKind.u8.wrap ((BitVec.ofInt 8 (c.toNat : Int) &&& BitVec.ofInt 8 127).toNat : Int)) * 2 ^ min s 64))).toNat : Int)
theorem orT_eq (a : Nat) (c : UInt8) (s : Nat) (ha : a < 2 ^ s) (hs : s < 64) (hd : c.toNat % 128 * 2 ^ s < 18446744073709551616) : orT a c s = ((a + 2 ^ s * (c.toNat % 128) : Nat) : Int) := by
  have h1 := or_shl a (c.toNat % 128) s ha hs hd
  have h2 : IntKind.u64.wrap (IntKind.u8.wrap ((BitVec.ofInt 8 (c.toNat : Int) &&& BitVec.ofInt 8 127).toNat : Int)) = ((c.toNat % 128 : Nat) : Int) := by
    have : IntKind.u8.wrap ((BitVec.ofInt 8 (c.toNat : Int) &&& BitVec.ofInt 8 127).toNat : Int) = ((c.toNat % 128 : Nat) : Int) := u8_and c
    rw [this]; exact wrapUN (by omega)
  unfold orT
  rw [h2]
  exact h1
theorem wrap_mul7 {i : Nat} (h : i ≤ 100) : IntKind.i64.wrap (7 * (i : Int)) = ((7 * i : Nat) : Int) := by rw [wrapN (by omega) (by omega)]; push_cast; rfl
section
variable (σ : St)
theorem get_ans' (b : Byt) (hb : b.length ≤ 100000) : Ans Try.prog 107 [.sl 1 (byv b)] σ (getV b) σ := by
  refine Ans.of_run t107 ?_
  simp -implicitDefEqProofs only [c107, r107, go_sem, List.reduceReplicate, Nat.reduceAdd, Nat.reduceSub, Nat.reduceLT, Nat.reduceLeDiff, Nat.reduceMul, Nat.reduceEqDiff, reduceCtorEq, Int.reduceLE, Int.reduceLT, Int.reduceEq, Int.reduceNe, Int.reduceBEq, Int.reduceBNe, Int.reduceAdd, Int.reduceSub, byv_len]
  refine Go.Ab.L.intro (α := { p : Nat × Nat // p.1 ≤ b.length ∧ p.1 ≤ 9 ∧ p.2 < 2 ^ (7 * p.1) ∧ getN 0 b = (getN p.1 (b.drop p.1)).map fun q => (p.2 + 2 ^ (7 * p.1) * q.1, q.2) }) (fun p => b.length - p.1.1)
    (fun p => mkE 43 [(5, UN p.1.2), (8, .sl 1 (byv b)), (9, I b.length), (10, I p.1.1)]) (fun _ => σ) ?_ ⟨(0, 0), Nat.zero_le _, Nat.zero_le _, by simp, by cases h : getN 0 b <;> simp [h]⟩ rfl rfl
  rintro ⟨⟨i, a⟩, hi, h9, ha, hg⟩ J hJ
  simp only at hi h9 ha hg hJ
  by_cases hlt : i < b.length
  · have hx := byv_get b i hlt
    have hdr : b.drop i = b[i] :: b.drop (i + 1) := List.drop_eq_getElem_cons hlt
    rw [hdr] at hg
    have hcl := (b[i]).toNat_lt
    generalize hc : b[i] = c at hx hg hcl
    have hbeq9 : ((i : Int) == 9) = decide (i = 9) := by rw [Bool.eq_iff_iff]; simp; omega
    have hgt1 : decide ((1 : Int) < c.toNat) = decide (1 < c.toNat) := by rw [Bool.eq_iff_iff]; simp; omega
    have hgt0 : decide ((0 : Int) < i) = decide (0 < i) := by rw [Bool.eq_iff_iff]; simp
    have hbeq0 : ((c.toNat : Int) == 0) = decide (c.toNat = 0) := by rw [Bool.eq_iff_iff]; simp
    have h128 : decide ((c.toNat : Int) < 128) = decide (c.toNat < 128) := by rw [Bool.eq_iff_iff]; simp; omega
    simp only [getN] at hg
    by_cases hbad : (i = 9 ∧ 1 < c.toNat) ∨ (0 < i ∧ c.toNat = 0)
    · rw [if_pos hbad] at hg
      simp only [Option.map_none] at hg
      rw [getV_none hg]
      rcases hbad with ⟨h1, h2⟩ | ⟨h1, h2⟩
      · simp -implicitDefEqProofs only [mkE, List.foldl_cons, List.foldl_nil, go_sem, List.reduceReplicate, Nat.reduceAdd, Nat.reduceSub, Nat.reduceLT, Nat.reduceLeDiff, Nat.reduceMul, Nat.reduceEqDiff, reduceCtorEq, Int.reduceLE, Int.reduceLT, Int.reduceEq, Int.reduceNe, Int.reduceBEq, Int.reduceBNe, Int.reduceAdd, Int.reduceSub, byv_len, nat_lt hlt, dec_lt hlt, hx, bc, hbeq9, hgt1, decide_eq_true h1, decide_eq_true h2]
        exact Fini.ret rfl
      · by_cases h3 : i = 9
        · have h4 : decide (1 < c.toNat) = false := decide_eq_false (by omega)
          simp -implicitDefEqProofs only [mkE, List.foldl_cons, List.foldl_nil, go_sem, List.reduceReplicate, Nat.reduceAdd, Nat.reduceSub, Nat.reduceLT, Nat.reduceLeDiff, Nat.reduceMul, Nat.reduceEqDiff, reduceCtorEq, Int.reduceLE, Int.reduceLT, Int.reduceEq, Int.reduceNe, Int.reduceBEq, Int.reduceBNe, Int.reduceAdd, Int.reduceSub, byv_len, nat_lt hlt, dec_lt hlt, hx, bc, hbeq9, hgt1, hgt0, hbeq0, decide_eq_true h1, decide_eq_true h2, decide_eq_true h3, h4]
          exact Fini.ret rfl
        · simp -implicitDefEqProofs only [mkE, List.foldl_cons, List.foldl_nil, go_sem, List.reduceReplicate, Nat.reduceAdd, Nat.reduceSub, Nat.reduceLT, Nat.reduceLeDiff, Nat.reduceMul, Nat.reduceEqDiff, reduceCtorEq, Int.reduceLE, Int.reduceLT, Int.reduceEq, Int.reduceNe, Int.reduceBEq, Int.reduceBNe, Int.reduceAdd, Int.reduceSub, byv_len, nat_lt hlt, dec_lt hlt, hx, bc, hbeq9, hgt1, hgt0, hbeq0, decide_eq_true h1, decide_eq_true h2, decide_eq_false h3]
          exact Fini.ret rfl
    · rw [if_neg hbad] at hg
      have hs : 7 * i < 64 := by omega
      have hd : c.toNat % 128 * 2 ^ (7 * i) < 18446744073709551616 := by
        by_cases h3 : i = 9
        · subst h3
          have : c.toNat ≤ 1 := by omega
          have : c.toNat % 128 ≤ 1 := by omega
          calc c.toNat % 128 * 2 ^ (7 * 9) ≤ 1 * 2 ^ 63 := Nat.mul_le_mul_right _ this
            _ < 18446744073709551616 := by decide
        · have h4 : c.toNat % 128 < 2 ^ 7 := Nat.mod_lt _ (by decide)
          calc c.toNat % 128 * 2 ^ (7 * i) < 2 ^ 7 * 2 ^ (7 * i) := Nat.mul_lt_mul_of_pos_right h4 (Nat.two_pow_pos _)
            _ = 2 ^ (7 + 7 * i) := by rw [Nat.pow_add]
            _ ≤ 2 ^ 63 := Nat.pow_le_pow_right (by decide) (by omega)
            _ < 18446744073709551616 := by decide
      have hor := orT_eq a c (7 * i) ha hs hd
      have hin := wrap_succ (i := i) (by omega)
      have h7 := wrap_mul7 (i := i) (by omega)
      have go : ∀ (P : Prop), (decide (i = 9) = true → decide (1 < c.toNat) = false → P) → (decide (i = 9) = false → P) → P := fun P p q => by
        by_cases h3 : i = 9
        · exact p (decide_eq_true h3) (decide_eq_false (by omega))
        · exact q (decide_eq_false h3)
      have go2 : ∀ (P : Prop), (decide (0 < i) = true → decide (c.toNat = 0) = false → P) → (decide (0 < i) = false → P) → P := fun P p q => by
        by_cases h3 : 0 < i
        · exact p (decide_eq_true h3) (decide_eq_false (by omega))
        · exact q (decide_eq_false h3)
      by_cases hend : c.toNat < 128
      · have e128 := decide_eq_true hend
        rw [if_pos hend] at hg
        simp only [Option.map_some] at hg
        rw [getV_some hg]
        have hmod : c.toNat % 128 = c.toNat := Nat.mod_eq_of_lt hend
        have hfin : ∀ v : Int, v = ((a + 2 ^ (7 * i) * (c.toNat % 128) : Nat) : Int) → (.tup [.pl (.int .u64 v), I ((i + 1 : Nat) : Int), Bo true] : AV) = .tup [UN (a + 2 ^ (7 * i) * c.toNat), I (b.length - (b.drop (i + 1)).length : Nat), Bo true] := by
          rintro _ rfl
          rw [hmod, List.length_drop, show b.length - (b.length - (i + 1)) = i + 1 by omega]
        refine go _ (fun x1 x2 => go2 _ (fun y1 y2 => ?_) fun y1 => ?_) fun x1 => go2 _ (fun y1 y2 => ?_) fun y1 => ?_
        · simp -implicitDefEqProofs only [mkE, List.foldl_cons, List.foldl_nil, go_sem, List.reduceReplicate, Nat.reduceAdd, Nat.reduceSub, Nat.reduceLT, Nat.reduceLeDiff, Nat.reduceMul, Nat.reduceEqDiff, reduceCtorEq, Int.reduceLE, Int.reduceLT, Int.reduceEq, Int.reduceNe, Int.reduceBEq, Int.reduceBNe, Int.reduceAdd, Int.reduceSub, byv_len, nat_lt hlt, dec_lt hlt, hx, bc, hbeq9, hgt1, hgt0, hbeq0, x1, x2, y1, y2, h7, h128, e128, hin]
          exact Fini.ret' rfl (hfin _ hor)
        · simp -implicitDefEqProofs only [mkE, List.foldl_cons, List.foldl_nil, go_sem, List.reduceReplicate, Nat.reduceAdd, Nat.reduceSub, Nat.reduceLT, Nat.reduceLeDiff, Nat.reduceMul, Nat.reduceEqDiff, reduceCtorEq, Int.reduceLE, Int.reduceLT, Int.reduceEq, Int.reduceNe, Int.reduceBEq, Int.reduceBNe, Int.reduceAdd, Int.reduceSub, byv_len, nat_lt hlt, dec_lt hlt, hx, bc, hbeq9, hgt1, hgt0, hbeq0, x1, x2, y1, h7, h128, e128, hin]
          exact Fini.ret' rfl (hfin _ hor)
        · simp -implicitDefEqProofs only [mkE, List.foldl_cons, List.foldl_nil, go_sem, List.reduceReplicate, Nat.reduceAdd, Nat.reduceSub, Nat.reduceLT, Nat.reduceLeDiff, Nat.reduceMul, Nat.reduceEqDiff, reduceCtorEq, Int.reduceLE, Int.reduceLT, Int.reduceEq, Int.reduceNe, Int.reduceBEq, Int.reduceBNe, Int.reduceAdd, Int.reduceSub, byv_len, nat_lt hlt, dec_lt hlt, hx, bc, hbeq9, hgt1, hgt0, hbeq0, x1, y1, y2, h7, h128, e128, hin]
          exact Fini.ret' rfl (hfin _ hor)
        · simp -implicitDefEqProofs only [mkE, List.foldl_cons, List.foldl_nil, go_sem, List.reduceReplicate, Nat.reduceAdd, Nat.reduceSub, Nat.reduceLT, Nat.reduceLeDiff, Nat.reduceMul, Nat.reduceEqDiff, reduceCtorEq, Int.reduceLE, Int.reduceLT, Int.reduceEq, Int.reduceNe, Int.reduceBEq, Int.reduceBNe, Int.reduceAdd, Int.reduceSub, byv_len, nat_lt hlt, dec_lt hlt, hx, bc, hbeq9, hgt1, hgt0, hbeq0, x1, y1, h7, h128, e128, hin]
          exact Fini.ret' rfl (hfin _ hor)
      · have e128 := decide_eq_false hend
        rw [if_neg hend] at hg
        have hi9 : i < 9 := by
          rcases Nat.lt_or_eq_of_le h9 with h | h
          · exact h
          · omega
        have hgo := hJ ⟨(i + 1, a + 2 ^ (7 * i) * (c.toNat % 128)), by simp only; omega, by simp only; omega, (by
          simp only
          have e1 : 2 ^ (7 * (i + 1)) = 2 ^ (7 * i) * 128 := by rw [Nat.mul_add, Nat.pow_add]
          have : c.toNat % 128 < 128 := Nat.mod_lt _ (by decide)
          have : 2 ^ (7 * i) * (c.toNat % 128 + 1) ≤ 2 ^ (7 * i) * 128 := Nat.mul_le_mul_left _ this
          rw [Nat.mul_add, Nat.mul_one] at this
          omega), (by
          simp only
          rw [hg]
          have hm : c.toNat % 128 = c.toNat - 128 := by omega
          cases getN (i + 1) (b.drop (i + 1)) with
          | none => rfl
          | some q =>
            simp only [Option.map_some, Option.some.injEq, Prod.mk.injEq, and_true]
            rw [hm, show 7 * (i + 1) = 7 * i + 7 by omega, Nat.pow_add, Nat.mul_add, Nat.add_assoc, ← Nat.mul_assoc])⟩ (by simp only; omega)
        have key : ∀ v : Int, v = ((a + 2 ^ (7 * i) * (c.toNat % 128) : Nat) : Int) → J (mkE 43 [(5, .pl (.int .u64 v)), (8, .sl 1 (byv b)), (9, I b.length), (10, I ((i + 1 : Nat) : Int))]) σ := by
          rintro _ rfl
          exact hgo
        refine go _ (fun x1 x2 => go2 _ (fun y1 y2 => ?_) fun y1 => ?_) fun x1 => go2 _ (fun y1 y2 => ?_) fun y1 => ?_
        · simp -implicitDefEqProofs only [mkE, List.foldl_cons, List.foldl_nil, go_sem, List.reduceReplicate, Nat.reduceAdd, Nat.reduceSub, Nat.reduceLT, Nat.reduceLeDiff, Nat.reduceMul, Nat.reduceEqDiff, reduceCtorEq, Int.reduceLE, Int.reduceLT, Int.reduceEq, Int.reduceNe, Int.reduceBEq, Int.reduceBNe, Int.reduceAdd, Int.reduceSub, byv_len, nat_lt hlt, dec_lt hlt, hx, bc, hbeq9, hgt1, hgt0, hbeq0, x1, x2, y1, y2, h7, h128, e128, hin]
          exact key _ hor
        · simp -implicitDefEqProofs only [mkE, List.foldl_cons, List.foldl_nil, go_sem, List.reduceReplicate, Nat.reduceAdd, Nat.reduceSub, Nat.reduceLT, Nat.reduceLeDiff, Nat.reduceMul, Nat.reduceEqDiff, reduceCtorEq, Int.reduceLE, Int.reduceLT, Int.reduceEq, Int.reduceNe, Int.reduceBEq, Int.reduceBNe, Int.reduceAdd, Int.reduceSub, byv_len, nat_lt hlt, dec_lt hlt, hx, bc, hbeq9, hgt1, hgt0, hbeq0, x1, x2, y1, h7, h128, e128, hin]
          exact key _ hor
        · simp -implicitDefEqProofs only [mkE, List.foldl_cons, List.foldl_nil, go_sem, List.reduceReplicate, Nat.reduceAdd, Nat.reduceSub, Nat.reduceLT, Nat.reduceLeDiff, Nat.reduceMul, Nat.reduceEqDiff, reduceCtorEq, Int.reduceLE, Int.reduceLT, Int.reduceEq, Int.reduceNe, Int.reduceBEq, Int.reduceBNe, Int.reduceAdd, Int.reduceSub, byv_len, nat_lt hlt, dec_lt hlt, hx, bc, hbeq9, hgt1, hgt0, hbeq0, x1, y1, y2, h7, h128, e128, hin]
          exact key _ hor
        · simp -implicitDefEqProofs only [mkE, List.foldl_cons, List.foldl_nil, go_sem, List.reduceReplicate, Nat.reduceAdd, Nat.reduceSub, Nat.reduceLT, Nat.reduceLeDiff, Nat.reduceMul, Nat.reduceEqDiff, reduceCtorEq, Int.reduceLE, Int.reduceLT, Int.reduceEq, Int.reduceNe, Int.reduceBEq, Int.reduceBNe, Int.reduceAdd, Int.reduceSub, byv_len, nat_lt hlt, dec_lt hlt, hx, bc, hbeq9, hgt1, hgt0, hbeq0, x1, y1, h7, h128, e128, hin]
          exact key _ hor
  · have hn : b.drop i = [] := List.drop_eq_nil_of_le (by omega)
    rw [hn] at hg
    simp only [getN, Option.map_none] at hg
    rw [getV_none hg]
    simp -implicitDefEqProofs only [mkE, List.foldl_cons, List.foldl_nil, go_sem, List.reduceReplicate, Nat.reduceAdd, Nat.reduceSub, Nat.reduceLT, Nat.reduceLeDiff, Nat.reduceMul, Nat.reduceEqDiff, reduceCtorEq, Int.reduceLE, Int.reduceLT, Int.reduceEq, Int.reduceNe, Int.reduceBEq, Int.reduceBNe, Int.reduceAdd, Int.reduceSub, byv_len, nat_nlt hlt, dec_nlt hlt]
    exact Fini.ret rfl
end
end Go.Proofs.Ytoadgajhkhejiaa
namespace Go.Proofs.Ytoadgajhkhejiaa
open Go Go.Ab Go.Cod
set_option maxRecDepth 100000
def textV (most : Nat) (b : Byt) : AV := match textR most b with
  | some p => .tup [Sx p.1, I (b.length - p.2.length : Nat), Bo true]
  | none => .tup [Sx ⟨#[]⟩, I 0, Bo false]
theorem textV_none {most : Nat} {b : Byt} (h : textR most b = none) : textV most b = .tup [Sx ⟨#[]⟩, I 0, Bo false] := by unfold textV; rw [h]
theorem textV_some {most : Nat} {b : Byt} {s : ByteArray} {t : Byt} (h : textR most b = some (s, t)) : textV most b = .tup [Sx s, I (b.length - t.length : Nat), Bo true] := by unfold textV; rw [h]
theorem textR_none {most : Nat} {b : Byt} (h : getN 0 b = none) : textR most b = none := by simp only [textR, numR, h, Option.bind_none]
theorem textR_of {most : Nat} {b : Byt} {n : Nat} {t : Byt} (h : getN 0 b = some (n, t)) : textR most b = if n ≤ most ∧ n ≤ t.length then some (⟨(t.take n).toArray⟩, t.drop n) else none := by
  simp only [textR, numR, h, Option.bind_some]
  by_cases h1 : n ≤ most
  · simp only [h1, if_true, Option.bind_some, true_and]
  · simp only [h1, if_false, Option.bind_none, false_and]
theorem decNN (a b : Nat) : decide ((a : Int) < (b : Int)) = decide (a < b) := by rw [Bool.eq_iff_iff]; simp
theorem subN {a b : Nat} (h : b ≤ a) (ha : a ≤ 100000) : IntKind.i64.wrap ((a : Int) - (b : Int)) = ((a - b : Nat) : Int) := by rw [wrapN (by omega) (by omega)]; omega
theorem addN {a b : Nat} (h : a + b ≤ 100000) : IntKind.i64.wrap ((a : Int) + (b : Int)) = ((a + b : Nat) : Int) := by rw [wrapN (by omega) (by omega)]; omega
theorem wrapI {a : Nat} (h : a < 9223372036854775808) : IntKind.i64.wrap (a : Int) = (a : Int) := wrapN (by omega) (by omega)
section
variable (σ : St)
theorem gettext_ans (b : Byt) (most : Nat) (hb : b.length ≤ 100000) (hm : most < 9223372036854775808) : Ans Try.prog 110 [.sl 1 (byv b), I most] σ (textV most b) σ := by
  refine Ans.of_run t110 ?_
  simp -implicitDefEqProofs only [c110, r110, go_sem, List.reduceReplicate, Nat.reduceAdd, Nat.reduceSub, Nat.reduceLT, Nat.reduceLeDiff, Nat.reduceMul, Nat.reduceEqDiff, reduceCtorEq, Int.reduceLE, Int.reduceLT, Int.reduceEq, Int.reduceNe, Int.reduceBEq, Int.reduceBNe, Int.reduceAdd, Int.reduceSub]
  refine CO.intro (get_ans' σ b hb) ?_
  have hneg : decide ((most : Int) < 0) = false := by simp
  have hwm := wrapUN (n := most) (by omega)
  cases hg : getN 0 b with
  | none =>
    rw [getV_none hg, textV_none (textR_none hg)]
    simp -implicitDefEqProofs only [go_sem, List.reduceReplicate, Nat.reduceAdd, Nat.reduceSub, Nat.reduceLT, Nat.reduceLeDiff, Nat.reduceMul, Nat.reduceEqDiff, reduceCtorEq, Int.reduceLE, Int.reduceLT, Int.reduceEq, Int.reduceNe, Int.reduceBEq, Int.reduceBNe, Int.reduceAdd, Int.reduceSub]
    exact Fini.ret rfl
  | some p =>
    obtain ⟨n, t⟩ := p
    obtain ⟨hbt, hn, _⟩ := getN_inv b 0 n t (by omega) hg
    have hn : n < 18446744073709551616 := hn
    have hlen : b.length = (putN n).length + t.length := by rw [hbt, List.length_append]
    have hk : b.length - t.length = (putN n).length := by omega
    have hsub := subN (a := b.length) (b := (putN n).length) (by omega) hb
    have hsub2 : b.length - (putN n).length = t.length := by omega
    have hwt := wrapUN (n := t.length) (by omega)
    have e1 : decide ((most : Int) < n) = decide (most < n) := decNN most n
    have e2 : decide ((t.length : Int) < n) = decide (t.length < n) := decNN _ n
    rw [getV_some hg, hk]
    have hR := textR_of (most := most) hg
    by_cases h1 : n ≤ most
    · have x1 : decide (most < n) = false := decide_eq_false (by omega)
      by_cases h2 : n ≤ t.length
      · have x2 : decide (t.length < n) = false := decide_eq_false (by omega)
        rw [if_pos ⟨h1, h2⟩] at hR
        have hwn := wrapI (a := n) (by omega)
        have hadd := addN (a := (putN n).length) (b := n) (by omega)
        have hlo : ((putN n).length : Int) ≤ ((putN n).length + n : Nat) := by omega
        have hhi : (((putN n).length + n : Nat) : Int) ≤ (b.length : Nat) := by omega
        have hcut : (b.take ((putN n).length + n)).drop (putN n).length = t.take n := by
          rw [hbt, List.take_append, List.take_of_length_le (by omega), Nat.add_sub_cancel_left, List.drop_left]
        rw [textV_some hR]
        simp -implicitDefEqProofs only [go_sem, List.reduceReplicate, Nat.reduceAdd, Nat.reduceSub, Nat.reduceLT, Nat.reduceLeDiff, Nat.reduceMul, Nat.reduceEqDiff, reduceCtorEq, Int.reduceLE, Int.reduceLT, Int.reduceEq, Int.reduceNe, Int.reduceBEq, Int.reduceBNe, Int.reduceAdd, Int.reduceSub, hneg, hwm, e1, x1, hsub, hsub2, hwt, e2, x2, hwn, hadd, byv_len, hlo, hhi, AV.isStr, byv_take, byv_drop, hcut, byv_all', bc, byteL_byv, textOf_byv]
        refine Fini.ret' rfl ?_
        rw [List.length_drop]
        have : b.length - (t.length - n) = (putN n).length + n := by omega
        rw [this]; rfl
      · have x2 : decide (t.length < n) = true := decide_eq_true (by omega)
        rw [if_neg (by omega)] at hR
        rw [textV_none hR]
        simp -implicitDefEqProofs only [go_sem, List.reduceReplicate, Nat.reduceAdd, Nat.reduceSub, Nat.reduceLT, Nat.reduceLeDiff, Nat.reduceMul, Nat.reduceEqDiff, reduceCtorEq, Int.reduceLE, Int.reduceLT, Int.reduceEq, Int.reduceNe, Int.reduceBEq, Int.reduceBNe, Int.reduceAdd, Int.reduceSub, hneg, hwm, e1, x1, byv_len, hsub, hsub2, hwt, e2, x2]
        exact Fini.ret rfl
    · have x1 : decide (most < n) = true := decide_eq_true (by omega)
      rw [if_neg (by omega)] at hR
      rw [textV_none hR]
      simp -implicitDefEqProofs only [go_sem, List.reduceReplicate, Nat.reduceAdd, Nat.reduceSub, Nat.reduceLT, Nat.reduceLeDiff, Nat.reduceMul, Nat.reduceEqDiff, reduceCtorEq, Int.reduceLE, Int.reduceLT, Int.reduceEq, Int.reduceNe, Int.reduceBEq, Int.reduceBNe, Int.reduceAdd, Int.reduceSub, hneg, hwm, e1, x1]
      exact Fini.ret rfl
end
abbrev rob (b : Byt) (q : Nat × Bool) : Ob := .box [.sl 1 (byv b), I q.1, Bo q.2]
theorem get_set_eq' {σ : St} {p : Nat} {o : Ob} (h : σ[p]? = some o) (x : Ob) : (σ.set p x)[p]? = some x := by
  have := (List.getElem?_eq_some_iff.1 h).1
  simp [this]
section
variable (σ : St) (p : Nat) (b : Byt) (q : Nat × Bool)
theorem new_ans : Ans Try.prog 76 [.sl 1 (byv b)] σ (.ptr σ.length 0) (σ ++ [rob b (0, false)]) := by
  refine Ans.of_run t76 ?_
  simp -implicitDefEqProofs only [c76, r76, go_sem, List.reduceReplicate, Nat.reduceAdd, Nat.reduceSub, Nat.reduceLT, Nat.reduceLeDiff, Nat.reduceMul, Nat.reduceEqDiff, reduceCtorEq, Int.reduceLE, Int.reduceLT, Int.reduceEq, Int.reduceNe, Int.reduceBEq, Int.reduceBNe, Int.reduceAdd, Int.reduceSub]
  exact Fini.ret rfl
theorem rest_ans (h : σ[p]? = some (rob b q)) (hq : q.1 ≤ b.length) : Ans Try.prog 108 [.ptr p 0] σ (.sl 1 (byv (b.drop q.1))) σ := by
  have h1 : (q.1 : Int) ≤ (b.length : Nat) := by omega
  refine Ans.of_run t108 ?_
  simp -implicitDefEqProofs only [c108, r108, go_sem, List.reduceReplicate, Nat.reduceAdd, Nat.reduceSub, Nat.reduceLT, Nat.reduceLeDiff, Nat.reduceMul, Nat.reduceEqDiff, reduceCtorEq, Int.reduceLE, Int.reduceLT, Int.reduceEq, Int.reduceNe, Int.reduceBEq, Int.reduceBNe, Int.reduceAdd, Int.reduceSub, h, byv_len, h1, byv_take, byv_drop, List.take_length, Int.le_refl]
  exact Fini.ret rfl
theorem took_ans (n : Nat) (ok : Bool) (h : σ[p]? = some (rob b q)) (hn : q.1 + n ≤ 100000) : Ans Try.prog 109 [.ptr p 0, I n, Bo ok] σ (Bo !(took q n ok).2) (σ.set p (rob b (took q n ok))) := by
  obtain ⟨a, bad⟩ := q
  have h9 : ∀ x, (σ.set p x)[p]? = some x := get_set_eq' h
  have hadd := addN (a := a) (b := n) hn
  unfold took
  refine Ans.of_run t109 ?_
  cases bad with
  | true =>
    simp -implicitDefEqProofs only [c109, r109, go_sem, List.reduceReplicate, Nat.reduceAdd, Nat.reduceSub, Nat.reduceLT, Nat.reduceLeDiff, Nat.reduceMul, Nat.reduceEqDiff, reduceCtorEq, Int.reduceLE, Int.reduceLT, Int.reduceEq, Int.reduceNe, Int.reduceBEq, Int.reduceBNe, Int.reduceAdd, Int.reduceSub, h, h9]
    exact Fini.ret rfl
  | false =>
    cases ok with
    | true =>
      simp -implicitDefEqProofs only [c109, r109, go_sem, List.reduceReplicate, Nat.reduceAdd, Nat.reduceSub, Nat.reduceLT, Nat.reduceLeDiff, Nat.reduceMul, Nat.reduceEqDiff, reduceCtorEq, Int.reduceLE, Int.reduceLT, Int.reduceEq, Int.reduceNe, Int.reduceBEq, Int.reduceBNe, Int.reduceAdd, Int.reduceSub, h, h9, hadd, List.set_set]
      exact Fini.ret rfl
    | false =>
      simp -implicitDefEqProofs only [c109, r109, go_sem, List.reduceReplicate, Nat.reduceAdd, Nat.reduceSub, Nat.reduceLT, Nat.reduceLeDiff, Nat.reduceMul, Nat.reduceEqDiff, reduceCtorEq, Int.reduceLE, Int.reduceLT, Int.reduceEq, Int.reduceNe, Int.reduceBEq, Int.reduceBNe, Int.reduceAdd, Int.reduceSub, h, h9]
      exact Fini.ret rfl
end
end Go.Proofs.Ytoadgajhkhejiaa
namespace Go.Proofs.Ytoadgajhkhejiaa
open Go Go.Ab Go.Cod
set_option maxRecDepth 100000
section
variable (σ : St) (p : Nat) (b : Byt) (q : Nat × Bool)
theorem num_ans (most : Nat) (hm : most < 18446744073709551616) (h : σ[p]? = some (rob b q)) (hq : Inb b q) (hb : b.length ≤ 50000) :
    Ans Try.prog 77 [.ptr p 0, UN most] σ (UN (runR (numR most) 0 b q).1) (σ.set p (rob b (runR (numR most) 0 b q).2)) := by
  refine Ans.of_run t77 ?_
  simp -implicitDefEqProofs only [c77, r77, go_sem, List.reduceReplicate, Nat.reduceAdd, Nat.reduceSub, Nat.reduceLT, Nat.reduceLeDiff, Nat.reduceMul, Nat.reduceEqDiff, reduceCtorEq, Int.reduceLE, Int.reduceLT, Int.reduceEq, Int.reduceNe, Int.reduceBEq, Int.reduceBNe, Int.reduceAdd, Int.reduceSub]
  refine CO.intro (rest_ans σ p b q h hq) ?_
  simp -implicitDefEqProofs only [go_sem, List.reduceReplicate, Nat.reduceAdd, Nat.reduceSub, Nat.reduceLT, Nat.reduceLeDiff, Nat.reduceMul, Nat.reduceEqDiff, reduceCtorEq, Int.reduceLE, Int.reduceLT, Int.reduceEq, Int.reduceNe, Int.reduceBEq, Int.reduceBNe, Int.reduceAdd, Int.reduceSub]
  refine CO.intro (get_ans' σ (b.drop q.1) (by rw [List.length_drop]; omega)) ?_
  obtain ⟨a, bad⟩ := q
  simp only at hq h ⊢
  have hq : a ≤ b.length := hq
  cases hg : getN 0 (b.drop a) with
  | none =>
    have hR : numR most (b.drop a) = none := by simp only [numR, hg, Option.bind_none]
    have ht := took_ans σ p b (a, bad) 0 false h (by simp only; omega)
    have ht : Ans Try.prog 109 [.ptr p 0, I 0, Bo false] σ (Bo false) (σ.set p (rob b (a, true))) := by
      have e : took (a, bad) 0 false = (a, true) := by cases bad <;> rfl
      rw [e] at ht; exact ht
    rw [getV_none hg]
    simp -implicitDefEqProofs only [go_sem, List.reduceReplicate, Nat.reduceAdd, Nat.reduceSub, Nat.reduceLT, Nat.reduceLeDiff, Nat.reduceMul, Nat.reduceEqDiff, reduceCtorEq, Int.reduceLE, Int.reduceLT, Int.reduceEq, Int.reduceNe, Int.reduceBEq, Int.reduceBNe, Int.reduceAdd, Int.reduceSub]
    refine CO.intro ht ?_
    simp -implicitDefEqProofs only [go_sem, List.reduceReplicate, Nat.reduceAdd, Nat.reduceSub, Nat.reduceLT, Nat.reduceLeDiff, Nat.reduceMul, Nat.reduceEqDiff, reduceCtorEq, Int.reduceLE, Int.reduceLT, Int.reduceEq, Int.reduceNe, Int.reduceBEq, Int.reduceBNe, Int.reduceAdd, Int.reduceSub]
    cases bad with
    | true => rw [runR_bad]; exact Fini.ret rfl
    | false => rw [runR_none hR]; exact Fini.ret rfl
  | some x =>
    obtain ⟨n, t⟩ := x
    rw [getV_some hg]
    have hl := getN_len hg
    rw [List.length_drop] at hl
    have e1 : decide ((n : Int) ≤ most) = decide (n ≤ most) := intle n most
    have ht := took_ans σ p b (a, bad) ((b.drop a).length - t.length) (decide (n ≤ most)) h (by simp only [List.length_drop]; omega)
    by_cases h1 : n ≤ most
    · have x1 : decide (n ≤ most) = true := decide_eq_true h1
      rw [x1] at ht
      have hR : numR most (b.drop a) = some (n, t) := by simp only [numR, hg, Option.bind_some, h1, if_true]
      simp -implicitDefEqProofs only [go_sem, List.reduceReplicate, Nat.reduceAdd, Nat.reduceSub, Nat.reduceLT, Nat.reduceLeDiff, Nat.reduceMul, Nat.reduceEqDiff, reduceCtorEq, Int.reduceLE, Int.reduceLT, Int.reduceEq, Int.reduceNe, Int.reduceBEq, Int.reduceBNe, Int.reduceAdd, Int.reduceSub, e1, x1]
      refine CO.intro ht ?_
      cases bad with
      | true =>
        have e : took (a, true) ((b.drop a).length - t.length) true = (a, true) := rfl
        rw [e, runR_bad]
        simp -implicitDefEqProofs only [go_sem, List.reduceReplicate, Nat.reduceAdd, Nat.reduceSub, Nat.reduceLT, Nat.reduceLeDiff, Nat.reduceMul, Nat.reduceEqDiff, reduceCtorEq, Int.reduceLE, Int.reduceLT, Int.reduceEq, Int.reduceNe, Int.reduceBEq, Int.reduceBNe, Int.reduceAdd, Int.reduceSub]
        exact Fini.ret rfl
      | false =>
        have e : took (a, false) ((b.drop a).length - t.length) true = (b.length - t.length, false) := by
          simp only [took, Bool.false_or, Bool.not_true, Bool.false_eq_true, if_false, List.length_drop]
          congr 1; omega
        rw [e, runR_some hR]
        simp -implicitDefEqProofs only [go_sem, List.reduceReplicate, Nat.reduceAdd, Nat.reduceSub, Nat.reduceLT, Nat.reduceLeDiff, Nat.reduceMul, Nat.reduceEqDiff, reduceCtorEq, Int.reduceLE, Int.reduceLT, Int.reduceEq, Int.reduceNe, Int.reduceBEq, Int.reduceBNe, Int.reduceAdd, Int.reduceSub]
        exact Fini.ret rfl
    · have x1 : decide (n ≤ most) = false := decide_eq_false h1
      rw [x1] at ht
      have hR : numR most (b.drop a) = none := by simp only [numR, hg, Option.bind_some, h1, if_false]
      have e : took (a, bad) ((b.drop a).length - t.length) false = (a, true) := by cases bad <;> rfl
      rw [e] at ht
      simp -implicitDefEqProofs only [go_sem, List.reduceReplicate, Nat.reduceAdd, Nat.reduceSub, Nat.reduceLT, Nat.reduceLeDiff, Nat.reduceMul, Nat.reduceEqDiff, reduceCtorEq, Int.reduceLE, Int.reduceLT, Int.reduceEq, Int.reduceNe, Int.reduceBEq, Int.reduceBNe, Int.reduceAdd, Int.reduceSub, e1, x1]
      refine CO.intro ht ?_
      simp -implicitDefEqProofs only [go_sem, List.reduceReplicate, Nat.reduceAdd, Nat.reduceSub, Nat.reduceLT, Nat.reduceLeDiff, Nat.reduceMul, Nat.reduceEqDiff, reduceCtorEq, Int.reduceLE, Int.reduceLT, Int.reduceEq, Int.reduceNe, Int.reduceBEq, Int.reduceBNe, Int.reduceAdd, Int.reduceSub]
      cases bad with
      | true => rw [runR_bad]; exact Fini.ret rfl
      | false => rw [runR_none hR]; exact Fini.ret rfl
theorem text_ans (most : Nat) (hm : most < 9223372036854775808) (h : σ[p]? = some (rob b q)) (hq : Inb b q) (hb : b.length ≤ 50000) :
    Ans Try.prog 79 [.ptr p 0, I most] σ (Sx (runR (textR most) ⟨#[]⟩ b q).1) (σ.set p (rob b (runR (textR most) ⟨#[]⟩ b q).2)) := by
  refine Ans.of_run t79 ?_
  simp -implicitDefEqProofs only [c79, r79, go_sem, List.reduceReplicate, Nat.reduceAdd, Nat.reduceSub, Nat.reduceLT, Nat.reduceLeDiff, Nat.reduceMul, Nat.reduceEqDiff, reduceCtorEq, Int.reduceLE, Int.reduceLT, Int.reduceEq, Int.reduceNe, Int.reduceBEq, Int.reduceBNe, Int.reduceAdd, Int.reduceSub]
  refine CO.intro (rest_ans σ p b q h hq) ?_
  simp -implicitDefEqProofs only [go_sem, List.reduceReplicate, Nat.reduceAdd, Nat.reduceSub, Nat.reduceLT, Nat.reduceLeDiff, Nat.reduceMul, Nat.reduceEqDiff, reduceCtorEq, Int.reduceLE, Int.reduceLT, Int.reduceEq, Int.reduceNe, Int.reduceBEq, Int.reduceBNe, Int.reduceAdd, Int.reduceSub]
  refine CO.intro (gettext_ans σ (b.drop q.1) most (by rw [List.length_drop]; omega) hm) ?_
  obtain ⟨a, bad⟩ := q
  simp only at hq h ⊢
  have hq : a ≤ b.length := hq
  cases hg : textR most (b.drop a) with
  | none =>
    have ht := took_ans σ p b (a, bad) 0 false h (by simp only; omega)
    have ht : Ans Try.prog 109 [.ptr p 0, I 0, Bo false] σ (Bo false) (σ.set p (rob b (a, true))) := by
      have e : took (a, bad) 0 false = (a, true) := by cases bad <;> rfl
      rw [e] at ht; exact ht
    rw [textV_none hg]
    simp -implicitDefEqProofs only [go_sem, List.reduceReplicate, Nat.reduceAdd, Nat.reduceSub, Nat.reduceLT, Nat.reduceLeDiff, Nat.reduceMul, Nat.reduceEqDiff, reduceCtorEq, Int.reduceLE, Int.reduceLT, Int.reduceEq, Int.reduceNe, Int.reduceBEq, Int.reduceBNe, Int.reduceAdd, Int.reduceSub]
    refine CO.intro ht ?_
    simp -implicitDefEqProofs only [go_sem, List.reduceReplicate, Nat.reduceAdd, Nat.reduceSub, Nat.reduceLT, Nat.reduceLeDiff, Nat.reduceMul, Nat.reduceEqDiff, reduceCtorEq, Int.reduceLE, Int.reduceLT, Int.reduceEq, Int.reduceNe, Int.reduceBEq, Int.reduceBNe, Int.reduceAdd, Int.reduceSub]
    cases bad with
    | true => rw [runR_bad]; exact Fini.ret rfl
    | false => rw [runR_none hg]; exact Fini.ret rfl
  | some x =>
    obtain ⟨n, t⟩ := x
    rw [textV_some hg]
    have hl := ((text_fits (most := most) (by omega)).rest hg).1
    rw [List.length_drop] at hl
    have ht := took_ans σ p b (a, bad) ((b.drop a).length - t.length) true h (by simp only [List.length_drop]; omega)
    simp -implicitDefEqProofs only [go_sem, List.reduceReplicate, Nat.reduceAdd, Nat.reduceSub, Nat.reduceLT, Nat.reduceLeDiff, Nat.reduceMul, Nat.reduceEqDiff, reduceCtorEq, Int.reduceLE, Int.reduceLT, Int.reduceEq, Int.reduceNe, Int.reduceBEq, Int.reduceBNe, Int.reduceAdd, Int.reduceSub]
    refine CO.intro ht ?_
    cases bad with
    | true =>
      have e : took (a, true) ((b.drop a).length - t.length) true = (a, true) := rfl
      rw [e, runR_bad]
      simp -implicitDefEqProofs only [go_sem, List.reduceReplicate, Nat.reduceAdd, Nat.reduceSub, Nat.reduceLT, Nat.reduceLeDiff, Nat.reduceMul, Nat.reduceEqDiff, reduceCtorEq, Int.reduceLE, Int.reduceLT, Int.reduceEq, Int.reduceNe, Int.reduceBEq, Int.reduceBNe, Int.reduceAdd, Int.reduceSub]
      exact Fini.ret rfl
    | false =>
      have e : took (a, false) ((b.drop a).length - t.length) true = (b.length - t.length, false) := by
        simp only [took, Bool.false_or, Bool.not_true, Bool.false_eq_true, if_false, List.length_drop]
        congr 1; omega
      rw [e, runR_some hg]
      simp -implicitDefEqProofs only [go_sem, List.reduceReplicate, Nat.reduceAdd, Nat.reduceSub, Nat.reduceLT, Nat.reduceLeDiff, Nat.reduceMul, Nat.reduceEqDiff, reduceCtorEq, Int.reduceLE, Int.reduceLT, Int.reduceEq, Int.reduceNe, Int.reduceBEq, Int.reduceBNe, Int.reduceAdd, Int.reduceSub]
      exact Fini.ret rfl
theorem byte_ans' (h : σ[p]? = some (rob b q)) (hq : Inb b q) (hb : b.length ≤ 50000) :
    Ans Try.prog 78 [.ptr p 0] σ (bc (runR byteR 0 b q).1) (σ.set p (rob b (runR byteR 0 b q).2)) := by
  refine Ans.of_run t78 ?_
  simp -implicitDefEqProofs only [c78, r78, go_sem, List.reduceReplicate, Nat.reduceAdd, Nat.reduceSub, Nat.reduceLT, Nat.reduceLeDiff, Nat.reduceMul, Nat.reduceEqDiff, reduceCtorEq, Int.reduceLE, Int.reduceLT, Int.reduceEq, Int.reduceNe, Int.reduceBEq, Int.reduceBNe, Int.reduceAdd, Int.reduceSub]
  refine CO.intro (rest_ans σ p b q h hq) ?_
  obtain ⟨a, bad⟩ := q
  simp only at hq h ⊢
  have hq : a ≤ b.length := hq
  cases hg : b.drop a with
  | nil =>
    have hR : byteR (b.drop a) = none := by rw [hg]; rfl
    have d0 : decide ((0 : Int) < ((0 : Nat) : Int)) = false := by simp
    have ht := took_ans σ p b (a, bad) 1 false h (by simp only; omega)
    have e : took (a, bad) 1 false = (a, true) := by cases bad <;> rfl
    rw [e] at ht
    simp -implicitDefEqProofs only [go_sem, List.reduceReplicate, Nat.reduceAdd, Nat.reduceSub, Nat.reduceLT, Nat.reduceLeDiff, Nat.reduceMul, Nat.reduceEqDiff, reduceCtorEq, Int.reduceLE, Int.reduceLT, Int.reduceEq, Int.reduceNe, Int.reduceBEq, Int.reduceBNe, Int.reduceAdd, Int.reduceSub, byv_nil, d0]
    refine CO.intro ht ?_
    simp -implicitDefEqProofs only [go_sem, List.reduceReplicate, Nat.reduceAdd, Nat.reduceSub, Nat.reduceLT, Nat.reduceLeDiff, Nat.reduceMul, Nat.reduceEqDiff, reduceCtorEq, Int.reduceLE, Int.reduceLT, Int.reduceEq, Int.reduceNe, Int.reduceBEq, Int.reduceBNe, Int.reduceAdd, Int.reduceSub]
    cases bad with
    | true => rw [runR_bad]; exact Fini.ret rfl
    | false => rw [runR_none hR]; exact Fini.ret rfl
  | cons c t =>
    have hR : byteR (b.drop a) = some (c, t) := by rw [hg]; rfl
    have hl : b.length - a = t.length + 1 := by rw [← List.length_drop, hg]; rfl
    have d0 : decide ((0 : Int) < (((byv t).length + 1 : Nat) : Int)) = true := by simp
    have ht := took_ans σ p b (a, bad) 1 true h (by simp only; omega)
    simp -implicitDefEqProofs only [go_sem, List.reduceReplicate, Nat.reduceAdd, Nat.reduceSub, Nat.reduceLT, Nat.reduceLeDiff, Nat.reduceMul, Nat.reduceEqDiff, reduceCtorEq, Int.reduceLE, Int.reduceLT, Int.reduceEq, Int.reduceNe, Int.reduceBEq, Int.reduceBNe, Int.reduceAdd, Int.reduceSub, byv_cons, d0]
    refine CO.intro ht ?_
    cases bad with
    | true =>
      have e : took (a, true) 1 true = (a, true) := rfl
      rw [e, runR_bad]
      simp -implicitDefEqProofs only [go_sem, List.reduceReplicate, Nat.reduceAdd, Nat.reduceSub, Nat.reduceLT, Nat.reduceLeDiff, Nat.reduceMul, Nat.reduceEqDiff, reduceCtorEq, Int.reduceLE, Int.reduceLT, Int.reduceEq, Int.reduceNe, Int.reduceBEq, Int.reduceBNe, Int.reduceAdd, Int.reduceSub]
      exact Fini.ret rfl
    | false =>
      have e : took (a, false) 1 true = (b.length - t.length, false) := by
        simp only [took, Bool.false_or, Bool.not_true, Bool.false_eq_true, if_false]
        congr 1; omega
      rw [e, runR_some hR]
      simp -implicitDefEqProofs only [go_sem, List.reduceReplicate, Nat.reduceAdd, Nat.reduceSub, Nat.reduceLT, Nat.reduceLeDiff, Nat.reduceMul, Nat.reduceEqDiff, reduceCtorEq, Int.reduceLE, Int.reduceLT, Int.reduceEq, Int.reduceNe, Int.reduceBEq, Int.reduceBNe, Int.reduceAdd, Int.reduceSub, bc, Int.toNat_zero]
      exact Fini.ret rfl
theorem refuse_ans (ok : Bool) (h : σ[p]? = some (rob b q)) (hq : Inb b q) (hb : b.length ≤ 50000) :
    Ans Try.prog 80 [.ptr p 0, Bo ok] σ (.tup []) (σ.set p (rob b (took q 0 ok))) := by
  have hq : q.1 ≤ b.length := hq
  refine Ans.of_run t80 ?_
  simp -implicitDefEqProofs only [c80, r80, go_sem, List.reduceReplicate, Nat.reduceAdd, Nat.reduceSub, Nat.reduceLT, Nat.reduceLeDiff, Nat.reduceMul, Nat.reduceEqDiff, reduceCtorEq, Int.reduceLE, Int.reduceLT, Int.reduceEq, Int.reduceNe, Int.reduceBEq, Int.reduceBNe, Int.reduceAdd, Int.reduceSub]
  refine CO.intro (took_ans σ p b q 0 ok h (by omega)) ?_
  simp -implicitDefEqProofs only [go_sem, List.reduceReplicate, Nat.reduceAdd, Nat.reduceSub, Nat.reduceLT, Nat.reduceLeDiff, Nat.reduceMul, Nat.reduceEqDiff, reduceCtorEq, Int.reduceLE, Int.reduceLT, Int.reduceEq, Int.reduceNe, Int.reduceBEq, Int.reduceBNe, Int.reduceAdd, Int.reduceSub]
  exact Fini.normal rfl
theorem end_ans (h : σ[p]? = some (rob b q)) : Ans Try.prog 81 [.ptr p 0] σ (.tup [I (if q.2 then 0 else q.1 : Nat), Bo !q.2]) σ := by
  obtain ⟨a, bad⟩ := q
  refine Ans.of_run t81 ?_
  cases bad with
  | true =>
    simp -implicitDefEqProofs only [c81, r81, go_sem, List.reduceReplicate, Nat.reduceAdd, Nat.reduceSub, Nat.reduceLT, Nat.reduceLeDiff, Nat.reduceMul, Nat.reduceEqDiff, reduceCtorEq, Int.reduceLE, Int.reduceLT, Int.reduceEq, Int.reduceNe, Int.reduceBEq, Int.reduceBNe, Int.reduceAdd, Int.reduceSub, h]
    exact Fini.ret rfl
  | false =>
    simp -implicitDefEqProofs only [c81, r81, go_sem, List.reduceReplicate, Nat.reduceAdd, Nat.reduceSub, Nat.reduceLT, Nat.reduceLeDiff, Nat.reduceMul, Nat.reduceEqDiff, reduceCtorEq, Int.reduceLE, Int.reduceLT, Int.reduceEq, Int.reduceNe, Int.reduceBEq, Int.reduceBNe, Int.reduceAdd, Int.reduceSub, h]
    exact Fini.ret rfl
end
end Go.Proofs.Ytoadgajhkhejiaa
namespace Go.Proofs.Ytoadgajhkhejiaa
open Go Go.Ab
set_option maxRecDepth 100000
abbrev U (n : Int) : AV := .pl (.int .u64 n)
inductive Rex where
  | mk (op a b c d : Int) (ks : List Rex)
namespace Rex
def op : Rex → Int | .mk op _ _ _ _ _ => op
def a : Rex → Int | .mk _ a _ _ _ _ => a
def b : Rex → Int | .mk _ _ b _ _ _ => b
def c : Rex → Int | .mk _ _ _ c _ _ => c
def d : Rex → Int | .mk _ _ _ _ d _ => d
def ks : Rex → List Rex | .mk _ _ _ _ _ ks => ks
mutual
def av : Rex → AV
  | .mk op a b c d ks => .agg [I op, U a, U b, U c, U d, .sl 6 (avL ks)]
def avL : List Rex → List AV
  | [] => []
  | x :: xs => av x :: avL xs
end
theorem avL_eq : ∀ l : List Rex, avL l = l.map av
  | [] => rfl
  | x :: xs => by rw [avL, avL_eq xs]; rfl
theorem av_eq (x : Rex) : x.av = .agg [I x.op, U x.a, U x.b, U x.c, U x.d, .sl 6 (x.ks.map av)] := by
  cases x; simp only [av, op, a, b, c, d, ks, avL_eq]
theorem lt_of_mem {x y : Rex} (h : y ∈ x.ks) : SizeOf.sizeOf y < SizeOf.sizeOf x := by
  cases x
  have := List.sizeOf_lt_of_mem h
  simp only [ks] at this
  simp
  omega
mutual
def cut : Rex → Int → Int
  | .mk _ _ _ _ _ ks, most => cutL ks most 1
def cutL : List Rex → Int → Int → Int
  | [], _, n => n
  | x :: xs, most, n => if n ≤ most then cutL xs most (n + cut x (most - n)) else n
end
def run (ks : List Rex) (most : Int) : Nat → Int
  | 0 => 1
  | i + 1 => match ks[i]? with
    | some x => run ks most i + x.cut (most - run ks most i)
    | none => run ks most i
end Rex
open Rex
section
variable (σ : St)
end
end Go.Proofs.Ytoadgajhkhejiaa
namespace Go.Proofs.Ytoadgajhkhejiaa
open Go Go.Ab
set_option maxRecDepth 100000
namespace Rex
mutual
def size : Rex → Int
  | .mk op _ _ _ _ ks => if op == 1 then 1 else if op == 3 then sizeL ks + 2 * ((ks.length : Int) - 1) else if op == 4 then sizeL ks + 2 else if op == 5 then sizeL ks + 1 else if op == 6 then sizeL ks + 1 else sizeL ks
def sizeL : List Rex → Int
  | [] => 0
  | x :: xs => size x + sizeL xs
end
def plain (x : Rex) : Bool := x.a == 0 && (x.b == 0 && (x.c == 0 && (x.d == 0 && true)))
end Rex
open Rex
section
variable (σ : St)
end
end Go.Proofs.Ytoadgajhkhejiaa
namespace Go.Proofs.Ytoadgajhkhejiaa
open Go Go.Ab
set_option maxRecDepth 100000
structure Stp where
  op : Int
  a : Int
  b : Int
  c : Int
  d : Int
  x : Int
  y : Int
def Stp.av (s : Stp) : AV := .agg [I s.op, U s.a, U s.b, U s.c, U s.d, I s.x, I s.y]
def inR (n at_ : Int) : Bool := decide (0 ≤ at_) && decide (at_ < n)
def Stp.none (s : Stp) : Bool := s.a == 0 && (s.b == 0 && (s.c == 0 && (s.d == 0 && true)))
def rightS (s : Stp) (n : Int) (last : Bool) : Bool :=
  if (s.op != 1) && !s.none then false
  else if s.op == 1 then (s.x == 0 && s.y == 0) && !last
  else if s.op == 2 then inR n s.x && inR n s.y
  else if s.op == 3 then inR n s.x && s.y == 0
  else (s.op == 4 && s.x == 0) && s.y == 0
section
variable (σ : St)
def pcheck (ys : List Stp) : Bool :=
  if decide ((ys.length : Int) < 1) then false else if decide ((40 : Int) < ys.length) then false
  else !((ys.take (ys.length - 1)).any fun s => !rightS s ys.length false) && (match ys[ys.length - 1]? with | some s => rightS s ys.length true | none => false)
end
end Go.Proofs.Ytoadgajhkhejiaa
namespace Go.Proofs.Ytoadgajhkhejiaa
open Go Go.Ab
set_option maxRecDepth 100000
abbrev W (b : BitVec 64) : AV := U (b.toNat : Int)
end Go.Proofs.Ytoadgajhkhejiaa
namespace Go.Proofs.Ytoadgajhkhejiaa
open Go Go.Ab
set_option maxRecDepth 100000
namespace Rex
mutual
def lay : Nat → Rex → List Stp
  | n, .mk op a b c d ks =>
    if op == 1 then [⟨1, a, b, c, d, 0, 0⟩]
    else if op == 2 then layL n ks
    else if op == 3 then layW n ((n + (layW n 0 ks).length : Nat) : Int) ks
    else if op == 4 then ⟨2, 0, 0, 0, 0, (n : Int) + 1, ((n + 2 + (layH (n + 1) ks).length : Nat) : Int)⟩ :: (layH (n + 1) ks ++ [⟨3, 0, 0, 0, 0, (n : Int), 0⟩])
    else if op == 5 then layH n ks ++ [⟨2, 0, 0, 0, 0, (n : Int), ((n + (layH n ks).length : Nat) : Int) + 1⟩]
    else if op == 6 then ⟨2, 0, 0, 0, 0, (n : Int) + 1, ((n + 1 + (layH (n + 1) ks).length : Nat) : Int)⟩ :: layH (n + 1) ks
    else []
def layL : Nat → List Rex → List Stp
  | _, [] => []
  | n, x :: xs => lay n x ++ layL (n + (lay n x).length) xs
def layH : Nat → List Rex → List Stp
  | _, [] => []
  | n, x :: _ => lay n x
def layW : Nat → Int → List Rex → List Stp
  | _, _, [] => []
  | n, fin, x :: xs => if xs.isEmpty then lay n x else
      ⟨2, 0, 0, 0, 0, (n : Int) + 1, ((n + 2 + (lay (n + 1) x).length : Nat) : Int)⟩ :: (lay (n + 1) x ++ (⟨3, 0, 0, 0, 0, fin, 0⟩ :: layW (n + 2 + (lay (n + 1) x).length) fin xs))
end
end Rex
end Go.Proofs.Ytoadgajhkhejiaa
namespace Go.Proofs.Ytoadgajhkhejiaa
open Go Go.Ab
set_option maxRecDepth 100000
open Rex
def rowV (k : Nat) (L : List AV) : AV := if L.isEmpty then .nils else .osl k L.length
def rowS (sz : Nat) (A : St) (L : List AV) (E : St) : St := if L.isEmpty then A ++ E else A ++ .row sz L :: E
theorem rowV_ne {k : Nat} {L : List AV} (h : L ≠ []) : rowV k L = .osl k L.length := by simp [rowV, h]
theorem rowS_ne {sz : Nat} {A E : St} {L : List AV} (h : L ≠ []) : rowS sz A L E = A ++ .row sz L :: E := by simp [rowS, h]
abbrev sv (l : List Stp) : List AV := l.map Stp.av
theorem sv_ne {l : List Stp} (h : l ≠ []) : sv l ≠ [] := by simpa [sv] using h
def Lays (x : Rex) : Prop := ∀ (ls : List Stp) (A E : St), (ls = [] → E = []) → (ls.length : Int) + x.size ≤ 1000 →
  Ans Try.prog 112 [rowV A.length (sv ls), x.av] (rowS 7 A (sv ls) E) (rowV A.length (sv (ls ++ lay ls.length x))) (rowS 7 A (sv (ls ++ lay ls.length x)) E)
theorem Lays.own {x : Rex} (h : Lays x) (ls : List Stp) (A E : St) (hne : ls ≠ []) (hb : (ls.length : Int) + x.size ≤ 1000) :
    Ans Try.prog 112 [.osl A.length ls.length, x.av] (A ++ .row 7 (sv ls) :: E) (.osl A.length (ls.length + (lay ls.length x).length)) (A ++ .row 7 (sv (ls ++ lay ls.length x)) :: E) := by
  have := h ls A E (fun e => absurd e hne) hb
  rw [rowV_ne (sv_ne hne), rowS_ne (sv_ne hne), rowV_ne (sv_ne (by simp [hne])), rowS_ne (sv_ne (by simp [hne]))] at this
  simpa [sv] using this
end Go.Proofs.Ytoadgajhkhejiaa
namespace Go.Proofs.Ytoadgajhkhejiaa
open Go Go.Ab
set_option maxRecDepth 100000
open Rex
theorem w1 : IntKind.i64.wrap 1 = 1 := by decide
end Go.Proofs.Ytoadgajhkhejiaa
