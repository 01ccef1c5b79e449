/- The functions and the externs that the evaluator may run. No condition. -/
import Derived.Test.YtgnoebkcephdmabGreatZCode1
import Derived.Test.YtgnoebkcephdmabGreatZCode2
import Derived.Test.YtgnoebkcephdmabGreatAbEval
import Derived.Laws.Externs
namespace Go.Proofs.YtgnoebkcephdmabGreat
open Go Go.Ab

theorem ext1_ok (f : FuncId) (fn : Func) (hf : Tryz.prog.funcs[f]? = some fn) (hname : (fn.name == "runtime.NumGoroutine") = false) (hb : fn.body.isNone = true) (hn : Extern.findNext fn = none)
    (e : Array Value → Sem Value) (he : Extern.find fn = some e) (g : Value → Option Value) (hg : ∀ v r w, g v = some r → (e #[v]).run Tryz.prog w = .ok r w)
    (args : List AV) (σ : St) (r : AV) (σ' : St) (h : (match args with | [.pl v] => (g v).map fun r => (AV.pl r, σ) | _ => none) = some (r, σ')) : Ans Tryz.prog f args σ r σ' := by
  split at h
  · rename_i v
    obtain ⟨q, hq, h⟩ := opt_map_some h
    simp only [Prod.mk.injEq] at h
    obtain ⟨rfl, rfl⟩ := h
    intro M ν w vs gd hvs
    refine .inr ⟨q, w, ?_, M, ν, gd, .refl, .pl _⟩
    obtain ⟨hl, hr⟩ := hvs
    match vs, hl with
    | [a], _ =>
      have h0 := hr 0 (by simp) (by simp)
      simp only [List.getElem_cons_zero] at h0
      cases h0
      rw [run_callFunc_extern hf hname hb hn he]
      rw [show ([v].toArray) = #[v] from rfl, hg v q w hq]
      rfl
  · simp at h

def bitsG : Value → Option Value
  | .float .f64 b => some (.int .u64 b)
  | _ => none
theorem bitsG_ok (v r : Value) (w : World) (h : bitsG v = some r) : (Extern.MathFloatBits.float64bits #[v]).run Tryz.prog w = .ok r w := by
  unfold bitsG at h
  split at h <;> simp at h
  subst h; rfl
def ext_bits : Ext Tryz.prog := ⟨56, fun args σ => match args with | [.pl v] => (bitsG v).map fun r => (AV.pl r, σ) | _ => none,
  ext1_ok 56 Tryz.f56 (by kernel_rfl) (by kernel_rfl) (by kernel_rfl) (by kernel_rfl) Extern.MathFloatBits.float64bits (by kernel_rfl) bitsG bitsG_ok⟩

def frombitsG : Value → Option Value
  | .int .u64 n => some (.float .f64 n.toNat)
  | _ => none
theorem frombitsG_ok (v r : Value) (w : World) (h : frombitsG v = some r) : (Extern.MathFloatBits.float64frombits #[v]).run Tryz.prog w = .ok r w := by
  unfold frombitsG at h
  split at h <;> simp at h
  subst h; rfl
def ext_frombits : Ext Tryz.prog := ⟨67, fun args σ => match args with | [.pl v] => (frombitsG v).map fun r => (AV.pl r, σ) | _ => none,
  ext1_ok 67 Tryz.f67 (by kernel_rfl) (by kernel_rfl) (by kernel_rfl) (by kernel_rfl) Extern.MathFloatBits.float64frombits (by kernel_rfl) frombitsG frombitsG_ok⟩

theorem cmp_ok (args : List AV) (σ : St) (r : AV) (σ' : St) (h : (match args with
  | [.pl (.string a), .pl (.string b)] => some (AV.pl (.int .i64 (Extern.BytealgCompare.cmp a b)), σ)
  | _ => none) = some (r, σ')) : Ans Tryz.prog 91 args σ r σ' := by
  split at h
  · rename_i s c
    simp only [Option.some.injEq, Prod.mk.injEq] at h
    obtain ⟨rfl, rfl⟩ := h
    intro M ν w vs g hvs
    refine .inr ⟨_, w, ?_, M, ν, g, .refl, .pl _⟩
    obtain ⟨hl, hr⟩ := hvs
    match vs, hl with
    | [a, b], _ =>
      have h0 := hr 0 (by simp) (by simp)
      have h1 := hr 1 (by simp) (by simp)
      simp only [List.getElem_cons_zero, List.getElem_cons_succ] at h0 h1
      cases h0; cases h1
      rw [run_callFunc_extern (e := Extern.BytealgCompare.compare) (P := Tryz.prog) (f := 91) (fn := Tryz.f91) (by kernel_rfl) (by kernel_rfl) (by kernel_rfl) (by kernel_rfl) (by kernel_rfl)]
      rfl
  · simp at h

def ext_cmp : Ext Tryz.prog := ⟨91, fun args σ => match args with
  | [.pl (.string a), .pl (.string b)] => some (.pl (.int .i64 (Extern.BytealgCompare.cmp a b)), σ)
  | _ => none, cmp_ok⟩

theorem idx_ok (args : List AV) (σ : St) (r : AV) (σ' : St) (h : (match args with
  | [.pl (.string s), .pl (.int .u8 c)] => some (AV.pl (.int .i64 (firstIdx s c.toNat.toUInt8)), σ)
  | _ => none) = some (r, σ')) : Ans Tryz.prog 105 args σ r σ' := by
  split at h
  · rename_i s c
    simp only [Option.some.injEq, Prod.mk.injEq] at h
    obtain ⟨rfl, rfl⟩ := h
    intro M ν w vs g hvs
    refine .inr ⟨_, w, ?_, M, ν, g, .refl, .pl _⟩
    obtain ⟨hl, hr⟩ := hvs
    match vs, hl with
    | [a, b], _ =>
      have h0 := hr 0 (by simp) (by simp)
      have h1 := hr 1 (by simp) (by simp)
      simp only [List.getElem_cons_zero, List.getElem_cons_succ] at h0 h1
      cases h0; cases h1
      rw [run_callFunc_extern (e := Extern.BytealgIndexByte.indexByte) (P := Tryz.prog) (f := 105) (fn := Tryz.f105) (by kernel_rfl) (by kernel_rfl) (by kernel_rfl) (by kernel_rfl) (by kernel_rfl)]
      have := run_indexByte_string (P := Tryz.prog) s c w
      rw [this]
      rfl
  · simp at h

def ext_idx : Ext Tryz.prog := ⟨105, fun args σ => match args with
  | [.pl (.string s), .pl (.int .u8 c)] => some (.pl (.int .i64 (firstIdx s c.toNat.toUInt8)), σ)
  | _ => none, idx_ok⟩

def extF : List (Ext Tryz.prog) := [ext_bits, ext_frombits, ext_cmp, ext_idx]

def allF : List (Fun Tryz.prog) := [⟨2, o2, c2, r2, 1, t2⟩, ⟨3, o3, c3, r3, 37, t3⟩, ⟨4, o4, c4, r4, 43, t4⟩, ⟨5, o5, c5, r5, 68, t5⟩, ⟨6, o6, c6, r6, 6, t6⟩, ⟨7, o7, c7, r7, 15, t7⟩, ⟨8, o8, c8, r8, 69, t8⟩, ⟨9, o9, c9, r9, 12, t9⟩, ⟨10, o10, c10, r10, 76, t10⟩, ⟨11, o11, c11, r11, 31, t11⟩, ⟨12, o12, c12, r12, 13, t12⟩, ⟨13, o13, c13, r13, 19, t13⟩, ⟨14, o14, c14, r14, 23, t14⟩, ⟨15, o15, c15, r15, 44, t15⟩, ⟨16, o16, c16, r16, 9, t16⟩, ⟨17, o17, c17, r17, 12, t17⟩, ⟨18, o18, c18, r18, 36, t18⟩, ⟨19, o19, c19, r19, 7, t19⟩, ⟨20, o20, c20, r20, 26, t20⟩, ⟨21, o21, c21, r21, 19, t21⟩, ⟨22, o22, c22, r22, 32, t22⟩, ⟨23, o23, c23, r23, 22, t23⟩, ⟨24, o24, c24, r24, 24, t24⟩, ⟨25, o25, c25, r25, 78, t25⟩, ⟨26, o26, c26, r26, 9, t26⟩, ⟨27, o27, c27, r27, 29, t27⟩, ⟨28, o28, c28, r28, 34, t28⟩, ⟨29, o29, c29, r29, 36, t29⟩, ⟨30, o30, c30, r30, 37, t30⟩, ⟨31, o31, c31, r31, 17, t31⟩, ⟨32, o32, c32, r32, 43, t32⟩, ⟨33, o33, c33, r33, 24, t33⟩, ⟨34, o34, c34, r34, 40, t34⟩, ⟨35, o35, c35, r35, 24, t35⟩, ⟨36, o36, c36, r36, 40, t36⟩, ⟨37, o37, c37, r37, 48, t37⟩, ⟨38, o38, c38, r38, 9, t38⟩, ⟨39, o39, c39, r39, 6, t39⟩, ⟨40, o40, c40, r40, 20, t40⟩, ⟨41, o41, c41, r41, 10, t41⟩, ⟨42, o42, c42, r42, 44, t42⟩, ⟨43, o43, c43, r43, 27, t43⟩, ⟨44, o44, c44, r44, 33, t44⟩, ⟨45, o45, c45, r45, 22, t45⟩, ⟨46, o46, c46, r46, 7, t46⟩, ⟨47, o47, c47, r47, 15, t47⟩, ⟨48, o48, c48, r48, 20, t48⟩, ⟨49, o49, c49, r49, 19, t49⟩, ⟨50, o50, c50, r50, 8, t50⟩, ⟨51, o51, c51, r51, 11, t51⟩, ⟨52, o52, c52, r52, 61, t52⟩, ⟨53, o53, c53, r53, 32, t53⟩, ⟨54, o54, c54, r54, 22, t54⟩, ⟨55, o55, c55, r55, 6, t55⟩, ⟨57, o57, c57, r57, 12, t57⟩, ⟨58, o58, c58, r58, 16, t58⟩, ⟨59, o59, c59, r59, 134, t59⟩, ⟨60, o60, c60, r60, 8, t60⟩, ⟨61, o61, c61, r61, 41, t61⟩, ⟨62, o62, c62, r62, 11, t62⟩, ⟨63, o63, c63, r63, 29, t63⟩, ⟨64, o64, c64, r64, 18, t64⟩, ⟨65, o65, c65, r65, 8, t65⟩, ⟨66, o66, c66, r66, 20, t66⟩, ⟨68, o68, c68, r68, 24, t68⟩, ⟨69, o69, c69, r69, 49, t69⟩, ⟨70, o70, c70, r70, 56, t70⟩, ⟨71, o71, c71, r71, 65, t71⟩, ⟨72, o72, c72, r72, 57, t72⟩, ⟨73, o73, c73, r73, 32, t73⟩, ⟨74, o74, c74, r74, 133, t74⟩, ⟨75, o75, c75, r75, 17, t75⟩, ⟨76, o76, c76, r76, 84, t76⟩, ⟨77, o77, c77, r77, 168, t77⟩, ⟨78, o78, c78, r78, 19, t78⟩, ⟨79, o79, c79, r79, 25, t79⟩, ⟨80, o80, c80, r80, 21, t80⟩, ⟨81, o81, c81, r81, 26, t81⟩, ⟨82, o82, c82, r82, 8, t82⟩, ⟨83, o83, c83, r83, 6, t83⟩, ⟨84, o84, c84, r84, 76, t84⟩, ⟨85, o85, c85, r85, 7, t85⟩, ⟨86, o86, c86, r86, 33, t86⟩, ⟨87, o87, c87, r87, 15, t87⟩, ⟨88, o88, c88, r88, 36, t88⟩, ⟨89, o89, c89, r89, 33, t89⟩, ⟨90, o90, c90, r90, 16, t90⟩, ⟨92, o92, c92, r92, 28, t92⟩, ⟨93, o93, c93, r93, 19, t93⟩, ⟨94, o94, c94, r94, 21, t94⟩, ⟨95, o95, c95, r95, 28, t95⟩, ⟨96, o96, c96, r96, 78, t96⟩, ⟨97, o97, c97, r97, 25, t97⟩, ⟨98, o98, c98, r98, 68, t98⟩, ⟨99, o99, c99, r99, 15, t99⟩, ⟨100, o100, c100, r100, 16, t100⟩, ⟨101, o101, c101, r101, 19, t101⟩, ⟨102, o102, c102, r102, 8, t102⟩, ⟨103, o103, c103, r103, 23, t103⟩, ⟨104, o104, c104, r104, 8, t104⟩]

end Go.Proofs.YtgnoebkcephdmabGreat
