/- The functions and the externs that the evaluator may run. No condition. -/
import Derived.Test.YtgnoebkcephdmaaDoorDCode1
import Derived.Test.YtgnoebkcephdmaaDoorDCode2
import Derived.Test.YtgnoebkcephdmaaDoorAbEval
import Derived.Laws.Externs
namespace Go.Proofs.YtgnoebkcephdmaaDoor
open Go Go.Ab

theorem ext1_ok (f : FuncId) (fn : Func) (hf : Tryd.prog.funcs[f]? = some fn) (hname : (fn.name == "runtime.NumGoroutine") = false) (hb : fn.body.isNone = true) (hn : Extern.findNext fn = none)
    (e : Array Value → Sem Value) (he : Extern.find fn = some e) (g : Value → Option Value) (hg : ∀ v r w, g v = some r → (e #[v]).run Tryd.prog w = .ok r w)
    (args : List AV) (σ : St) (r : AV) (σ' : St) (h : (match args with | [.pl v] => (g v).map fun r => (AV.pl r, σ) | _ => none) = some (r, σ')) : Ans Tryd.prog f args σ r σ' := by
  split at h
  · rename_i v
    obtain ⟨q, hq, h⟩ := opt_map_some h
    simp only [Prod.mk.injEq] at h
    obtain ⟨rfl, rfl⟩ := h
    intro M ν w vs gd hvs
    refine .inr ⟨q, w, ?_, M, ν, gd, .refl, .pl _⟩
    obtain ⟨hl, hr⟩ := hvs
    match vs, hl with
    | [a], _ =>
      have h0 := hr 0 (by simp) (by simp)
      simp only [List.getElem_cons_zero] at h0
      cases h0
      rw [run_callFunc_extern hf hname hb hn he]
      rw [show ([v].toArray) = #[v] from rfl, hg v q w hq]
      rfl
  · simp at h

def frombitsG : Value → Option Value
  | .int .u64 n => some (.float .f64 n.toNat)
  | _ => none
theorem frombitsG_ok (v r : Value) (w : World) (h : frombitsG v = some r) : (Extern.MathFloatBits.float64frombits #[v]).run Tryd.prog w = .ok r w := by
  unfold frombitsG at h
  split at h <;> simp at h
  subst h; rfl
def ext_frombits : Ext Tryd.prog := ⟨68, fun args σ => match args with | [.pl v] => (frombitsG v).map fun r => (AV.pl r, σ) | _ => none,
  ext1_ok 68 Tryd.f68 (by kernel_rfl) (by kernel_rfl) (by kernel_rfl) (by kernel_rfl) Extern.MathFloatBits.float64frombits (by kernel_rfl) frombitsG frombitsG_ok⟩

def bitsG : Value → Option Value
  | .float .f64 b => some (.int .u64 b)
  | _ => none
theorem bitsG_ok (v r : Value) (w : World) (h : bitsG v = some r) : (Extern.MathFloatBits.float64bits #[v]).run Tryd.prog w = .ok r w := by
  unfold bitsG at h
  split at h <;> simp at h
  subst h; rfl
def ext_bits : Ext Tryd.prog := ⟨78, fun args σ => match args with | [.pl v] => (bitsG v).map fun r => (AV.pl r, σ) | _ => none,
  ext1_ok 78 Tryd.f78 (by kernel_rfl) (by kernel_rfl) (by kernel_rfl) (by kernel_rfl) Extern.MathFloatBits.float64bits (by kernel_rfl) bitsG bitsG_ok⟩

theorem cmp_ok (args : List AV) (σ : St) (r : AV) (σ' : St) (h : (match args with
  | [.pl (.string a), .pl (.string b)] => some (AV.pl (.int .i64 (Extern.BytealgCompare.cmp a b)), σ)
  | _ => none) = some (r, σ')) : Ans Tryd.prog 94 args σ r σ' := by
  split at h
  · rename_i s c
    simp only [Option.some.injEq, Prod.mk.injEq] at h
    obtain ⟨rfl, rfl⟩ := h
    intro M ν w vs g hvs
    refine .inr ⟨_, w, ?_, M, ν, g, .refl, .pl _⟩
    obtain ⟨hl, hr⟩ := hvs
    match vs, hl with
    | [a, b], _ =>
      have h0 := hr 0 (by simp) (by simp)
      have h1 := hr 1 (by simp) (by simp)
      simp only [List.getElem_cons_zero, List.getElem_cons_succ] at h0 h1
      cases h0; cases h1
      rw [run_callFunc_extern (e := Extern.BytealgCompare.compare) (P := Tryd.prog) (f := 94) (fn := Tryd.f94) (by kernel_rfl) (by kernel_rfl) (by kernel_rfl) (by kernel_rfl) (by kernel_rfl)]
      rfl
  · simp at h

def ext_cmp : Ext Tryd.prog := ⟨94, fun args σ => match args with
  | [.pl (.string a), .pl (.string b)] => some (.pl (.int .i64 (Extern.BytealgCompare.cmp a b)), σ)
  | _ => none, cmp_ok⟩

theorem idx_ok (args : List AV) (σ : St) (r : AV) (σ' : St) (h : (match args with
  | [.pl (.string s), .pl (.int .u8 c)] => some (AV.pl (.int .i64 (firstIdx s c.toNat.toUInt8)), σ)
  | _ => none) = some (r, σ')) : Ans Tryd.prog 107 args σ r σ' := by
  split at h
  · rename_i s c
    simp only [Option.some.injEq, Prod.mk.injEq] at h
    obtain ⟨rfl, rfl⟩ := h
    intro M ν w vs g hvs
    refine .inr ⟨_, w, ?_, M, ν, g, .refl, .pl _⟩
    obtain ⟨hl, hr⟩ := hvs
    match vs, hl with
    | [a, b], _ =>
      have h0 := hr 0 (by simp) (by simp)
      have h1 := hr 1 (by simp) (by simp)
      simp only [List.getElem_cons_zero, List.getElem_cons_succ] at h0 h1
      cases h0; cases h1
      rw [run_callFunc_extern (e := Extern.BytealgIndexByte.indexByte) (P := Tryd.prog) (f := 107) (fn := Tryd.f107) (by kernel_rfl) (by kernel_rfl) (by kernel_rfl) (by kernel_rfl) (by kernel_rfl)]
      have := run_indexByte_string (P := Tryd.prog) s c w
      rw [this]
      rfl
  · simp at h

def ext_idx : Ext Tryd.prog := ⟨107, fun args σ => match args with
  | [.pl (.string s), .pl (.int .u8 c)] => some (.pl (.int .i64 (firstIdx s c.toNat.toUInt8)), σ)
  | _ => none, idx_ok⟩

def extF : List (Ext Tryd.prog) := [ext_frombits, ext_bits, ext_cmp, ext_idx]

def allF : List (Fun Tryd.prog) := [⟨2, o2, c2, r2, 1, t2⟩, ⟨3, o3, c3, r3, 59, t3⟩, ⟨4, o4, c4, r4, 41, t4⟩, ⟨5, o5, c5, r5, 13, t5⟩, ⟨6, o6, c6, r6, 30, t6⟩, ⟨7, o7, c7, r7, 73, t7⟩, ⟨8, o8, c8, r8, 8, t8⟩, ⟨9, o9, c9, r9, 13, t9⟩, ⟨10, o10, c10, r10, 7, t10⟩, ⟨11, o11, c11, r11, 47, t11⟩, ⟨12, o12, c12, r12, 8, t12⟩, ⟨13, o13, c13, r13, 24, t13⟩, ⟨14, o14, c14, r14, 70, t14⟩, ⟨15, o15, c15, r15, 38, t15⟩, ⟨16, o16, c16, r16, 8, t16⟩, ⟨17, o17, c17, r17, 19, t17⟩, ⟨18, o18, c18, r18, 9, t18⟩, ⟨19, o19, c19, r19, 23, t19⟩, ⟨20, o20, c20, r20, 8, t20⟩, ⟨21, o21, c21, r21, 40, t21⟩, ⟨22, o22, c22, r22, 10, t22⟩, ⟨23, o23, c23, r23, 22, t23⟩, ⟨24, o24, c24, r24, 2, t24⟩, ⟨25, o25, c25, r25, 189, t25⟩, ⟨26, o26, c26, r26, 8, t26⟩, ⟨27, o27, c27, r27, 41, t27⟩, ⟨28, o28, c28, r28, 6, t28⟩, ⟨29, o29, c29, r29, 26, t29⟩, ⟨30, o30, c30, r30, 44, t30⟩, ⟨31, o31, c31, r31, 22, t31⟩, ⟨32, o32, c32, r32, 12, t32⟩, ⟨33, o33, c33, r33, 45, t33⟩, ⟨34, o34, c34, r34, 114, t34⟩, ⟨35, o35, c35, r35, 22, t35⟩, ⟨36, o36, c36, r36, 36, t36⟩, ⟨37, o37, c37, r37, 14, t37⟩, ⟨38, o38, c38, r38, 21, t38⟩, ⟨39, o39, c39, r39, 13, t39⟩, ⟨40, o40, c40, r40, 43, t40⟩, ⟨41, o41, c41, r41, 12, t41⟩, ⟨42, o42, c42, r42, 36, t42⟩, ⟨43, o43, c43, r43, 15, t43⟩, ⟨44, o44, c44, r44, 48, t44⟩, ⟨45, o45, c45, r45, 89, t45⟩, ⟨46, o46, c46, r46, 17, t46⟩, ⟨47, o47, c47, r47, 27, t47⟩, ⟨48, o48, c48, r48, 25, t48⟩, ⟨49, o49, c49, r49, 93, t49⟩, ⟨50, o50, c50, r50, 31, t50⟩, ⟨51, o51, c51, r51, 7, t51⟩, ⟨52, o52, c52, r52, 24, t52⟩, ⟨53, o53, c53, r53, 40, t53⟩, ⟨54, o54, c54, r54, 24, t54⟩, ⟨55, o55, c55, r55, 40, t55⟩, ⟨56, o56, c56, r56, 24, t56⟩, ⟨57, o57, c57, r57, 44, t57⟩, ⟨58, o58, c58, r58, 24, t58⟩, ⟨59, o59, c59, r59, 37, t59⟩, ⟨60, o60, c60, r60, 12, t60⟩, ⟨61, o61, c61, r61, 16, t61⟩, ⟨62, o62, c62, r62, 22, t62⟩, ⟨63, o63, c63, r63, 33, t63⟩, ⟨64, o64, c64, r64, 15, t64⟩, ⟨65, o65, c65, r65, 20, t65⟩, ⟨66, o66, c66, r66, 65, t66⟩, ⟨67, o67, c67, r67, 46, t67⟩, ⟨69, o69, c69, r69, 7, t69⟩, ⟨70, o70, c70, r70, 24, t70⟩, ⟨71, o71, c71, r71, 100, t71⟩, ⟨72, o72, c72, r72, 89, t72⟩, ⟨73, o73, c73, r73, 32, t73⟩, ⟨74, o74, c74, r74, 22, t74⟩, ⟨75, o75, c75, r75, 41, t75⟩, ⟨76, o76, c76, r76, 11, t76⟩, ⟨77, o77, c77, r77, 6, t77⟩, ⟨79, o79, c79, r79, 16, t79⟩, ⟨80, o80, c80, r80, 24, t80⟩, ⟨81, o81, c81, r81, 6, t81⟩, ⟨82, o82, c82, r82, 11, t82⟩, ⟨83, o83, c83, r83, 11, t83⟩, ⟨84, o84, c84, r84, 29, t84⟩, ⟨85, o85, c85, r85, 18, t85⟩, ⟨86, o86, c86, r86, 8, t86⟩, ⟨87, o87, c87, r87, 20, t87⟩, ⟨88, o88, c88, r88, 21, t88⟩, ⟨89, o89, c89, r89, 26, t89⟩, ⟨90, o90, c90, r90, 8, t90⟩, ⟨91, o91, c91, r91, 6, t91⟩, ⟨92, o92, c92, r92, 33, t92⟩, ⟨93, o93, c93, r93, 16, t93⟩, ⟨95, o95, c95, r95, 19, t95⟩, ⟨96, o96, c96, r96, 21, t96⟩, ⟨97, o97, c97, r97, 28, t97⟩, ⟨98, o98, c98, r98, 78, t98⟩, ⟨99, o99, c99, r99, 25, t99⟩, ⟨100, o100, c100, r100, 68, t100⟩, ⟨101, o101, c101, r101, 15, t101⟩, ⟨102, o102, c102, r102, 16, t102⟩, ⟨103, o103, c103, r103, 19, t103⟩, ⟨104, o104, c104, r104, 8, t104⟩, ⟨105, o105, c105, r105, 23, t105⟩, ⟨106, o106, c106, r106, 8, t106⟩, ⟨128, o128, c128, r128, 2, t128⟩]

end Go.Proofs.YtgnoebkcephdmaaDoor
