/- The functions and the externs that the evaluator may run. No condition. -/
import Derived.Test.YtgnoebkcephdmaaTCode1
import Derived.Test.YtgnoebkcephdmaaTCode2
import Derived.Test.YtgnoebkcephdmaaAbEval
import Derived.Laws.Externs
namespace Go.Proofs.Ytgnoebkcephdmaa
open Go Go.Ab

theorem ext1_ok (f : FuncId) (fn : Func) (hf : Try.prog.funcs[f]? = some fn) (hname : (fn.name == "runtime.NumGoroutine") = false) (hb : fn.body.isNone = true) (hn : Extern.findNext fn = none)
    (e : Array Value → Sem Value) (he : Extern.find fn = some e) (g : Value → Option Value) (hg : ∀ v r w, g v = some r → (e #[v]).run Try.prog w = .ok r w)
    (args : List AV) (σ : St) (r : AV) (σ' : St) (h : (match args with | [.pl v] => (g v).map fun r => (AV.pl r, σ) | _ => none) = some (r, σ')) : Ans Try.prog f args σ r σ' := by
  split at h
  · rename_i v
    obtain ⟨q, hq, h⟩ := opt_map_some h
    simp only [Prod.mk.injEq] at h
    obtain ⟨rfl, rfl⟩ := h
    intro M ν w vs gd hvs
    refine .inr ⟨q, w, ?_, M, ν, gd, .refl, .pl _⟩
    obtain ⟨hl, hr⟩ := hvs
    match vs, hl with
    | [a], _ =>
      have h0 := hr 0 (by simp) (by simp)
      simp only [List.getElem_cons_zero] at h0
      cases h0
      rw [run_callFunc_extern hf hname hb hn he]
      rw [show ([v].toArray) = #[v] from rfl, hg v q w hq]
      rfl
  · simp at h

def bitsG : Value → Option Value
  | .float .f64 b => some (.int .u64 b)
  | _ => none
theorem bitsG_ok (v r : Value) (w : World) (h : bitsG v = some r) : (Extern.MathFloatBits.float64bits #[v]).run Try.prog w = .ok r w := by
  unfold bitsG at h
  split at h <;> simp at h
  subst h; rfl
def ext_bits : Ext Try.prog := ⟨85, fun args σ => match args with | [.pl v] => (bitsG v).map fun r => (AV.pl r, σ) | _ => none,
  ext1_ok 85 Try.f85 (by kernel_rfl) (by kernel_rfl) (by kernel_rfl) (by kernel_rfl) Extern.MathFloatBits.float64bits (by kernel_rfl) bitsG bitsG_ok⟩

def frombitsG : Value → Option Value
  | .int .u64 n => some (.float .f64 n.toNat)
  | _ => none
theorem frombitsG_ok (v r : Value) (w : World) (h : frombitsG v = some r) : (Extern.MathFloatBits.float64frombits #[v]).run Try.prog w = .ok r w := by
  unfold frombitsG at h
  split at h <;> simp at h
  subst h; rfl
def ext_frombits : Ext Try.prog := ⟨101, fun args σ => match args with | [.pl v] => (frombitsG v).map fun r => (AV.pl r, σ) | _ => none,
  ext1_ok 101 Try.f101 (by kernel_rfl) (by kernel_rfl) (by kernel_rfl) (by kernel_rfl) Extern.MathFloatBits.float64frombits (by kernel_rfl) frombitsG frombitsG_ok⟩

theorem cmp_ok (args : List AV) (σ : St) (r : AV) (σ' : St) (h : (match args with
  | [.pl (.string a), .pl (.string b)] => some (AV.pl (.int .i64 (Extern.BytealgCompare.cmp a b)), σ)
  | _ => none) = some (r, σ')) : Ans Try.prog 122 args σ r σ' := by
  split at h
  · rename_i s c
    simp only [Option.some.injEq, Prod.mk.injEq] at h
    obtain ⟨rfl, rfl⟩ := h
    intro M ν w vs g hvs
    refine .inr ⟨_, w, ?_, M, ν, g, .refl, .pl _⟩
    obtain ⟨hl, hr⟩ := hvs
    match vs, hl with
    | [a, b], _ =>
      have h0 := hr 0 (by simp) (by simp)
      have h1 := hr 1 (by simp) (by simp)
      simp only [List.getElem_cons_zero, List.getElem_cons_succ] at h0 h1
      cases h0; cases h1
      rw [run_callFunc_extern (e := Extern.BytealgCompare.compare) (P := Try.prog) (f := 122) (fn := Try.f122) (by kernel_rfl) (by kernel_rfl) (by kernel_rfl) (by kernel_rfl) (by kernel_rfl)]
      rfl
  · simp at h

def ext_cmp : Ext Try.prog := ⟨122, fun args σ => match args with
  | [.pl (.string a), .pl (.string b)] => some (.pl (.int .i64 (Extern.BytealgCompare.cmp a b)), σ)
  | _ => none, cmp_ok⟩

theorem idx_ok (args : List AV) (σ : St) (r : AV) (σ' : St) (h : (match args with
  | [.pl (.string s), .pl (.int .u8 c)] => some (AV.pl (.int .i64 (firstIdx s c.toNat.toUInt8)), σ)
  | _ => none) = some (r, σ')) : Ans Try.prog 133 args σ r σ' := by
  split at h
  · rename_i s c
    simp only [Option.some.injEq, Prod.mk.injEq] at h
    obtain ⟨rfl, rfl⟩ := h
    intro M ν w vs g hvs
    refine .inr ⟨_, w, ?_, M, ν, g, .refl, .pl _⟩
    obtain ⟨hl, hr⟩ := hvs
    match vs, hl with
    | [a, b], _ =>
      have h0 := hr 0 (by simp) (by simp)
      have h1 := hr 1 (by simp) (by simp)
      simp only [List.getElem_cons_zero, List.getElem_cons_succ] at h0 h1
      cases h0; cases h1
      rw [run_callFunc_extern (e := Extern.BytealgIndexByte.indexByte) (P := Try.prog) (f := 133) (fn := Try.f133) (by kernel_rfl) (by kernel_rfl) (by kernel_rfl) (by kernel_rfl) (by kernel_rfl)]
      have := run_indexByte_string (P := Try.prog) s c w
      rw [this]
      rfl
  · simp at h

def ext_idx : Ext Try.prog := ⟨133, fun args σ => match args with
  | [.pl (.string s), .pl (.int .u8 c)] => some (.pl (.int .i64 (firstIdx s c.toNat.toUInt8)), σ)
  | _ => none, idx_ok⟩

def extF : List (Ext Try.prog) := [ext_bits, ext_frombits, ext_cmp, ext_idx]

def allF : List (Fun Try.prog) := [⟨2, o2, c2, r2, 1, t2⟩, ⟨3, o3, c3, r3, 35, t3⟩, ⟨4, o4, c4, r4, 32, t4⟩, ⟨5, o5, c5, r5, 44, t5⟩, ⟨6, o6, c6, r6, 50, t6⟩, ⟨7, o7, c7, r7, 44, t7⟩, ⟨8, o8, c8, r8, 32, t8⟩, ⟨9, o9, c9, r9, 8, t9⟩, ⟨10, o10, c10, r10, 65, t10⟩, ⟨11, o11, c11, r11, 30, t11⟩, ⟨12, o12, c12, r12, 11, t12⟩, ⟨13, o13, c13, r13, 44, t13⟩, ⟨14, o14, c14, r14, 23, t14⟩, ⟨15, o15, c15, r15, 40, t15⟩, ⟨16, o16, c16, r16, 25, t16⟩, ⟨17, o17, c17, r17, 12, t17⟩, ⟨18, o18, c18, r18, 10, t18⟩, ⟨19, o19, c19, r19, 82, t19⟩, ⟨20, o20, c20, r20, 16, t20⟩, ⟨21, o21, c21, r21, 18, t21⟩, ⟨22, o22, c22, r22, 44, t22⟩, ⟨23, o23, c23, r23, 41, t23⟩, ⟨24, o24, c24, r24, 11, t24⟩, ⟨25, o25, c25, r25, 29, t25⟩, ⟨26, o26, c26, r26, 33, t26⟩, ⟨27, o27, c27, r27, 20, t27⟩, ⟨28, o28, c28, r28, 14, t28⟩, ⟨29, o29, c29, r29, 21, t29⟩, ⟨30, o30, c30, r30, 10, t30⟩, ⟨31, o31, c31, r31, 6, t31⟩, ⟨32, o32, c32, r32, 26, t32⟩, ⟨33, o33, c33, r33, 22, t33⟩, ⟨34, o34, c34, r34, 15, t34⟩, ⟨35, o35, c35, r35, 12, t35⟩, ⟨36, o36, c36, r36, 36, t36⟩, ⟨37, o37, c37, r37, 19, t37⟩, ⟨38, o38, c38, r38, 9, t38⟩, ⟨39, o39, c39, r39, 14, t39⟩, ⟨40, o40, c40, r40, 7, t40⟩, ⟨41, o41, c41, r41, 11, t41⟩, ⟨42, o42, c42, r42, 93, t42⟩, ⟨43, o43, c43, r43, 25, t43⟩, ⟨44, o44, c44, r44, 22, t44⟩, ⟨45, o45, c45, r45, 31, t45⟩, ⟨46, o46, c46, r46, 14, t46⟩, ⟨47, o47, c47, r47, 37, t47⟩, ⟨48, o48, c48, r48, 17, t48⟩, ⟨49, o49, c49, r49, 38, t49⟩, ⟨50, o50, c50, r50, 31, t50⟩, ⟨51, o51, c51, r51, 22, t51⟩, ⟨52, o52, c52, r52, 7, t52⟩, ⟨53, o53, c53, r53, 19, t53⟩, ⟨54, o54, c54, r54, 8, t54⟩, ⟨55, o55, c55, r55, 18, t55⟩, ⟨56, o56, c56, r56, 30, t56⟩, ⟨57, o57, c57, r57, 6, t57⟩, ⟨58, o58, c58, r58, 48, t58⟩, ⟨59, o59, c59, r59, 21, t59⟩, ⟨60, o60, c60, r60, 26, t60⟩, ⟨61, o61, c61, r61, 22, t61⟩, ⟨62, o62, c62, r62, 10, t62⟩, ⟨63, o63, c63, r63, 9, t63⟩, ⟨64, o64, c64, r64, 23, t64⟩, ⟨65, o65, c65, r65, 23, t65⟩, ⟨66, o66, c66, r66, 43, t66⟩, ⟨67, o67, c67, r67, 12, t67⟩, ⟨68, o68, c68, r68, 36, t68⟩, ⟨69, o69, c69, r69, 48, t69⟩, ⟨70, o70, c70, r70, 27, t70⟩, ⟨71, o71, c71, r71, 24, t71⟩, ⟨72, o72, c72, r72, 40, t72⟩, ⟨73, o73, c73, r73, 24, t73⟩, ⟨74, o74, c74, r74, 40, t74⟩, ⟨75, o75, c75, r75, 24, t75⟩, ⟨76, o76, c76, r76, 44, t76⟩, ⟨77, o77, c77, r77, 24, t77⟩, ⟨78, o78, c78, r78, 37, t78⟩, ⟨79, o79, c79, r79, 12, t79⟩, ⟨80, o80, c80, r80, 16, t80⟩, ⟨81, o81, c81, r81, 100, t81⟩, ⟨82, o82, c82, r82, 89, t82⟩, ⟨83, o83, c83, r83, 46, t83⟩, ⟨84, o84, c84, r84, 6, t84⟩, ⟨86, o86, c86, r86, 9, t86⟩, ⟨87, o87, c87, r87, 99, t87⟩, ⟨88, o88, c88, r88, 9, t88⟩, ⟨89, o89, c89, r89, 9, t89⟩, ⟨90, o90, c90, r90, 70, t90⟩, ⟨91, o91, c91, r91, 50, t91⟩, ⟨92, o92, c92, r92, 33, t92⟩, ⟨93, o93, c93, r93, 16, t93⟩, ⟨94, o94, c94, r94, 18, t94⟩, ⟨95, o95, c95, r95, 8, t95⟩, ⟨96, o96, c96, r96, 20, t96⟩, ⟨97, o97, c97, r97, 15, t97⟩, ⟨98, o98, c98, r98, 9, t98⟩, ⟨99, o99, c99, r99, 8, t99⟩, ⟨100, o100, c100, r100, 15, t100⟩, ⟨102, o102, c102, r102, 24, t102⟩, ⟨103, o103, c103, r103, 16, t103⟩, ⟨104, o104, c104, r104, 24, t104⟩, ⟨105, o105, c105, r105, 6, t105⟩, ⟨106, o106, c106, r106, 11, t106⟩, ⟨107, o107, c107, r107, 35, t107⟩, ⟨108, o108, c108, r108, 41, t108⟩, ⟨109, o109, c109, r109, 69, t109⟩, ⟨110, o110, c110, r110, 19, t110⟩, ⟨111, o111, c111, r111, 11, t111⟩, ⟨112, o112, c112, r112, 19, t112⟩, ⟨113, o113, c113, r113, 21, t113⟩, ⟨114, o114, c114, r114, 28, t114⟩, ⟨115, o115, c115, r115, 8, t115⟩, ⟨116, o116, c116, r116, 6, t116⟩, ⟨117, o117, c117, r117, 5, t117⟩, ⟨118, o118, c118, r118, 19, t118⟩, ⟨119, o119, c119, r119, 9, t119⟩, ⟨120, o120, c120, r120, 6, t120⟩, ⟨121, o121, c121, r121, 78, t121⟩, ⟨123, o123, c123, r123, 20, t123⟩, ⟨124, o124, c124, r124, 19, t124⟩, ⟨125, o125, c125, r125, 25, t125⟩, ⟨126, o126, c126, r126, 68, t126⟩, ⟨127, o127, c127, r127, 15, t127⟩, ⟨128, o128, c128, r128, 16, t128⟩, ⟨129, o129, c129, r129, 19, t129⟩, ⟨130, o130, c130, r130, 8, t130⟩, ⟨131, o131, c131, r131, 23, t131⟩, ⟨132, o132, c132, r132, 8, t132⟩]

end Go.Proofs.Ytgnoebkcephdmaa
