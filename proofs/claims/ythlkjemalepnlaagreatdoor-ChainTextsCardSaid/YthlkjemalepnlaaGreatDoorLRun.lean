/- The functions and the externs that the evaluator may run. No condition. -/
import Derived.Test.YthlkjemalepnlaaGreatDoorLCode1
import Derived.Test.YthlkjemalepnlaaGreatDoorLCode2
import Derived.Test.YthlkjemalepnlaaGreatDoorAbEval
import Derived.Laws.Externs
namespace Go.Proofs.YthlkjemalepnlaaGreatDoor
open Go Go.Ab

theorem ext1_ok (f : FuncId) (fn : Func) (hf : Tryz.prog.funcs[f]? = some fn) (hname : (fn.name == "runtime.NumGoroutine") = false) (hb : fn.body.isNone = true) (hn : Extern.findNext fn = none)
    (e : Array Value → Sem Value) (he : Extern.find fn = some e) (g : Value → Option Value) (hg : ∀ v r w, g v = some r → (e #[v]).run Tryz.prog w = .ok r w)
    (args : List AV) (σ : St) (r : AV) (σ' : St) (h : (match args with | [.pl v] => (g v).map fun r => (AV.pl r, σ) | _ => none) = some (r, σ')) : Ans Tryz.prog f args σ r σ' := by
  split at h
  · rename_i v
    obtain ⟨q, hq, h⟩ := opt_map_some h
    simp only [Prod.mk.injEq] at h
    obtain ⟨rfl, rfl⟩ := h
    intro M ν w vs gd hvs
    refine .inr ⟨q, w, ?_, M, ν, gd, .refl, .pl _⟩
    obtain ⟨hl, hr⟩ := hvs
    match vs, hl with
    | [a], _ =>
      have h0 := hr 0 (by simp) (by simp)
      simp only [List.getElem_cons_zero] at h0
      cases h0
      rw [run_callFunc_extern hf hname hb hn he]
      rw [show ([v].toArray) = #[v] from rfl, hg v q w hq]
      rfl
  · simp at h

def frombitsG : Value → Option Value
  | .int .u64 n => some (.float .f64 n.toNat)
  | _ => none
theorem frombitsG_ok (v r : Value) (w : World) (h : frombitsG v = some r) : (Extern.MathFloatBits.float64frombits #[v]).run Tryz.prog w = .ok r w := by
  unfold frombitsG at h
  split at h <;> simp at h
  subst h; rfl
def ext_frombits : Ext Tryz.prog := ⟨66, fun args σ => match args with | [.pl v] => (frombitsG v).map fun r => (AV.pl r, σ) | _ => none,
  ext1_ok 66 Tryz.f66 (by kernel_rfl) (by kernel_rfl) (by kernel_rfl) (by kernel_rfl) Extern.MathFloatBits.float64frombits (by kernel_rfl) frombitsG frombitsG_ok⟩

def bitsG : Value → Option Value
  | .float .f64 b => some (.int .u64 b)
  | _ => none
theorem bitsG_ok (v r : Value) (w : World) (h : bitsG v = some r) : (Extern.MathFloatBits.float64bits #[v]).run Tryz.prog w = .ok r w := by
  unfold bitsG at h
  split at h <;> simp at h
  subst h; rfl
def ext_bits : Ext Tryz.prog := ⟨76, fun args σ => match args with | [.pl v] => (bitsG v).map fun r => (AV.pl r, σ) | _ => none,
  ext1_ok 76 Tryz.f76 (by kernel_rfl) (by kernel_rfl) (by kernel_rfl) (by kernel_rfl) Extern.MathFloatBits.float64bits (by kernel_rfl) bitsG bitsG_ok⟩

theorem cmp_ok (args : List AV) (σ : St) (r : AV) (σ' : St) (h : (match args with
  | [.pl (.string a), .pl (.string b)] => some (AV.pl (.int .i64 (Extern.BytealgCompare.cmp a b)), σ)
  | _ => none) = some (r, σ')) : Ans Tryz.prog 92 args σ r σ' := by
  split at h
  · rename_i s c
    simp only [Option.some.injEq, Prod.mk.injEq] at h
    obtain ⟨rfl, rfl⟩ := h
    intro M ν w vs g hvs
    refine .inr ⟨_, w, ?_, M, ν, g, .refl, .pl _⟩
    obtain ⟨hl, hr⟩ := hvs
    match vs, hl with
    | [a, b], _ =>
      have h0 := hr 0 (by simp) (by simp)
      have h1 := hr 1 (by simp) (by simp)
      simp only [List.getElem_cons_zero, List.getElem_cons_succ] at h0 h1
      cases h0; cases h1
      rw [run_callFunc_extern (e := Extern.BytealgCompare.compare) (P := Tryz.prog) (f := 92) (fn := Tryz.f92) (by kernel_rfl) (by kernel_rfl) (by kernel_rfl) (by kernel_rfl) (by kernel_rfl)]
      rfl
  · simp at h

def ext_cmp : Ext Tryz.prog := ⟨92, fun args σ => match args with
  | [.pl (.string a), .pl (.string b)] => some (.pl (.int .i64 (Extern.BytealgCompare.cmp a b)), σ)
  | _ => none, cmp_ok⟩

theorem idx_ok (args : List AV) (σ : St) (r : AV) (σ' : St) (h : (match args with
  | [.pl (.string s), .pl (.int .u8 c)] => some (AV.pl (.int .i64 (firstIdx s c.toNat.toUInt8)), σ)
  | _ => none) = some (r, σ')) : Ans Tryz.prog 105 args σ r σ' := by
  split at h
  · rename_i s c
    simp only [Option.some.injEq, Prod.mk.injEq] at h
    obtain ⟨rfl, rfl⟩ := h
    intro M ν w vs g hvs
    refine .inr ⟨_, w, ?_, M, ν, g, .refl, .pl _⟩
    obtain ⟨hl, hr⟩ := hvs
    match vs, hl with
    | [a, b], _ =>
      have h0 := hr 0 (by simp) (by simp)
      have h1 := hr 1 (by simp) (by simp)
      simp only [List.getElem_cons_zero, List.getElem_cons_succ] at h0 h1
      cases h0; cases h1
      rw [run_callFunc_extern (e := Extern.BytealgIndexByte.indexByte) (P := Tryz.prog) (f := 105) (fn := Tryz.f105) (by kernel_rfl) (by kernel_rfl) (by kernel_rfl) (by kernel_rfl) (by kernel_rfl)]
      have := run_indexByte_string (P := Tryz.prog) s c w
      rw [this]
      rfl
  · simp at h

def ext_idx : Ext Tryz.prog := ⟨105, fun args σ => match args with
  | [.pl (.string s), .pl (.int .u8 c)] => some (.pl (.int .i64 (firstIdx s c.toNat.toUInt8)), σ)
  | _ => none, idx_ok⟩

def extF : List (Ext Tryz.prog) := [ext_frombits, ext_bits, ext_cmp, ext_idx]

def allF : List (Fun Tryz.prog) := [⟨2, o2, c2, r2, 1, t2⟩, ⟨3, o3, c3, r3, 32, t3⟩, ⟨4, o4, c4, r4, 76, t4⟩, ⟨5, o5, c5, r5, 59, t5⟩, ⟨6, o6, c6, r6, 8, t6⟩, ⟨7, o7, c7, r7, 8, t7⟩, ⟨8, o8, c8, r8, 10, t8⟩, ⟨9, o9, c9, r9, 10, t9⟩, ⟨10, o10, c10, r10, 13, t10⟩, ⟨11, o11, c11, r11, 30, t11⟩, ⟨12, o12, c12, r12, 73, t12⟩, ⟨13, o13, c13, r13, 8, t13⟩, ⟨14, o14, c14, r14, 13, t14⟩, ⟨15, o15, c15, r15, 7, t15⟩, ⟨16, o16, c16, r16, 47, t16⟩, ⟨17, o17, c17, r17, 8, t17⟩, ⟨18, o18, c18, r18, 22, t18⟩, ⟨19, o19, c19, r19, 21, t19⟩, ⟨20, o20, c20, r20, 36, t20⟩, ⟨21, o21, c21, r21, 38, t21⟩, ⟨22, o22, c22, r22, 19, t22⟩, ⟨23, o23, c23, r23, 9, t23⟩, ⟨24, o24, c24, r24, 23, t24⟩, ⟨25, o25, c25, r25, 8, t25⟩, ⟨26, o26, c26, r26, 40, t26⟩, ⟨27, o27, c27, r27, 22, t27⟩, ⟨28, o28, c28, r28, 2, t28⟩, ⟨29, o29, c29, r29, 189, t29⟩, ⟨30, o30, c30, r30, 27, t30⟩, ⟨31, o31, c31, r31, 45, t31⟩, ⟨32, o32, c32, r32, 114, t32⟩, ⟨33, o33, c33, r33, 14, t33⟩, ⟨34, o34, c34, r34, 13, t34⟩, ⟨35, o35, c35, r35, 89, t35⟩, ⟨36, o36, c36, r36, 17, t36⟩, ⟨37, o37, c37, r37, 6, t37⟩, ⟨38, o38, c38, r38, 25, t38⟩, ⟨39, o39, c39, r39, 93, t39⟩, ⟨40, o40, c40, r40, 12, t40⟩, ⟨41, o41, c41, r41, 15, t41⟩, ⟨42, o42, c42, r42, 31, t42⟩, ⟨43, o43, c43, r43, 7, t43⟩, ⟨44, o44, c44, r44, 26, t44⟩, ⟨45, o45, c45, r45, 22, t45⟩, ⟨46, o46, c46, r46, 24, t46⟩, ⟨47, o47, c47, r47, 40, t47⟩, ⟨48, o48, c48, r48, 24, t48⟩, ⟨49, o49, c49, r49, 40, t49⟩, ⟨50, o50, c50, r50, 24, t50⟩, ⟨51, o51, c51, r51, 44, t51⟩, ⟨52, o52, c52, r52, 24, t52⟩, ⟨53, o53, c53, r53, 37, t53⟩, ⟨54, o54, c54, r54, 12, t54⟩, ⟨55, o55, c55, r55, 16, t55⟩, ⟨56, o56, c56, r56, 22, t56⟩, ⟨57, o57, c57, r57, 12, t57⟩, ⟨58, o58, c58, r58, 36, t58⟩, ⟨59, o59, c59, r59, 43, t59⟩, ⟨60, o60, c60, r60, 48, t60⟩, ⟨61, o61, c61, r61, 33, t61⟩, ⟨62, o62, c62, r62, 15, t62⟩, ⟨63, o63, c63, r63, 20, t63⟩, ⟨64, o64, c64, r64, 65, t64⟩, ⟨65, o65, c65, r65, 46, t65⟩, ⟨67, o67, c67, r67, 7, t67⟩, ⟨68, o68, c68, r68, 24, t68⟩, ⟨69, o69, c69, r69, 100, t69⟩, ⟨70, o70, c70, r70, 89, t70⟩, ⟨71, o71, c71, r71, 32, t71⟩, ⟨72, o72, c72, r72, 22, t72⟩, ⟨73, o73, c73, r73, 41, t73⟩, ⟨74, o74, c74, r74, 11, t74⟩, ⟨75, o75, c75, r75, 6, t75⟩, ⟨77, o77, c77, r77, 16, t77⟩, ⟨78, o78, c78, r78, 24, t78⟩, ⟨79, o79, c79, r79, 6, t79⟩, ⟨80, o80, c80, r80, 11, t80⟩, ⟨81, o81, c81, r81, 11, t81⟩, ⟨82, o82, c82, r82, 29, t82⟩, ⟨83, o83, c83, r83, 18, t83⟩, ⟨84, o84, c84, r84, 8, t84⟩, ⟨85, o85, c85, r85, 20, t85⟩, ⟨86, o86, c86, r86, 21, t86⟩, ⟨87, o87, c87, r87, 26, t87⟩, ⟨88, o88, c88, r88, 8, t88⟩, ⟨89, o89, c89, r89, 6, t89⟩, ⟨90, o90, c90, r90, 33, t90⟩, ⟨91, o91, c91, r91, 16, t91⟩, ⟨93, o93, c93, r93, 19, t93⟩, ⟨94, o94, c94, r94, 21, t94⟩, ⟨95, o95, c95, r95, 28, t95⟩, ⟨96, o96, c96, r96, 78, t96⟩, ⟨97, o97, c97, r97, 25, t97⟩, ⟨98, o98, c98, r98, 68, t98⟩, ⟨99, o99, c99, r99, 15, t99⟩, ⟨100, o100, c100, r100, 16, t100⟩, ⟨101, o101, c101, r101, 19, t101⟩, ⟨102, o102, c102, r102, 8, t102⟩, ⟨103, o103, c103, r103, 23, t103⟩, ⟨104, o104, c104, r104, 8, t104⟩, ⟨126, o126, c126, r126, 2, t126⟩]

end Go.Proofs.YthlkjemalepnlaaGreatDoor
