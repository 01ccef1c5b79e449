/- The functions and the externs that the evaluator may run. No condition. -/
import Derived.Test.YthlkjemalepnlaaWCode1
import Derived.Test.YthlkjemalepnlaaAbEval
import Derived.Laws.Externs
namespace Go.Proofs.Ythlkjemalepnlaa
open Go Go.Ab

theorem ext1_ok (f : FuncId) (fn : Func) (hf : Try.prog.funcs[f]? = some fn) (hname : (fn.name == "runtime.NumGoroutine") = false) (hb : fn.body.isNone = true) (hn : Extern.findNext fn = none)
    (e : Array Value → Sem Value) (he : Extern.find fn = some e) (g : Value → Option Value) (hg : ∀ v r w, g v = some r → (e #[v]).run Try.prog w = .ok r w)
    (args : List AV) (σ : St) (r : AV) (σ' : St) (h : (match args with | [.pl v] => (g v).map fun r => (AV.pl r, σ) | _ => none) = some (r, σ')) : Ans Try.prog f args σ r σ' := by
  split at h
  · rename_i v
    obtain ⟨q, hq, h⟩ := opt_map_some h
    simp only [Prod.mk.injEq] at h
    obtain ⟨rfl, rfl⟩ := h
    intro M ν w vs gd hvs
    refine .inr ⟨q, w, ?_, M, ν, gd, .refl, .pl _⟩
    obtain ⟨hl, hr⟩ := hvs
    match vs, hl with
    | [a], _ =>
      have h0 := hr 0 (by simp) (by simp)
      simp only [List.getElem_cons_zero] at h0
      cases h0
      rw [run_callFunc_extern hf hname hb hn he]
      rw [show ([v].toArray) = #[v] from rfl, hg v q w hq]
      rfl
  · simp at h

def bitsG : Value → Option Value
  | .float .f64 b => some (.int .u64 b)
  | _ => none
theorem bitsG_ok (v r : Value) (w : World) (h : bitsG v = some r) : (Extern.MathFloatBits.float64bits #[v]).run Try.prog w = .ok r w := by
  unfold bitsG at h
  split at h <;> simp at h
  subst h; rfl
def ext_bits : Ext Try.prog := ⟨54, fun args σ => match args with | [.pl v] => (bitsG v).map fun r => (AV.pl r, σ) | _ => none,
  ext1_ok 54 Try.f54 (by kernel_rfl) (by kernel_rfl) (by kernel_rfl) (by kernel_rfl) Extern.MathFloatBits.float64bits (by kernel_rfl) bitsG bitsG_ok⟩

def frombitsG : Value → Option Value
  | .int .u64 n => some (.float .f64 n.toNat)
  | _ => none
theorem frombitsG_ok (v r : Value) (w : World) (h : frombitsG v = some r) : (Extern.MathFloatBits.float64frombits #[v]).run Try.prog w = .ok r w := by
  unfold frombitsG at h
  split at h <;> simp at h
  subst h; rfl
def ext_frombits : Ext Try.prog := ⟨58, fun args σ => match args with | [.pl v] => (frombitsG v).map fun r => (AV.pl r, σ) | _ => none,
  ext1_ok 58 Try.f58 (by kernel_rfl) (by kernel_rfl) (by kernel_rfl) (by kernel_rfl) Extern.MathFloatBits.float64frombits (by kernel_rfl) frombitsG frombitsG_ok⟩

theorem cmp_ok (args : List AV) (σ : St) (r : AV) (σ' : St) (h : (match args with
  | [.pl (.string a), .pl (.string b)] => some (AV.pl (.int .i64 (Extern.BytealgCompare.cmp a b)), σ)
  | _ => none) = some (r, σ')) : Ans Try.prog 78 args σ r σ' := by
  split at h
  · rename_i s c
    simp only [Option.some.injEq, Prod.mk.injEq] at h
    obtain ⟨rfl, rfl⟩ := h
    intro M ν w vs g hvs
    refine .inr ⟨_, w, ?_, M, ν, g, .refl, .pl _⟩
    obtain ⟨hl, hr⟩ := hvs
    match vs, hl with
    | [a, b], _ =>
      have h0 := hr 0 (by simp) (by simp)
      have h1 := hr 1 (by simp) (by simp)
      simp only [List.getElem_cons_zero, List.getElem_cons_succ] at h0 h1
      cases h0; cases h1
      rw [run_callFunc_extern (e := Extern.BytealgCompare.compare) (P := Try.prog) (f := 78) (fn := Try.f78) (by kernel_rfl) (by kernel_rfl) (by kernel_rfl) (by kernel_rfl) (by kernel_rfl)]
      rfl
  · simp at h

def ext_cmp : Ext Try.prog := ⟨78, fun args σ => match args with
  | [.pl (.string a), .pl (.string b)] => some (.pl (.int .i64 (Extern.BytealgCompare.cmp a b)), σ)
  | _ => none, cmp_ok⟩

theorem idx_ok (args : List AV) (σ : St) (r : AV) (σ' : St) (h : (match args with
  | [.pl (.string s), .pl (.int .u8 c)] => some (AV.pl (.int .i64 (firstIdx s c.toNat.toUInt8)), σ)
  | _ => none) = some (r, σ')) : Ans Try.prog 91 args σ r σ' := by
  split at h
  · rename_i s c
    simp only [Option.some.injEq, Prod.mk.injEq] at h
    obtain ⟨rfl, rfl⟩ := h
    intro M ν w vs g hvs
    refine .inr ⟨_, w, ?_, M, ν, g, .refl, .pl _⟩
    obtain ⟨hl, hr⟩ := hvs
    match vs, hl with
    | [a, b], _ =>
      have h0 := hr 0 (by simp) (by simp)
      have h1 := hr 1 (by simp) (by simp)
      simp only [List.getElem_cons_zero, List.getElem_cons_succ] at h0 h1
      cases h0; cases h1
      rw [run_callFunc_extern (e := Extern.BytealgIndexByte.indexByte) (P := Try.prog) (f := 91) (fn := Try.f91) (by kernel_rfl) (by kernel_rfl) (by kernel_rfl) (by kernel_rfl) (by kernel_rfl)]
      have := run_indexByte_string (P := Try.prog) s c w
      rw [this]
      rfl
  · simp at h

def ext_idx : Ext Try.prog := ⟨91, fun args σ => match args with
  | [.pl (.string s), .pl (.int .u8 c)] => some (.pl (.int .i64 (firstIdx s c.toNat.toUInt8)), σ)
  | _ => none, idx_ok⟩

def extF : List (Ext Try.prog) := [ext_bits, ext_frombits, ext_cmp, ext_idx]

def allF : List (Fun Try.prog) := [⟨2, o2, c2, r2, 1, t2⟩, ⟨3, o3, c3, r3, 60, t3⟩, ⟨4, o4, c4, r4, 11, t4⟩, ⟨5, o5, c5, r5, 13, t5⟩, ⟨6, o6, c6, r6, 30, t6⟩, ⟨7, o7, c7, r7, 27, t7⟩, ⟨8, o8, c8, r8, 50, t8⟩, ⟨9, o9, c9, r9, 25, t9⟩, ⟨10, o10, c10, r10, 12, t10⟩, ⟨11, o11, c11, r11, 10, t11⟩, ⟨12, o12, c12, r12, 82, t12⟩, ⟨13, o13, c13, r13, 6, t13⟩, ⟨14, o14, c14, r14, 22, t14⟩, ⟨15, o15, c15, r15, 7, t15⟩, ⟨16, o16, c16, r16, 11, t16⟩, ⟨17, o17, c17, r17, 93, t17⟩, ⟨18, o18, c18, r18, 25, t18⟩, ⟨19, o19, c19, r19, 9, t19⟩, ⟨20, o20, c20, r20, 22, t20⟩, ⟨21, o21, c21, r21, 31, t21⟩, ⟨22, o22, c22, r22, 14, t22⟩, ⟨23, o23, c23, r23, 36, t23⟩, ⟨24, o24, c24, r24, 19, t24⟩, ⟨25, o25, c25, r25, 37, t25⟩, ⟨26, o26, c26, r26, 17, t26⟩, ⟨27, o27, c27, r27, 38, t27⟩, ⟨28, o28, c28, r28, 31, t28⟩, ⟨29, o29, c29, r29, 22, t29⟩, ⟨30, o30, c30, r30, 7, t30⟩, ⟨31, o31, c31, r31, 48, t31⟩, ⟨32, o32, c32, r32, 12, t32⟩, ⟨33, o33, c33, r33, 36, t33⟩, ⟨34, o34, c34, r34, 15, t34⟩, ⟨35, o35, c35, r35, 26, t35⟩, ⟨36, o36, c36, r36, 24, t36⟩, ⟨37, o37, c37, r37, 40, t37⟩, ⟨38, o38, c38, r38, 24, t38⟩, ⟨39, o39, c39, r39, 40, t39⟩, ⟨40, o40, c40, r40, 24, t40⟩, ⟨41, o41, c41, r41, 44, t41⟩, ⟨42, o42, c42, r42, 24, t42⟩, ⟨43, o43, c43, r43, 37, t43⟩, ⟨44, o44, c44, r44, 12, t44⟩, ⟨45, o45, c45, r45, 16, t45⟩, ⟨46, o46, c46, r46, 12, t46⟩, ⟨47, o47, c47, r47, 100, t47⟩, ⟨48, o48, c48, r48, 89, t48⟩, ⟨49, o49, c49, r49, 27, t49⟩, ⟨50, o50, c50, r50, 33, t50⟩, ⟨51, o51, c51, r51, 65, t51⟩, ⟨52, o52, c52, r52, 46, t52⟩, ⟨53, o53, c53, r53, 6, t53⟩, ⟨55, o55, c55, r55, 43, t55⟩, ⟨56, o56, c56, r56, 15, t56⟩, ⟨57, o57, c57, r57, 20, t57⟩, ⟨59, o59, c59, r59, 24, t59⟩, ⟨60, o60, c60, r60, 16, t60⟩, ⟨61, o61, c61, r61, 24, t61⟩, ⟨62, o62, c62, r62, 6, t62⟩, ⟨63, o63, c63, r63, 32, t63⟩, ⟨64, o64, c64, r64, 22, t64⟩, ⟨65, o65, c65, r65, 41, t65⟩, ⟨66, o66, c66, r66, 11, t66⟩, ⟨67, o67, c67, r67, 11, t67⟩, ⟨68, o68, c68, r68, 29, t68⟩, ⟨69, o69, c69, r69, 18, t69⟩, ⟨70, o70, c70, r70, 8, t70⟩, ⟨71, o71, c71, r71, 20, t71⟩, ⟨72, o72, c72, r72, 21, t72⟩, ⟨73, o73, c73, r73, 26, t73⟩, ⟨74, o74, c74, r74, 8, t74⟩, ⟨75, o75, c75, r75, 6, t75⟩, ⟨76, o76, c76, r76, 33, t76⟩, ⟨77, o77, c77, r77, 16, t77⟩, ⟨79, o79, c79, r79, 19, t79⟩, ⟨80, o80, c80, r80, 21, t80⟩, ⟨81, o81, c81, r81, 28, t81⟩, ⟨82, o82, c82, r82, 78, t82⟩, ⟨83, o83, c83, r83, 25, t83⟩, ⟨84, o84, c84, r84, 68, t84⟩, ⟨85, o85, c85, r85, 15, t85⟩, ⟨86, o86, c86, r86, 16, t86⟩, ⟨87, o87, c87, r87, 19, t87⟩, ⟨88, o88, c88, r88, 8, t88⟩, ⟨89, o89, c89, r89, 23, t89⟩, ⟨90, o90, c90, r90, 8, t90⟩]

end Go.Proofs.Ythlkjemalepnlaa
