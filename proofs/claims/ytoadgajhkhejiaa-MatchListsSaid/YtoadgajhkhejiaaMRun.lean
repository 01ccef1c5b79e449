/- The functions and the externs that the evaluator may run. No condition. -/
import Derived.Test.YtoadgajhkhejiaaMCode1
import Derived.Test.YtoadgajhkhejiaaMCode2
import Derived.Test.YtoadgajhkhejiaaAbEval
import Derived.Laws.Externs
namespace Go.Proofs.Ytoadgajhkhejiaa
open Go Go.Ab
theorem ext1_ok (f : FuncId) (fn : Func) (hf : Try.prog.funcs[f]? = some fn) (hname : (fn.name == "runtime.NumGoroutine") = false) (hb : fn.body.isNone = true) (hn : Extern.findNext fn = none)
    (e : Array Value → Sem Value) (he : Extern.find fn = some e) (g : Value → Option Value) (hg : ∀ v r w, g v = some r → (e #[v]).run Try.prog w = .ok r w)
    (args : List AV) (σ : St) (r : AV) (σ' : St) (h : (match args with | [.pl v] => (g v).map fun r => (AV.pl r, σ) | _ => none) = some (r, σ')) : Ans Try.prog f args σ r σ' := by
  split at h
  · rename_i v
    obtain ⟨q, hq, h⟩ := opt_map_some h
    simp only [Prod.mk.injEq] at h
    obtain ⟨rfl, rfl⟩ := h
    intro M ν w vs gd hvs
    refine .inr ⟨q, w, ?_, M, ν, gd, .refl, .pl _⟩
    obtain ⟨hl, hr⟩ := hvs
    match vs, hl with
    | [a], _ =>
      have h0 := hr 0 (by simp) (by simp)
      simp only [List.getElem_cons_zero] at h0
      cases h0
      rw [run_callFunc_extern hf hname hb hn he]
      rw [show ([v].toArray) = #[v] from rfl, hg v q w hq]
      rfl
  · simp at h
def bitsG : Value → Option Value
  | .float .f64 b => some (.int .u64 b)
  | _ => none
theorem bitsG_ok (v r : Value) (w : World) (h : bitsG v = some r) : (Extern.MathFloatBits.float64bits #[v]).run Try.prog w = .ok r w := by
  unfold bitsG at h
  split at h <;> simp at h
  subst h; rfl
def ext_bits : Ext Try.prog := ⟨126, fun args σ => match args with | [.pl v] => (bitsG v).map fun r => (AV.pl r, σ) | _ => none,
  ext1_ok 126 Try.f126 (by kernel_rfl) (by kernel_rfl) (by kernel_rfl) (by kernel_rfl) Extern.MathFloatBits.float64bits (by kernel_rfl) bitsG bitsG_ok⟩
theorem cmp_ok (args : List AV) (σ : St) (r : AV) (σ' : St) (h : (match args with
  | [.pl (.string a), .pl (.string b)] => some (AV.pl (.int .i64 (Extern.BytealgCompare.cmp a b)), σ)
  | _ => none) = some (r, σ')) : Ans Try.prog 139 args σ r σ' := by
  split at h
  · rename_i s c
    simp only [Option.some.injEq, Prod.mk.injEq] at h
    obtain ⟨rfl, rfl⟩ := h
    intro M ν w vs g hvs
    refine .inr ⟨_, w, ?_, M, ν, g, .refl, .pl _⟩
    obtain ⟨hl, hr⟩ := hvs
    match vs, hl with
    | [a, b], _ =>
      have h0 := hr 0 (by simp) (by simp)
      have h1 := hr 1 (by simp) (by simp)
      simp only [List.getElem_cons_zero, List.getElem_cons_succ] at h0 h1
      cases h0; cases h1
      rw [run_callFunc_extern (e := Extern.BytealgCompare.compare) (P := Try.prog) (f := 139) (fn := Try.f139) (by kernel_rfl) (by kernel_rfl) (by kernel_rfl) (by kernel_rfl) (by kernel_rfl)]
      rfl
  · simp at h
def ext_cmp : Ext Try.prog := ⟨139, fun args σ => match args with
  | [.pl (.string a), .pl (.string b)] => some (.pl (.int .i64 (Extern.BytealgCompare.cmp a b)), σ)
  | _ => none, cmp_ok⟩
theorem idx_ok (args : List AV) (σ : St) (r : AV) (σ' : St) (h : (match args with
  | [.pl (.string s), .pl (.int .u8 c)] => some (AV.pl (.int .i64 (firstIdx s c.toNat.toUInt8)), σ)
  | _ => none) = some (r, σ')) : Ans Try.prog 159 args σ r σ' := by
  split at h
  · rename_i s c
    simp only [Option.some.injEq, Prod.mk.injEq] at h
    obtain ⟨rfl, rfl⟩ := h
    intro M ν w vs g hvs
    refine .inr ⟨_, w, ?_, M, ν, g, .refl, .pl _⟩
    obtain ⟨hl, hr⟩ := hvs
    match vs, hl with
    | [a, b], _ =>
      have h0 := hr 0 (by simp) (by simp)
      have h1 := hr 1 (by simp) (by simp)
      simp only [List.getElem_cons_zero, List.getElem_cons_succ] at h0 h1
      cases h0; cases h1
      rw [run_callFunc_extern (e := Extern.BytealgIndexByte.indexByte) (P := Try.prog) (f := 159) (fn := Try.f159) (by kernel_rfl) (by kernel_rfl) (by kernel_rfl) (by kernel_rfl) (by kernel_rfl)]
      have := run_indexByte_string (P := Try.prog) s c w
      rw [this]
      rfl
  · simp at h
def ext_idx : Ext Try.prog := ⟨159, fun args σ => match args with
  | [.pl (.string s), .pl (.int .u8 c)] => some (.pl (.int .i64 (firstIdx s c.toNat.toUInt8)), σ)
  | _ => none, idx_ok⟩
def extF : List (Ext Try.prog) := [ext_bits, ext_cmp, ext_idx]
def allF : List (Fun Try.prog) := [⟨13, o13, c13, r13, 13, t13⟩, ⟨14, o14, c14, r14, 35, t14⟩, ⟨15, o15, c15, r15, 44, t15⟩, ⟨16, o16, c16, r16, 32, t16⟩, ⟨17, o17, c17, r17, 32, t17⟩, ⟨18, o18, c18, r18, 20, t18⟩, ⟨19, o19, c19, r19, 22, t19⟩, ⟨24, o24, c24, r24, 33, t24⟩, ⟨25, o25, c25, r25, 9, t25⟩, ⟨26, o26, c26, r26, 36, t26⟩, ⟨27, o27, c27, r27, 5, t27⟩, ⟨28, o28, c28, r28, 15, t28⟩, ⟨29, o29, c29, r29, 19, t29⟩, ⟨35, o35, c35, r35, 24, t35⟩, ⟨46, o46, c46, r46, 58, t46⟩, ⟨47, o47, c47, r47, 58, t47⟩, ⟨48, o48, c48, r48, 16, t48⟩, ⟨49, o49, c49, r49, 18, t49⟩, ⟨50, o50, c50, r50, 44, t50⟩, ⟨51, o51, c51, r51, 41, t51⟩, ⟨52, o52, c52, r52, 11, t52⟩, ⟨53, o53, c53, r53, 29, t53⟩, ⟨54, o54, c54, r54, 55, t54⟩, ⟨55, o55, c55, r55, 11, t55⟩, ⟨56, o56, c56, r56, 30, t56⟩, ⟨57, o57, c57, r57, 9, t57⟩, ⟨66, o66, c66, r66, 22, t66⟩, ⟨67, o67, c67, r67, 9, t67⟩, ⟨68, o68, c68, r68, 8, t68⟩, ⟨69, o69, c69, r69, 30, t69⟩, ⟨88, o88, c88, r88, 19, t88⟩, ⟨89, o89, c89, r89, 8, t89⟩, ⟨90, o90, c90, r90, 18, t90⟩, ⟨91, o91, c91, r91, 30, t91⟩, ⟨92, o92, c92, r92, 6, t92⟩, ⟨93, o93, c93, r93, 48, t93⟩, ⟨94, o94, c94, r94, 21, t94⟩, ⟨95, o95, c95, r95, 26, t95⟩, ⟨96, o96, c96, r96, 41, t96⟩, ⟨97, o97, c97, r97, 42, t97⟩, ⟨98, o98, c98, r98, 43, t98⟩, ⟨101, o101, c101, r101, 18, t101⟩, ⟨102, o102, c102, r102, 8, t102⟩, ⟨103, o103, c103, r103, 20, t103⟩, ⟨104, o104, c104, r104, 19, t104⟩, ⟨111, o111, c111, r111, 9, t111⟩, ⟨112, o112, c112, r112, 99, t112⟩, ⟨113, o113, c113, r113, 9, t113⟩, ⟨114, o114, c114, r114, 9, t114⟩, ⟨115, o115, c115, r115, 70, t115⟩, ⟨116, o116, c116, r116, 50, t116⟩, ⟨117, o117, c117, r117, 33, t117⟩, ⟨118, o118, c118, r118, 16, t118⟩, ⟨119, o119, c119, r119, 43, t119⟩, ⟨120, o120, c120, r120, 20, t120⟩, ⟨123, o123, c123, r123, 8, t123⟩, ⟨124, o124, c124, r124, 6, t124⟩, ⟨127, o127, c127, r127, 35, t127⟩, ⟨128, o128, c128, r128, 41, t128⟩, ⟨129, o129, c129, r129, 69, t129⟩, ⟨130, o130, c130, r130, 19, t130⟩, ⟨131, o131, c131, r131, 11, t131⟩, ⟨132, o132, c132, r132, 19, t132⟩, ⟨133, o133, c133, r133, 21, t133⟩, ⟨134, o134, c134, r134, 28, t134⟩, ⟨135, o135, c135, r135, 38, t135⟩, ⟨136, o136, c136, r136, 15, t136⟩, ⟨137, o137, c137, r137, 30, t137⟩, ⟨138, o138, c138, r138, 21, t138⟩, ⟨140, o140, c140, r140, 9, t140⟩, ⟨141, o141, c141, r141, 6, t141⟩, ⟨142, o142, c142, r142, 78, t142⟩, ⟨143, o143, c143, r143, 134, t143⟩, ⟨144, o144, c144, r144, 19, t144⟩, ⟨145, o145, c145, r145, 25, t145⟩, ⟨146, o146, c146, r146, 68, t146⟩, ⟨147, o147, c147, r147, 15, t147⟩, ⟨148, o148, c148, r148, 16, t148⟩, ⟨149, o149, c149, r149, 19, t149⟩, ⟨150, o150, c150, r150, 8, t150⟩, ⟨151, o151, c151, r151, 13, t151⟩, ⟨152, o152, c152, r152, 5, t152⟩, ⟨153, o153, c153, r153, 12, t153⟩, ⟨154, o154, c154, r154, 129, t154⟩, ⟨155, o155, c155, r155, 15, t155⟩, ⟨156, o156, c156, r156, 23, t156⟩, ⟨157, o157, c157, r157, 8, t157⟩, ⟨158, o158, c158, r158, 79, t158⟩]
end Go.Proofs.Ytoadgajhkhejiaa
