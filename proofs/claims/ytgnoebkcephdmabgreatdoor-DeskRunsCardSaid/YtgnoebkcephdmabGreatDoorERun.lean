/- The functions and the externs that the evaluator may run. No condition. -/
import Derived.Test.YtgnoebkcephdmabGreatDoorECode1
import Derived.Test.YtgnoebkcephdmabGreatDoorECode2
import Derived.Test.YtgnoebkcephdmabGreatDoorECode3
import Derived.Test.YtgnoebkcephdmabGreatDoorAbEval
import Derived.Laws.Externs
namespace Go.Proofs.YtgnoebkcephdmabGreatDoor
open Go Go.Ab

theorem ext1_ok (f : FuncId) (fn : Func) (hf : Tryz.prog.funcs[f]? = some fn) (hname : (fn.name == "runtime.NumGoroutine") = false) (hb : fn.body.isNone = true) (hn : Extern.findNext fn = none)
    (e : Array Value → Sem Value) (he : Extern.find fn = some e) (g : Value → Option Value) (hg : ∀ v r w, g v = some r → (e #[v]).run Tryz.prog w = .ok r w)
    (args : List AV) (σ : St) (r : AV) (σ' : St) (h : (match args with | [.pl v] => (g v).map fun r => (AV.pl r, σ) | _ => none) = some (r, σ')) : Ans Tryz.prog f args σ r σ' := by
  split at h
  · rename_i v
    obtain ⟨q, hq, h⟩ := opt_map_some h
    simp only [Prod.mk.injEq] at h
    obtain ⟨rfl, rfl⟩ := h
    intro M ν w vs gd hvs
    refine .inr ⟨q, w, ?_, M, ν, gd, .refl, .pl _⟩
    obtain ⟨hl, hr⟩ := hvs
    match vs, hl with
    | [a], _ =>
      have h0 := hr 0 (by simp) (by simp)
      simp only [List.getElem_cons_zero] at h0
      cases h0
      rw [run_callFunc_extern hf hname hb hn he]
      rw [show ([v].toArray) = #[v] from rfl, hg v q w hq]
      rfl
  · simp at h

def bitsG : Value → Option Value
  | .float .f64 b => some (.int .u64 b)
  | _ => none
theorem bitsG_ok (v r : Value) (w : World) (h : bitsG v = some r) : (Extern.MathFloatBits.float64bits #[v]).run Tryz.prog w = .ok r w := by
  unfold bitsG at h
  split at h <;> simp at h
  subst h; rfl
def ext_bits : Ext Tryz.prog := ⟨73, fun args σ => match args with | [.pl v] => (bitsG v).map fun r => (AV.pl r, σ) | _ => none,
  ext1_ok 73 Tryz.f73 (by kernel_rfl) (by kernel_rfl) (by kernel_rfl) (by kernel_rfl) Extern.MathFloatBits.float64bits (by kernel_rfl) bitsG bitsG_ok⟩

def frombitsG : Value → Option Value
  | .int .u64 n => some (.float .f64 n.toNat)
  | _ => none
theorem frombitsG_ok (v r : Value) (w : World) (h : frombitsG v = some r) : (Extern.MathFloatBits.float64frombits #[v]).run Tryz.prog w = .ok r w := by
  unfold frombitsG at h
  split at h <;> simp at h
  subst h; rfl
def ext_frombits : Ext Tryz.prog := ⟨147, fun args σ => match args with | [.pl v] => (frombitsG v).map fun r => (AV.pl r, σ) | _ => none,
  ext1_ok 147 Tryz.f147 (by kernel_rfl) (by kernel_rfl) (by kernel_rfl) (by kernel_rfl) Extern.MathFloatBits.float64frombits (by kernel_rfl) frombitsG frombitsG_ok⟩

theorem cmp_ok (args : List AV) (σ : St) (r : AV) (σ' : St) (h : (match args with
  | [.pl (.string a), .pl (.string b)] => some (AV.pl (.int .i64 (Extern.BytealgCompare.cmp a b)), σ)
  | _ => none) = some (r, σ')) : Ans Tryz.prog 156 args σ r σ' := by
  split at h
  · rename_i s c
    simp only [Option.some.injEq, Prod.mk.injEq] at h
    obtain ⟨rfl, rfl⟩ := h
    intro M ν w vs g hvs
    refine .inr ⟨_, w, ?_, M, ν, g, .refl, .pl _⟩
    obtain ⟨hl, hr⟩ := hvs
    match vs, hl with
    | [a, b], _ =>
      have h0 := hr 0 (by simp) (by simp)
      have h1 := hr 1 (by simp) (by simp)
      simp only [List.getElem_cons_zero, List.getElem_cons_succ] at h0 h1
      cases h0; cases h1
      rw [run_callFunc_extern (e := Extern.BytealgCompare.compare) (P := Tryz.prog) (f := 156) (fn := Tryz.f156) (by kernel_rfl) (by kernel_rfl) (by kernel_rfl) (by kernel_rfl) (by kernel_rfl)]
      rfl
  · simp at h

def ext_cmp : Ext Tryz.prog := ⟨156, fun args σ => match args with
  | [.pl (.string a), .pl (.string b)] => some (.pl (.int .i64 (Extern.BytealgCompare.cmp a b)), σ)
  | _ => none, cmp_ok⟩

theorem idx_ok (args : List AV) (σ : St) (r : AV) (σ' : St) (h : (match args with
  | [.pl (.string s), .pl (.int .u8 c)] => some (AV.pl (.int .i64 (firstIdx s c.toNat.toUInt8)), σ)
  | _ => none) = some (r, σ')) : Ans Tryz.prog 182 args σ r σ' := by
  split at h
  · rename_i s c
    simp only [Option.some.injEq, Prod.mk.injEq] at h
    obtain ⟨rfl, rfl⟩ := h
    intro M ν w vs g hvs
    refine .inr ⟨_, w, ?_, M, ν, g, .refl, .pl _⟩
    obtain ⟨hl, hr⟩ := hvs
    match vs, hl with
    | [a, b], _ =>
      have h0 := hr 0 (by simp) (by simp)
      have h1 := hr 1 (by simp) (by simp)
      simp only [List.getElem_cons_zero, List.getElem_cons_succ] at h0 h1
      cases h0; cases h1
      rw [run_callFunc_extern (e := Extern.BytealgIndexByte.indexByte) (P := Tryz.prog) (f := 182) (fn := Tryz.f182) (by kernel_rfl) (by kernel_rfl) (by kernel_rfl) (by kernel_rfl) (by kernel_rfl)]
      have := run_indexByte_string (P := Tryz.prog) s c w
      rw [this]
      rfl
  · simp at h

def ext_idx : Ext Tryz.prog := ⟨182, fun args σ => match args with
  | [.pl (.string s), .pl (.int .u8 c)] => some (.pl (.int .i64 (firstIdx s c.toNat.toUInt8)), σ)
  | _ => none, idx_ok⟩

def extF : List (Ext Tryz.prog) := [ext_bits, ext_frombits, ext_cmp, ext_idx]

def allF : List (Fun Tryz.prog) := [⟨2, o2, c2, r2, 1, t2⟩, ⟨3, o3, c3, r3, 66, t3⟩, ⟨4, o4, c4, r4, 28, t4⟩, ⟨5, o5, c5, r5, 7, t5⟩, ⟨6, o6, c6, r6, 13, t6⟩, ⟨7, o7, c7, r7, 14, t7⟩, ⟨8, o8, c8, r8, 8, t8⟩, ⟨9, o9, c9, r9, 15, t9⟩, ⟨10, o10, c10, r10, 8, t10⟩, ⟨11, o11, c11, r11, 7, t11⟩, ⟨12, o12, c12, r12, 42, t12⟩, ⟨13, o13, c13, r13, 7, t13⟩, ⟨14, o14, c14, r14, 86, t14⟩, ⟨15, o15, c15, r15, 78, t15⟩, ⟨16, o16, c16, r16, 20, t16⟩, ⟨17, o17, c17, r17, 8, t17⟩, ⟨18, o18, c18, r18, 13, t18⟩, ⟨19, o19, c19, r19, 11, t19⟩, ⟨20, o20, c20, r20, 25, t20⟩, ⟨21, o21, c21, r21, 30, t21⟩, ⟨22, o22, c22, r22, 20, t22⟩, ⟨23, o23, c23, r23, 82, t23⟩, ⟨24, o24, c24, r24, 13, t24⟩, ⟨25, o25, c25, r25, 11, t25⟩, ⟨26, o26, c26, r26, 30, t26⟩, ⟨27, o27, c27, r27, 30, t27⟩, ⟨28, o28, c28, r28, 7, t28⟩, ⟨29, o29, c29, r29, 73, t29⟩, ⟨30, o30, c30, r30, 45, t30⟩, ⟨31, o31, c31, r31, 18, t31⟩, ⟨32, o32, c32, r32, 27, t32⟩, ⟨33, o33, c33, r33, 15, t33⟩, ⟨34, o34, c34, r34, 44, t34⟩, ⟨35, o35, c35, r35, 8, t35⟩, ⟨36, o36, c36, r36, 38, t36⟩, ⟨37, o37, c37, r37, 8, t37⟩, ⟨38, o38, c38, r38, 29, t38⟩, ⟨39, o39, c39, r39, 11, t39⟩, ⟨40, o40, c40, r40, 24, t40⟩, ⟨41, o41, c41, r41, 22, t41⟩, ⟨42, o42, c42, r42, 31, t42⟩, ⟨43, o43, c43, r43, 14, t43⟩, ⟨44, o44, c44, r44, 36, t44⟩, ⟨45, o45, c45, r45, 19, t45⟩, ⟨46, o46, c46, r46, 9, t46⟩, ⟨47, o47, c47, r47, 37, t47⟩, ⟨48, o48, c48, r48, 17, t48⟩, ⟨49, o49, c49, r49, 38, t49⟩, ⟨50, o50, c50, r50, 31, t50⟩, ⟨51, o51, c51, r51, 22, t51⟩, ⟨52, o52, c52, r52, 7, t52⟩, ⟨53, o53, c53, r53, 23, t53⟩, ⟨54, o54, c54, r54, 8, t54⟩, ⟨55, o55, c55, r55, 40, t55⟩, ⟨56, o56, c56, r56, 10, t56⟩, ⟨57, o57, c57, r57, 17, t57⟩, ⟨58, o58, c58, r58, 9, t58⟩, ⟨59, o59, c59, r59, 42, t59⟩, ⟨60, o60, c60, r60, 8, t60⟩, ⟨61, o61, c61, r61, 33, t61⟩, ⟨62, o62, c62, r62, 45, t62⟩, ⟨63, o63, c63, r63, 114, t63⟩, ⟨64, o64, c64, r64, 134, t64⟩, ⟨65, o65, c65, r65, 8, t65⟩, ⟨66, o66, c66, r66, 100, t66⟩, ⟨67, o67, c67, r67, 89, t67⟩, ⟨68, o68, c68, r68, 27, t68⟩, ⟨69, o69, c69, r69, 33, t69⟩, ⟨70, o70, c70, r70, 65, t70⟩, ⟨71, o71, c71, r71, 46, t71⟩, ⟨72, o72, c72, r72, 6, t72⟩, ⟨74, o74, c74, r74, 14, t74⟩, ⟨75, o75, c75, r75, 54, t75⟩, ⟨76, o76, c76, r76, 8, t76⟩, ⟨77, o77, c77, r77, 19, t77⟩, ⟨78, o78, c78, r78, 89, t78⟩, ⟨79, o79, c79, r79, 17, t79⟩, ⟨80, o80, c80, r80, 49, t80⟩, ⟨81, o81, c81, r81, 56, t81⟩, ⟨82, o82, c82, r82, 65, t82⟩, ⟨83, o83, c83, r83, 57, t83⟩, ⟨84, o84, c84, r84, 32, t84⟩, ⟨85, o85, c85, r85, 133, t85⟩, ⟨86, o86, c86, r86, 17, t86⟩, ⟨87, o87, c87, r87, 84, t87⟩, ⟨88, o88, c88, r88, 168, t88⟩, ⟨89, o89, c89, r89, 19, t89⟩, ⟨90, o90, c90, r90, 25, t90⟩, ⟨91, o91, c91, r91, 16, t91⟩, ⟨92, o92, c92, r92, 24, t92⟩, ⟨93, o93, c93, r93, 6, t93⟩, ⟨94, o94, c94, r94, 20, t94⟩, ⟨95, o95, c95, r95, 32, t95⟩, ⟨96, o96, c96, r96, 22, t96⟩, ⟨97, o97, c97, r97, 41, t97⟩, ⟨98, o98, c98, r98, 11, t98⟩, ⟨99, o99, c99, r99, 6, t99⟩, ⟨100, o100, c100, r100, 25, t100⟩, ⟨101, o101, c101, r101, 93, t101⟩, ⟨102, o102, c102, r102, 17, t102⟩, ⟨103, o103, c103, r103, 6, t103⟩, ⟨104, o104, c104, r104, 9, t104⟩, ⟨105, o105, c105, r105, 8, t105⟩, ⟨106, o106, c106, r106, 8, t106⟩, ⟨107, o107, c107, r107, 76, t107⟩, ⟨108, o108, c108, r108, 7, t108⟩, ⟨109, o109, c109, r109, 33, t109⟩, ⟨110, o110, c110, r110, 15, t110⟩, ⟨111, o111, c111, r111, 36, t111⟩, ⟨112, o112, c112, r112, 6, t112⟩, ⟨113, o113, c113, r113, 11, t113⟩, ⟨114, o114, c114, r114, 29, t114⟩, ⟨115, o115, c115, r115, 18, t115⟩, ⟨116, o116, c116, r116, 8, t116⟩, ⟨117, o117, c117, r117, 20, t117⟩, ⟨118, o118, c118, r118, 21, t118⟩, ⟨119, o119, c119, r119, 12, t119⟩, ⟨120, o120, c120, r120, 15, t120⟩, ⟨121, o121, c121, r121, 7, t121⟩, ⟨122, o122, c122, r122, 26, t122⟩, ⟨123, o123, c123, r123, 22, t123⟩, ⟨124, o124, c124, r124, 24, t124⟩, ⟨125, o125, c125, r125, 40, t125⟩, ⟨126, o126, c126, r126, 24, t126⟩, ⟨127, o127, c127, r127, 40, t127⟩, ⟨128, o128, c128, r128, 24, t128⟩, ⟨129, o129, c129, r129, 44, t129⟩, ⟨130, o130, c130, r130, 24, t130⟩, ⟨131, o131, c131, r131, 37, t131⟩, ⟨132, o132, c132, r132, 12, t132⟩, ⟨133, o133, c133, r133, 16, t133⟩, ⟨134, o134, c134, r134, 6, t134⟩, ⟨135, o135, c135, r135, 42, t135⟩, ⟨136, o136, c136, r136, 10, t136⟩, ⟨137, o137, c137, r137, 8, t137⟩, ⟨138, o138, c138, r138, 9, t138⟩, ⟨139, o139, c139, r139, 28, t139⟩, ⟨140, o140, c140, r140, 26, t140⟩, ⟨141, o141, c141, r141, 8, t141⟩, ⟨142, o142, c142, r142, 12, t142⟩, ⟨143, o143, c143, r143, 36, t143⟩, ⟨144, o144, c144, r144, 43, t144⟩, ⟨145, o145, c145, r145, 48, t145⟩, ⟨146, o146, c146, r146, 15, t146⟩, ⟨148, o148, c148, r148, 24, t148⟩, ⟨149, o149, c149, r149, 19, t149⟩, ⟨150, o150, c150, r150, 8, t150⟩, ⟨151, o151, c151, r151, 11, t151⟩, ⟨152, o152, c152, r152, 61, t152⟩, ⟨153, o153, c153, r153, 19, t153⟩, ⟨154, o154, c154, r154, 33, t154⟩, ⟨155, o155, c155, r155, 16, t155⟩, ⟨157, o157, c157, r157, 134, t157⟩, ⟨158, o158, c158, r158, 19, t158⟩, ⟨159, o159, c159, r159, 21, t159⟩, ⟨160, o160, c160, r160, 28, t160⟩, ⟨161, o161, c161, r161, 49, t161⟩, ⟨162, o162, c162, r162, 56, t162⟩, ⟨163, o163, c163, r163, 65, t163⟩, ⟨164, o164, c164, r164, 57, t164⟩, ⟨165, o165, c165, r165, 32, t165⟩, ⟨166, o166, c166, r166, 133, t166⟩, ⟨167, o167, c167, r167, 84, t167⟩, ⟨168, o168, c168, r168, 168, t168⟩, ⟨169, o169, c169, r169, 78, t169⟩, ⟨170, o170, c170, r170, 76, t170⟩, ⟨171, o171, c171, r171, 15, t171⟩, ⟨172, o172, c172, r172, 36, t172⟩, ⟨173, o173, c173, r173, 25, t173⟩, ⟨174, o174, c174, r174, 68, t174⟩, ⟨175, o175, c175, r175, 15, t175⟩, ⟨176, o176, c176, r176, 16, t176⟩, ⟨177, o177, c177, r177, 19, t177⟩, ⟨178, o178, c178, r178, 8, t178⟩, ⟨179, o179, c179, r179, 28, t179⟩, ⟨180, o180, c180, r180, 23, t180⟩, ⟨181, o181, c181, r181, 8, t181⟩, ⟨205, o205, c205, r205, 1, t205⟩]

end Go.Proofs.YtgnoebkcephdmabGreatDoor
