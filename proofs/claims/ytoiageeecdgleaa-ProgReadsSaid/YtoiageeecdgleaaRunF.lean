/- The code of the functions and what was checked of it, for the proofs that import this text. No condition. -/
import Derived.Test.YtoiageeecdgleaaCode
import Derived.Test.YtoiageeecdgleaaAbEval
import Derived.Laws.Externs
namespace Go.Proofs.Ytoiageeecdgleaa
open Go Go.Ab

theorem idx_ok (args : List AV) (σ : St) (r : AV) (σ' : St) (h : (match args with
  | [.pl (.string s), .pl (.int .u8 c)] => some (AV.pl (.int .i64 (firstIdx s c.toNat.toUInt8)), σ)
  | _ => none) = some (r, σ')) : Ans Try.prog 60 args σ r σ' := by
  split at h
  · rename_i s c
    simp only [Option.some.injEq, Prod.mk.injEq] at h
    obtain ⟨rfl, rfl⟩ := h
    intro M ν w vs g hvs
    refine .inr ⟨_, w, ?_, M, ν, g, .refl, .pl _⟩
    obtain ⟨hl, hr⟩ := hvs
    match vs, hl with
    | [a, b], _ =>
      have h0 := hr 0 (by simp) (by simp)
      have h1 := hr 1 (by simp) (by simp)
      simp only [List.getElem_cons_zero, List.getElem_cons_succ] at h0 h1
      cases h0; cases h1
      rw [run_callFunc_extern (e := Extern.BytealgIndexByte.indexByte) (P := Try.prog) (f := 60) (fn := Try.f60) (by kernel_rfl) (by kernel_rfl) (by kernel_rfl) (by kernel_rfl) (by kernel_rfl)]
      have := run_indexByte_string (P := Try.prog) s c w
      rw [this]
      rfl
  · simp at h

def extF : List (Ext Try.prog) := [⟨60, fun args σ => match args with
  | [.pl (.string s), .pl (.int .u8 c)] => some (.pl (.int .i64 (firstIdx s c.toNat.toUInt8)), σ)
  | _ => none, idx_ok⟩]

def allF : List (Fun Try.prog) := [⟨3, o3, c3, r3, 55, t3⟩, ⟨4, o4, c4, r4, 39, t4⟩, ⟨5, o5, c5, r5, 53, t5⟩, ⟨6, o6, c6, r6, 15, t6⟩, ⟨7, o7, c7, r7, 72, t7⟩, ⟨8, o8, c8, r8, 84, t8⟩, ⟨9, o9, c9, r9, 29, t9⟩, ⟨10, o10, c10, r10, 18, t10⟩, ⟨11, o11, c11, r11, 30, t11⟩, ⟨12, o12, c12, r12, 31, t12⟩, ⟨13, o13, c13, r13, 18, t13⟩, ⟨14, o14, c14, r14, 9, t14⟩, ⟨15, o15, c15, r15, 9, t15⟩, ⟨16, o16, c16, r16, 26, t16⟩, ⟨17, o17, c17, r17, 30, t17⟩, ⟨18, o18, c18, r18, 108, t18⟩, ⟨19, o19, c19, r19, 35, t19⟩, ⟨20, o20, c20, r20, 26, t20⟩, ⟨21, o21, c21, r21, 99, t21⟩, ⟨22, o22, c22, r22, 9, t22⟩, ⟨23, o23, c23, r23, 9, t23⟩, ⟨24, o24, c24, r24, 70, t24⟩, ⟨25, o25, c25, r25, 153, t25⟩, ⟨26, o26, c26, r26, 41, t26⟩, ⟨27, o27, c27, r27, 42, t27⟩, ⟨28, o28, c28, r28, 43, t28⟩, ⟨29, o29, c29, r29, 41, t29⟩, ⟨30, o30, c30, r30, 9, t30⟩, ⟨31, o31, c31, r31, 6, t31⟩, ⟨32, o32, c32, r32, 33, t32⟩, ⟨33, o33, c33, r33, 16, t33⟩, ⟨34, o34, c34, r34, 69, t34⟩, ⟨35, o35, c35, r35, 19, t35⟩, ⟨36, o36, c36, r36, 11, t36⟩, ⟨37, o37, c37, r37, 43, t37⟩, ⟨38, o38, c38, r38, 20, t38⟩, ⟨39, o39, c39, r39, 19, t39⟩, ⟨40, o40, c40, r40, 19, t40⟩, ⟨41, o41, c41, r41, 21, t41⟩, ⟨42, o42, c42, r42, 28, t42⟩, ⟨43, o43, c43, r43, 38, t43⟩, ⟨44, o44, c44, r44, 78, t44⟩, ⟨45, o45, c45, r45, 134, t45⟩, ⟨46, o46, c46, r46, 25, t46⟩, ⟨47, o47, c47, r47, 68, t47⟩, ⟨48, o48, c48, r48, 15, t48⟩, ⟨49, o49, c49, r49, 16, t49⟩, ⟨50, o50, c50, r50, 19, t50⟩, ⟨51, o51, c51, r51, 8, t51⟩, ⟨52, o52, c52, r52, 13, t52⟩, ⟨53, o53, c53, r53, 5, t53⟩, ⟨54, o54, c54, r54, 12, t54⟩, ⟨55, o55, c55, r55, 129, t55⟩, ⟨56, o56, c56, r56, 15, t56⟩, ⟨57, o57, c57, r57, 23, t57⟩, ⟨58, o58, c58, r58, 8, t58⟩, ⟨59, o59, c59, r59, 79, t59⟩]
end Go.Proofs.Ytoiageeecdgleaa
