/- The steps of the abstract run as one set of rewriting rules. No condition. -/
import Derived.Test.YtoadgajhkhejiaaAbWalk
import Derived.Attr
namespace Go.Ab
open Go
attribute [go_sem] O_prim aop aev tmpA wantA cval AV.okc AV.one AV.cells loadA ldc boolA intA clearA srcA setElem fillA lsplice binF unF isB chunks repeatA eqCells eqCell Value.oneCell' G gh sealV sealL List.cons_append List.nil_append List.append_nil List.length_cons List.length_nil List.set_cons_zero List.set_cons_succ List.getD_cons_zero List.getD_cons_succ List.drop_succ_cons List.drop_zero List.take_succ_cons List.take_zero List.head?_cons List.headD_cons Option.map_some Option.getD_some Option.getD_none Option.map_none Option.some.injEq if_true if_false Bool.false_eq_true List.all_cons List.all_nil Bool.and_self Bool.and_true Bool.true_and true_and and_true List.map_cons List.map_nil List.getElem?_cons_zero List.getElem?_cons_succ List.getElem?_nil Nat.zero_add Nat.add_zero ite_true ite_false Bool.not_true Bool.not_false Bool.not_eq_true' decide_true decide_false List.forall_mem_cons List.not_mem_nil false_imp_iff implies_true forall_const List.isEmpty_cons List.isEmpty_nil Nat.le_refl Int.toNat_natCast Int.natCast_nonneg beq_self_eq_true beq_true beq_false Bool.true_xor Bool.false_xor
end Go.Ab
